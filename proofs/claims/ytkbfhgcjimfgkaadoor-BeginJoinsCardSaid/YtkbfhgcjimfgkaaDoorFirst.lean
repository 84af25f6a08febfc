/- The first texts of this claim, one behind the other. -/
import Derived.Test.YtkbfhgcjimfgkaaDoorOp
import Derived.Test.YtkbfhgcjimfgkaaDoorText2
import Derived.Test.YtkbfhgcjimfgkaaDoorRows
import Derived.Test.YtkbfhgcjimfgkaaDoorBag
import Derived.Lib.Builder
import Derived.Lib.AppendStr
import Derived.Lib.UnsafeStr
import Derived.Laws.Externs
import Derived.BigQuiet
import Derived.Test.YtkbfhgcjimfgkaaDoorKeep
import Derived.Deep.RegionWith
import Derived.Deep.RegionHeld3
import Derived.Orders
import Derived.Tactics2
import Derived.Deep.AppendLies
import Derived.WalkSpells
import Derived.Lib.SliceRun
import Derived.ArgAppend
import Derived.Deep.Upon
import Derived.Test.YtkbfhgcjimfgkaaDoorTree
import Derived.Test.YtkbfhgcjimfgkaaDoorBase
set_option linter.unusedVariables false
set_option linter.unusedSimpArgs false
namespace Go.Proofs.YtkbfhgcjimfgkaaDoor
open Go.RowKit

theorem bytes_ext {a b : ByteArray} (h : a.data.toList = b.data.toList) : a = b := by
  apply ByteArray.ext
  exact Array.ext' h
theorem enc_dec_str (s : Str) (h : valid s = true) : Uni.enc (Uni.dec s.data.toList) = s ∧ ∀ r ∈ Uni.dec s.data.toList, Uni.vr r := by
  obtain ⟨h1, h2⟩ := Uni.enc_dec_all s.data.toList h
  refine ⟨bytes_ext ?_, h2⟩
  unfold Uni.enc
  simp only
  exact h1
theorem valid_ex {s : Str} (h : valid s = true) : ∃ rs, s = Uni.enc rs ∧ ∀ r ∈ rs, Uni.vr r := ⟨_, (enc_dec_str s h).1.symm, (enc_dec_str s h).2⟩
theorem enc_append (a b : List Nat) : Uni.enc (a ++ b) = Uni.enc a ++ Uni.enc b := by
  apply bytes_ext
  simp [Uni.enc, Uni.encL_append, ByteArray.data_append]
theorem append_valid {a b : Str} (ha : valid a = true) (hb : valid b = true) : valid (a ++ b) = true ∧ rc (a ++ b) = rc a + rc b := by
  obtain ⟨x, rfl, hx⟩ := valid_ex ha
  obtain ⟨y, rfl, hy⟩ := valid_ex hb
  have h : ∀ r ∈ x ++ y, Uni.vr r := fun r hr => by
    rcases List.mem_append.1 hr with h | h
    · exact hx r h
    · exact hy r h
  rw [← enc_append, valid_enc _ h, rc_enc _ h, rc_enc _ hx, rc_enc _ hy, List.length_append]
  exact ⟨rfl, by push_cast; rfl⟩
theorem loop_len (s : ByteArray) : ∀ (n i : Nat) (r : List UInt8), s.size - i ≤ n → (ByteArray.toList.loop s i r).length = r.length + (s.size - i) := by
  intro n
  induction n with
  | zero =>
    intro i r h
    unfold ByteArray.toList.loop
    rw [if_neg (by omega), List.length_reverse]
    omega
  | succ n ih =>
    intro i r h
    unfold ByteArray.toList.loop
    split
    · rw [ih _ _ (by omega), List.length_cons]
      omega
    · rw [List.length_reverse]
      omega
theorem emptyS_iff (s : Str) : emptyS s = true ↔ s.size = 0 := by
  unfold emptyS
  rw [List.isEmpty_iff, ← List.length_eq_zero_iff]
  unfold ByteArray.toList
  rw [loop_len s s.size 0 [] (by omega)]
  simp
theorem noText_valid : valid noText = true := rfl
theorem rc_noText : rc noText = 0 := rfl
theorem emptyS_noText : emptyS noText = true := by rw [emptyS_iff]; rfl
theorem emptyS_append (a b : Str) : emptyS (a ++ b) = (emptyS a && emptyS b) := by
  have h1 := emptyS_iff a
  have h2 := emptyS_iff b
  have h3 := emptyS_iff (a ++ b)
  rw [size_app] at h3
  rw [Bool.eq_iff_iff, Bool.and_eq_true, h1, h2, h3]
  omega
theorem app_noText (a : Str) : a ++ noText = a := by apply bytes_ext; simp [noText, ByteArray.data_append]
theorem noText_app (a : Str) : noText ++ a = a := by apply bytes_ext; simp [noText, ByteArray.data_append]
theorem eq_noText {s : Str} (h : emptyS s = true) : s = noText := by
  rw [emptyS_iff] at h
  apply bytes_ext
  have : s.data.toList.length = 0 := by simpa using h
  rw [List.eq_nil_of_length_eq_zero this]; rfl
theorem rc_empty {s : Str} (h : emptyS s = true) : rc s = 0 := by rw [eq_noText h]; rfl

/-- a part that may be added: a keep or a delete of so many runes, or an insert of a text -/
def Proto (p : Part) : Prop := ((p.kind = 1 ∨ p.kind = 3) ∧ 0 ≤ p.n ∧ p.text = noText) ∨ (p.kind = 2 ∧ p.n = 0 ∧ valid p.text = true)
/-- .. and that is not for nothing -/
def Solid (p : Part) : Prop := ((p.kind = 1 ∨ p.kind = 3) ∧ 1 ≤ p.n ∧ p.text = noText) ∨ (p.kind = 2 ∧ p.n = 0 ∧ valid p.text = true ∧ emptyS p.text = false)
/-- parts, the last one first, in their one form -/
def Canon : List Part → Prop
  | [] => True
  | [p] => Solid p
  | p :: q :: r => Solid p ∧ clash q.kind p.kind = false ∧ Canon (q :: r)
theorem Canon.tail {p : Part} {r : List Part} (h : Canon (p :: r)) : Canon r := by
  cases r with
  | nil => trivial
  | cons q r => exact h.2.2
theorem Canon.head {p : Part} {r : List Part} (h : Canon (p :: r)) : Solid p := by
  cases r with
  | nil => exact h
  | cons q r => exact h.1
theorem Canon.all {r : List Part} (h : Canon r) : ∀ p ∈ r, Solid p := by
  induction r with
  | nil => simp
  | cons q r ih =>
    intro p hp
    rcases List.mem_cons.1 hp with rfl | hp
    · exact h.head
    · exact ih h.tail p hp
theorem Canon.cons {p : Part} {r : List Part} (h : Canon r) (hp : Solid p) (hc : ∀ q, r.head? = some q → clash q.kind p.kind = false) : Canon (p :: r) := by
  cases r with
  | nil => exact hp
  | cons q r => exact ⟨hp, hc q rfl, h⟩
theorem Proto.solid {p : Part} (h : Proto p) (ht : triv p = false) : Solid p := by
  rcases h with ⟨hk, hn, ht2⟩ | ⟨hk, hn, hv⟩
  · left
    refine ⟨hk, ?_, ht2⟩
    have : p.n ≠ 0 := by
      intro h0
      rcases hk with hk | hk <;> simp [triv, hk, h0] at ht
    omega
  · right
    refine ⟨hk, hn, hv, ?_⟩
    simpa [triv, hk] using ht
theorem Solid.proto {p : Part} (h : Solid p) : Proto p := by
  rcases h with ⟨a, b, c⟩ | ⟨a, b, c, _⟩
  · exact .inl ⟨a, by omega, c⟩
  · exact .inr ⟨a, b, c⟩
theorem merge_solid {p q : Part} (hq : Solid q) (hp : Proto p) (hk : q.kind = p.kind) : Solid ⟨q.kind, q.n + p.n, q.text ++ p.text⟩ := by
  rcases hq with ⟨a, b, c⟩ | ⟨a, b, c, d⟩
  · rcases hp with ⟨a', b', c'⟩ | ⟨a', _, _⟩
    · exact .inl ⟨a, by simp only; omega, by simp only [c, c', app_noText]⟩
    · omega
  · rcases hp with ⟨a', _, _⟩ | ⟨a', b', c'⟩
    · omega
    · exact .inr ⟨a, by simp only; omega, (append_valid c c').1, by simp only [emptyS_append, d, Bool.false_and]⟩
theorem clash_false {q p : Int} (h1 : ¬ q = p) (h2 : ¬ (p = 2 ∧ q = 3)) : clash q p = false := by
  unfold clash; simp; exact ⟨h1, fun h => fun h' => h2 ⟨h', h⟩⟩
/-- added parts stand in their one form; what a text of parts begins with is said, too -/
theorem addR_canon {p : Part} (hp : Proto p) : ∀ {r : List Part}, Canon r → Canon (addR r p) ∧ (triv p = false → p.kind = 2 → (∀ q, r.head? = some q → q.kind ≠ 3) → ∀ q, (addR r p).head? = some q → q.kind = 2)
  | [], _ => by
    cases ht : triv p with
    | true => simp [addR, ht, Canon]
    | false => rw [addR_nil ht]; exact ⟨hp.solid ht, fun _ hk _ q hq => by simp at hq; rw [← hq]; exact hk⟩
  | q :: r, hc => by
    cases ht : triv p with
    | true => simp only [addR, ht]; exact ⟨hc, fun h => by cases h⟩
    | false =>
      by_cases h1 : q.kind = p.kind
      · rw [addR_merge ht h1]
        refine ⟨hc.tail.cons (merge_solid hc.head hp h1) (fun x hx => ?_), fun _ hk _ y hy => by simp at hy; rw [← hy]; simp only; omega⟩
        cases r with
        | nil => cases hx
        | cons z r => simp at hx; subst hx; exact hc.2.1
      · by_cases h2 : p.kind = 2 ∧ q.kind = 3
        · rw [addR_swap ht h1 h2]
          have ih := addR_canon hp hc.tail
          have hh : ∀ x, r.head? = some x → x.kind ≠ 3 := by
            intro x hx
            cases r with
            | nil => cases hx
            | cons z r =>
              simp at hx; subst hx
              have := hc.2.1
              unfold clash at this
              simp at this
              omega
          refine ⟨ih.1.cons hc.head (fun x hx => ?_), fun _ _ hq => absurd h2.2 (hq q rfl)⟩
          have := ih.2 ht h2.1 hh x hx
          rw [this, h2.2]; rfl
        · rw [addR_more ht h1 h2]
          exact ⟨⟨hp.solid ht, clash_false h1 h2, hc⟩, fun _ hk _ y hy => by simp at hy; rw [← hy]; exact hk⟩

theorem sum_perm (f : Part → Int) (r : List Part) : (r.reverse.map f).sum = (r.map f).sum := by
  induction r with
  | nil => rfl
  | cons p r ih => simp only [List.reverse_cons, List.map_append, List.sum_append, ih, List.map_cons, List.sum_cons, List.map_nil, List.sum_nil]; omega
theorem addR_sum (f : Part → Int) (P : Part → Prop) {p : Part} (hp : P p) (h0 : triv p = true → f p = 0) (hadd : ∀ q, P q → q.kind = p.kind → f ⟨q.kind, q.n + p.n, q.text ++ p.text⟩ = f q + f p) : ∀ r : List Part, (∀ q ∈ r, P q) → ((addR r p).map f).sum = (r.map f).sum + f p
  | [], _ => by
    cases ht : triv p with
    | true => simp [addR, ht, h0 ht]
    | false => rw [addR_nil ht]; simp
  | q :: r, hr => by
    cases ht : triv p with
    | true => simp [addR, ht, h0 ht]
    | false =>
      by_cases h1 : q.kind = p.kind
      · rw [addR_merge ht h1]
        simp only [List.map_cons, List.sum_cons]
        rw [hadd q (hr q (by simp)) h1]
        omega
      · by_cases h2 : p.kind = 2 ∧ q.kind = 3
        · rw [addR_swap ht h1 h2]
          have ih := addR_sum f P hp h0 hadd r (fun q h => hr q (by simp [h]))
          simp only [List.map_cons, List.sum_cons]
          omega
        · rw [addR_more ht h1 h2]
          simp only [List.map_cons, List.sum_cons]
          omega
theorem lenF_triv {p : Part} (h : triv p = true) : lenF p = 0 := by
  unfold triv at h; unfold lenF
  simp at h
  split
  · rename_i hk; rcases h with h | h
    · exact h.2
    · omega
  · rfl
theorem lenT_triv {p : Part} (h : triv p = true) : lenT p = 0 := by
  unfold triv at h; unfold lenT
  simp at h
  split
  · rename_i hk; rcases h with h | h
    · exact h.2
    · omega
  · split
    · rename_i hk; rcases h with h | h
      · exact absurd hk h.1
      · exact rc_empty h.2
    · rfl
theorem lenF_merge (q p : Part) (hk : q.kind = p.kind) : lenF ⟨q.kind, q.n + p.n, q.text ++ p.text⟩ = lenF q + lenF p := by
  unfold lenF; simp only [hk]; split <;> omega
theorem lenT_merge {q p : Part} (hq : Proto q) (hp : Proto p) (hk : q.kind = p.kind) : lenT ⟨q.kind, q.n + p.n, q.text ++ p.text⟩ = lenT q + lenT p := by
  unfold lenT; simp only [hk]
  split
  · rfl
  · split
    · rename_i h1 h2
      rcases hq with ⟨a, _, _⟩ | ⟨_, _, c⟩
      · omega
      · rcases hp with ⟨a, _, _⟩ | ⟨_, _, c'⟩
        · omega
        · exact (append_valid c c').2
    · rfl
theorem addR_sumF {p : Part} (r : List Part) : sumF (addR r p) = sumF r + lenF p := addR_sum lenF (fun _ => True) trivial lenF_triv (fun _ _ hk => lenF_merge _ p hk) r (fun _ _ => trivial)
theorem addR_sumT {p : Part} (hp : Proto p) (r : List Part) (hr : Canon r) : sumT (addR r p) = sumT r + lenT p := addR_sum lenT Proto hp lenT_triv (fun _ hq hk => lenT_merge hq hp hk) r (fun q h => (hr.all q h).proto)

/-! ### what is made of raw things may be -/
structure Lays (n : Int) (i : Nat) (st : List Part × Int) : Prop where
  canon : Canon st.1
  sumF : sumF st.1 + st.2 = n
  left : 0 ≤ st.2
  sumT : 0 ≤ sumT st.1 ∧ sumT st.1 + st.2 ≤ n + 4 * i
theorem proto_keep (k : Int) (h : 0 ≤ k) : Proto ⟨1, k, noText⟩ := .inl ⟨.inl rfl, h, rfl⟩
theorem proto_del (k : Int) (h : 0 ≤ k) : Proto ⟨3, k, noText⟩ := .inl ⟨.inr rfl, h, rfl⟩
theorem proto_ins (t : Str) (h : valid t = true) : Proto ⟨2, 0, t⟩ := .inr ⟨rfl, rfl, h⟩
theorem letters_valid (s : Str) (m : Nat) : valid (letters s m) = true := valid_enc _ (lets_vr s m)
theorem letters_rc (s : Str) (m : Nat) : rc (letters s m) = min m s.size := by
  unfold letters; rw [rc_enc _ (lets_vr s m), lets_len]
theorem lenF_keep (k : Int) : lenF ⟨1, k, noText⟩ = k := by simp [lenF]
theorem lenT_keep (k : Int) : lenT ⟨1, k, noText⟩ = k := by simp [lenT]
theorem lenF_del (k : Int) : lenF ⟨3, k, noText⟩ = k := by simp [lenF]
theorem lenT_del (k : Int) : lenT ⟨3, k, noText⟩ = 0 := by simp [lenT]
theorem lenF_ins (t : Str) : lenF ⟨2, 0, t⟩ = 0 := by simp [lenF]
theorem lenT_ins (t : Str) : lenT ⟨2, 0, t⟩ = rc t := by simp [lenT]
/-- what the texts of raw things are to be -/
def Texts (f : Raw → Str) : Prop := ∀ x, valid (f x) = true ∧ rc (f x) ≤ 4
theorem opStep_lays {n : Int} {i : Nat} {st : List Part × Int} {f : Raw → Str} (hf : Texts f) (x : Raw) (h : Lays n i st) : Lays n (i + 1) (opStep f st x) := by
  have h1 := h.left
  have h2 := h.sumF
  have h3 := h.sumT
  have ha := pk_range x.a 6 (by omega)
  have hk1 : 0 ≤ min (pk x.a 6) st.2 := by omega
  have hk2 : min (pk x.a 6) st.2 ≤ st.2 := by omega
  have hr := hf x
  have hr0 := rc_nonneg (f x)
  have main : ∀ st1 : List Part × Int, Lays n i st1 → Lays n (i + 1) (if pk x.b 2 = 0 then (addR st1.1 ⟨2, 0, f x⟩, st1.2) else st1) := by
    intro st1 g
    have g3 := g.sumT
    by_cases hb : pk x.b 2 = 0
    · rw [if_pos hb]
      exact ⟨(addR_canon (proto_ins _ hr.1) g.canon).1, by simp only [addR_sumF, lenF_ins]; have := g.sumF; omega, g.left, by simp only [addR_sumT (proto_ins _ hr.1) _ g.canon, lenT_ins]; push_cast; omega⟩
    · rw [if_neg hb]
      exact ⟨g.canon, g.sumF, g.left, by push_cast; omega⟩
  unfold opStep
  simp only
  generalize min (pk x.a 6) st.2 = k at *
  by_cases c1 : pk x.kind 4 = 0 ∨ pk x.kind 4 = 1
  · rw [if_pos c1]
    exact main _ ⟨(addR_canon (proto_keep k hk1) h.canon).1, by simp only [addR_sumF, lenF_keep]; omega, by simp only; omega, by simp only [addR_sumT (proto_keep k hk1) _ h.canon, lenT_keep]; omega⟩
  · rw [if_neg c1]
    by_cases c2 : pk x.kind 4 = 2
    · rw [if_pos c2]
      exact main _ ⟨(addR_canon (proto_del k hk1) h.canon).1, by simp only [addR_sumF, lenF_del]; omega, by simp only; omega, by simp only [addR_sumT (proto_del k hk1) _ h.canon, lenT_del]; omega⟩
    · rw [if_neg c2]
      exact main _ h
theorem opRun_lays {f : Raw → Str} (hf : Texts f) (n : Int) (hn : 0 ≤ n) (l : List Raw) : ∀ k, k ≤ l.length → Lays n k (opRun f n (l.take k)) := by
  intro k
  induction k with
  | zero => intro _; simp only [List.take_zero, opRun, List.foldl_nil]; exact ⟨trivial, by simp [sumF], hn, by simp [sumT]⟩
  | succ k ih =>
    intro hk
    rw [opRun_next f n l k (by omega)]
    exact opStep_lays hf _ (ih (by omega))
theorem opOf_lays {f : Raw → Str} (hf : Texts f) (n : Int) (hn : 0 ≤ n) (l : List Raw) : ∃ r, opOf f n l = r.reverse ∧ Canon r ∧ sumF r = n ∧ 0 ≤ sumT r ∧ sumT r ≤ n + 24 := by
  have h := opRun_lays hf n hn (l.take 6) (l.take 6).length (Nat.le_refl _)
  rw [List.take_length] at h
  have h3 := h.sumT
  have hl : (l.take 6).length ≤ 6 := by rw [List.length_take]; omega
  refine ⟨_, rfl, (addR_canon (proto_keep _ h.left) h.canon).1, by rw [addR_sumF, lenF_keep]; exact h.sumF, ?_, ?_⟩
  · rw [addR_sumT (proto_keep _ h.left) _ h.canon, lenT_keep]; have := h.left; omega
  · rw [addR_sumT (proto_keep _ h.left) _ h.canon, lenT_keep]; omega

theorem lens_nonneg {p : Part} (h : Solid p) : 0 ≤ lenF p ∧ 0 ≤ lenT p := by
  have := rc_nonneg p.text
  unfold lenF lenT
  rcases h with ⟨hk, hn, _⟩ | ⟨hk, hn, _⟩
  · rcases hk with hk | hk <;> simp [hk] <;> omega
  · simp [hk]; omega
theorem le_sum (f : Part → Int) : ∀ r : List Part, (∀ p ∈ r, 0 ≤ f p) → 0 ≤ (r.map f).sum ∧ ∀ p ∈ r, f p ≤ (r.map f).sum
  | [], _ => by simp
  | q :: r, h => by
    have h1 := le_sum f r (fun p hp => h p (by simp [hp]))
    have h2 := h q (by simp)
    simp only [List.map_cons, List.sum_cons]
    refine ⟨by omega, fun p hp => ?_⟩
    rcases List.mem_cons.1 hp with rfl | hp
    · omega
    · have := h1.2 p hp; omega
theorem solid_ok {p : Part} (h : Solid p) (hf : lenF p ≤ 4000) (ht : lenT p ≤ 4000) : partOk p = 0 := by
  unfold partOk checkText
  unfold lenF at hf
  unfold lenT at ht
  rcases h with ⟨hk, hn, h3⟩ | ⟨hk, hn, hv, he⟩
  · rw [if_pos hk] at hf ⊢
    rw [if_neg (by omega), h3, emptyS_noText]; rfl
  · simp [hk] at ht
    rw [if_neg (by omega), if_pos hk, hv, hn, he]
    simp
    omega
def clashO (q : Option Int) (k : Int) : Bool := match q with | some q => clash q k | none => false
def lastK (q : Option Int) (l : Op) : Option Int := match l.getLast? with | some x => some x.kind | none => q
theorem checkFrom_snoc (p : Part) (hp : partOk p = 0) : ∀ (l : Op) (q : Option Int), checkFrom q l = 0 → clashO (lastK q l) p.kind = false → checkFrom q (l ++ [p]) = 0
  | [], q, _, hc => by
    rw [List.nil_append, checkFrom_drop q p [] hp hc]; rfl
  | x :: l, q, h, hc => by
    have hx : partOk x = 0 := by
      by_cases h0 : partOk x = 0
      · exact h0
      · cases q <;> simp only [checkFrom] at h <;> rw [if_pos h0] at h <;> exact h
    have hq : clashO q x.kind = false := by
      cases hh : clashO q x.kind with
      | false => rfl
      | true => rw [checkFrom_clash q x l hx hh] at h; omega
    rw [checkFrom_drop q x l hx hq] at h
    rw [List.cons_append, checkFrom_drop q x _ hx hq]
    refine checkFrom_snoc p hp l (some x.kind) h ?_
    cases l with
    | nil => exact hc
    | cons y l =>
      have e : lastK q (x :: y :: l) = lastK (some x.kind) (y :: l) := by
        unfold lastK; rw [List.getLast?_cons_cons, List.getLast?_eq_some_getLast (by simp)]
      rw [← e]; exact hc
theorem canon_from : ∀ (r : List Part), Canon r → (∀ p ∈ r, partOk p = 0) → checkFrom none r.reverse = 0
  | [], _, _ => rfl
  | p :: r, hc, h => by
    rw [List.reverse_cons]
    refine checkFrom_snoc p (h p (by simp)) _ none (canon_from r hc.tail (fun q hq => h q (by simp [hq]))) ?_
    cases r with
    | nil => rfl
    | cons q r => unfold lastK; simp; exact hc.2.1
/-- parts in their one form, that are not too long, may be -/
theorem canon_check {r : List Part} (hc : Canon r) (hl : r.length ≤ 8001) (hf : sumF r ≤ 4000) (ht : sumT r ≤ 4000) : check r.reverse = 0 := by
  have ef : sumF r.reverse = sumF r := sum_perm lenF r
  have et : sumT r.reverse = sumT r := sum_perm lenT r
  have hF := (le_sum lenF r (fun p hp => (lens_nonneg (hc.all p hp)).1)).2
  have hT := (le_sum lenT r (fun p hp => (lens_nonneg (hc.all p hp)).2)).2
  have hok : ∀ p ∈ r, partOk p = 0 := fun p hp => solid_ok (hc.all p hp) (by have := hF p hp; unfold sumF at hf; omega) (by have := hT p hp; unfold sumT at ht; omega)
  unfold check
  rw [if_neg (by rw [List.length_reverse]; omega), canon_from r hc hok, ef, et, if_neg (by simp), if_neg (by omega)]
theorem opRun_len (f : Raw → Str) (n : Int) (l : List Raw) : (opRun f n l).1.length ≤ 2 * l.length := by
  unfold opRun
  have key : ∀ (l : List Raw) (st : List Part × Int), (l.foldl (opStep f) st).1.length ≤ st.1.length + 2 * l.length := by
    intro l
    induction l with
    | nil => intro st; simp
    | cons x l ih =>
      intro st
      have h1 := ih (opStep f st x)
      have h2 : (opStep f st x).1.length ≤ st.1.length + 2 := by
        unfold opStep
        simp only
        have a1 := fun k t => addR_len st.1 ⟨1, k, t⟩
        have a3 := fun k t => addR_len st.1 ⟨3, k, t⟩
        (repeat' split) <;> (try simp only) <;> (first | (refine Nat.le_trans (addR_len _ _) ?_) | skip) <;> (first | (refine Nat.le_trans (Nat.add_le_add_right (addR_len _ _) 1) ?_) | skip) <;> (first | omega | (have := addR_len st.1 ⟨1, min (pk x.a 6) st.2, noText⟩; have := addR_len st.1 ⟨3, min (pk x.a 6) st.2, noText⟩; omega))
      simp only [List.foldl_cons, List.length_cons]
      omega
  have := key l ([], n)
  simpa using this
theorem opOf_len (f : Raw → Str) (n : Int) (l : List Raw) : (opOf f n l).length ≤ 13 := by
  unfold opOf
  simp only [List.length_reverse]
  have h1 := addR_len (opRun f n (l.take 6)).1 ⟨1, (opRun f n (l.take 6)).2, noText⟩
  have h2 := opRun_len f n (l.take 6)
  rw [List.length_take] at h2
  omega
/-- WHAT IS MADE OF RAW THINGS MAY BE, and fits its text -/
theorem opOf_good {f : Raw → Str} (hf : Texts f) (n : Int) (hn : 0 ≤ n) (hn' : n ≤ 3976) (l : List Raw) : check (opOf f n l) = 0 ∧ sumF (opOf f n l) = n ∧ 0 ≤ sumT (opOf f n l) ∧ sumT (opOf f n l) ≤ n + 24 := by
  obtain ⟨r, e, hc, h1, h2, h3⟩ := opOf_lays hf n hn l
  have hlen := opOf_len f n l
  rw [e] at hlen ⊢
  rw [List.length_reverse] at hlen
  have ef : sumF r.reverse = sumF r := sum_perm lenF r
  have et : sumT r.reverse = sumT r := sum_perm lenT r
  exact ⟨canon_check hc (by omega) (by omega) (by omega), by rw [ef]; exact h1, by rw [et]; exact h2, by rw [et]; exact h3⟩
theorem texts_letters : Texts rawText := fun x => ⟨letters_valid _ _, by unfold rawText; rw [letters_rc]; omega⟩

/-! ### the walk of Op -/
theorem opOf_fits {f : Raw → Str} (hf : ∀ x, (f x).size ≤ 16) (n : Int) (hn : 0 ≤ n) (hn' : n ≤ 1000000000) (l : List Raw) : ∀ p ∈ opOf f n l, I64 p.kind ∧ I64 p.n ∧ p.text.size ≤ strMax := by
  have h := opRun_stands f n hn (l.take 6) (fun x _ => hf x) (l.take 6).length (Nat.le_refl _)
  rw [List.take_length] at h
  have hl : (l.take 6).length ≤ 6 := by rw [List.length_take]; omega
  have h2 := (h.keep 1 (by omega) _ ⟨h.left.1, Int.le_refl _⟩).1
  intro p hp
  unfold opOf at hp
  simp only [List.mem_reverse] at hp
  have := h2 p hp
  unfold I64 strMax
  omega
theorem opOf_rd {f : Raw → Str} (hf : ∀ x, (f x).size ≤ 16) {n : Int} (hn : 0 ≤ n) (hn' : n ≤ 1000000000) {l : List Raw} {w w' : World} {a : Option Addr} {c : Nat}
    (h : w'.ownsRow w.heap.size 53 3 (.slice a (opOf f n l).length c) (opOf f n l).length (flat (opOf f n l))) : RdS (fun b => w.heap.size ≤ b) w' (opOf f n l) a (opOf f n l).length c := by
  have hp := opOf_fits hf n hn hn' l
  generalize opOf f n l = o at *
  obtain ⟨a', n', c', hv, hr⟩ := RdS.of_row (α := Part) (A := fun b => w.heap.size ≤ b) h (fun b hb => (h.lt b hb).1) (fun i x hx => ⟨partCells x, ⟨rfl, hp x (List.mem_of_getElem? hx)⟩, fun j u hu => by
    obtain ⟨h1, h2, h3⟩ := flat_at o i x hx
    simp only [Rep.n]
    match j, hu with
    | 0, hu => simp [partCells] at hu; rw [← hu]; exact h1
    | 1, hu => simp [partCells] at hu; rw [← hu]; exact h2
    | 2, hu => simp [partCells] at hu; rw [← hu]; exact h3⟩)
  have e := (Value.slice.injEq .. ▸ hv : a = a' ∧ o.length = n' ∧ c = c')
  obtain ⟨rfl, rfl, rfl⟩ := e
  exact hr

set_option maxHeartbeats 400000 in
theorem mkOp_any (A : Nat → Prop) (n : Int) (l : List Raw) (a : Option Addr) (m c : Nat) (w : World) (hA : ∀ b, A b → b < w.heap.size) (hr : RdS A w l a m c) (hn : 0 ≤ n) (hn' : n ≤ 1000000000) :
    Calls Tryd.prog 19 #[.int .i64 n, .slice a m c] w fun e w' => ∃ a' c', e = .returned (.slice a' (mkOp n l).length c') ∧ RdS (fun b => w.heap.size ≤ b) w' (mkOp n l) a' (mkOp n l).length c' ∧ Below w.heap.size w w' := by
  have H := Lib.hid (op_any A n l a m c w hA hr hn hn')
  clear hr
  have Hrd : Hid (∀ (w' : World) (a' : Option Addr) (c' : Nat), w'.ownsRow w.heap.size 53 3 (.slice a' (mkOp n l).length c') (mkOp n l).length (flat (mkOp n l)) → RdS (fun b => w.heap.size ≤ b) w' (mkOp n l) a' (mkOp n l).length c') :=
    fun w' a' c' h => opOf_rd (fun x => by unfold rawText; have := letters_size x.text 4; omega) hn hn' h
  have e : ∀ w', OpPost n l rawText w w' = OpPost n l rawText w w' := fun _ => rfl
  clear e
  unfold OpPost at H
  change Hid (Calls _ _ _ _ fun e w' => ∃ a c, e = .returned (.slice a (mkOp n l).length c) ∧ w'.ownsRow w.heap.size 53 3 (.slice a (mkOp n l).length c) (mkOp n l).length (flat (mkOp n l)) ∧ Below w.heap.size w w') at H
  generalize mkOp n l = o at *
  go_enter Tryd.func19, Tryd.ntmps19
  go_wp2_with fail
  refine H.out.mono ?_
  rintro e w1 ⟨a1, c1, rfl, hown, hb⟩
  go_wp2_with fail
  go_ret
  exact ⟨a1, c1, rfl, Hrd.out _ _ _ hown, hb⟩
end Go.Proofs.YtkbfhgcjimfgkaaDoor

set_option linter.unusedVariables false
set_option linter.unusedSimpArgs false
namespace Go.Proofs.YtkbfhgcjimfgkaaDoor

/-- a part of an operation: so many runes kept, runes inserted, so many deleted -/
inductive P where
  | k (n : Nat)
  | i (l : List Nat)
  | d (n : Nat)
def P.F : P → Nat
  | .k n => n
  | .i _ => 0
  | .d n => n
def P.T : P → Nat
  | .k n => n
  | .i l => l.length
  | .d _ => 0
/-- its size -/
def P.z : P → Nat
  | .k n => n
  | .i l => l.length
  | .d n => n
/-- without its first n runes -/
def P.cut : P → Nat → P
  | .k m, n => .k (m - n)
  | .i l, n => .i (l.drop n)
  | .d m, n => .d (m - n)
def P.ok : P → Prop
  | .k n => 1 ≤ n
  | .i l => l ≠ [] ∧ ∀ r ∈ l, Uni.vr r
  | .d n => 1 ≤ n
def P.part : P → Part
  | .k n => ⟨1, n, noText⟩
  | .i l => ⟨2, 0, Uni.enc l⟩
  | .d n => ⟨3, n, noText⟩
def FS : List P → Nat
  | [] => 0
  | p :: r => p.F + FS r
def TS : List P → Nat
  | [] => 0
  | p :: r => p.T + TS r
def ZS : List P → Nat
  | [] => 0
  | p :: r => p.z + ZS r
theorem FS_app (a b : List P) : FS (a ++ b) = FS a + FS b := by
  induction a with
  | nil => simp [FS]
  | cons p a ih => simp only [List.cons_append, FS, ih]; omega
theorem TS_app (a b : List P) : TS (a ++ b) = TS a + TS b := by
  induction a with
  | nil => simp [TS]
  | cons p a ih => simp only [List.cons_append, TS, ih]; omega
theorem FS_rev (a : List P) : FS a.reverse = FS a := by
  induction a with
  | nil => rfl
  | cons p a ih => simp only [List.reverse_cons, FS_app, FS, ih]; omega
theorem TS_rev (a : List P) : TS a.reverse = TS a := by
  induction a with
  | nil => rfl
  | cons p a ih => simp only [List.reverse_cons, TS_app, TS, ih]; omega

/-- an operation applied to runes -/
def app : List Nat → List P → List Nat
  | _, [] => []
  | t, .k n :: r => t.take n ++ app (t.drop n) r
  | t, .i l :: r => l ++ app t r
  | t, .d n :: r => app (t.drop n) r
theorem app_app (a b : List P) : ∀ t, app t (a ++ b) = app t a ++ app (t.drop (FS a)) b := by
  induction a with
  | nil => intro t; simp [app, FS]
  | cons p a ih =>
    intro t
    cases p with
    | k n => simp only [List.cons_append, app, ih, FS, P.F, List.drop_drop, List.append_assoc]
    | i l => simp only [List.cons_append, app, ih, FS, P.F, List.append_assoc, Nat.zero_add]
    | d n => simp only [List.cons_append, app, ih, FS, P.F, List.drop_drop]
theorem app_len (a : List P) : ∀ t : List Nat, FS a ≤ t.length → (app t a).length = TS a := by
  induction a with
  | nil => intro t _; rfl
  | cons p a ih =>
    intro t h
    cases p with
    | k n =>
      simp only [FS, P.F] at h
      simp only [app, TS, P.T, List.length_append, List.length_take]
      rw [ih _ (by simp; omega)]; omega
    | i l =>
      simp only [FS, P.F] at h
      simp only [app, TS, P.T, List.length_append]
      rw [ih _ (by omega)]
    | d n =>
      simp only [FS, P.F] at h
      simp only [app, TS, P.T]
      rw [ih _ (by simp; omega)]; omega
/-- only the runes that it is told of count -/
theorem app_more (a : List P) : ∀ t u : List Nat, FS a ≤ t.length → app (t ++ u) a = app t a := by
  induction a with
  | nil => intro t u _; rfl
  | cons p a ih =>
    intro t u h
    cases p with
    | k n =>
      simp only [FS, P.F] at h
      simp only [app, List.take_append_of_le_length (by omega : n ≤ t.length), List.drop_append_of_le_length (by omega : n ≤ t.length)]
      rw [ih _ _ (by simp; omega)]
    | i l =>
      simp only [FS, P.F] at h
      simp only [app]
      rw [ih _ _ (by omega)]
    | d n =>
      simp only [FS, P.F] at h
      simp only [app, List.drop_append_of_le_length (by omega : n ≤ t.length)]
      rw [ih _ _ (by simp; omega)]
theorem app_vr (a : List P) : ∀ t : List Nat, (∀ r ∈ t, Uni.vr r) → (∀ p ∈ a, p.ok) → ∀ r ∈ app t a, Uni.vr r := by
  induction a with
  | nil => intro t _ _ r hr; cases hr
  | cons p a ih =>
    intro t ht ha r hr
    have hta : ∀ n, ∀ r ∈ t.drop n, Uni.vr r := fun n r h => ht r (List.mem_of_mem_drop h)
    have ha' : ∀ p ∈ a, p.ok := fun p h => ha p (List.mem_cons_of_mem _ h)
    cases p with
    | k n =>
      simp only [app, List.mem_append] at hr
      rcases hr with h | h
      · exact ht r (List.mem_of_mem_take h)
      · exact ih _ (hta n) ha' r h
    | i l =>
      simp only [app, List.mem_append] at hr
      rcases hr with h | h
      · exact (ha (.i l) (List.mem_cons_self ..)).2 r h
      · exact ih _ ht ha' r h
    | d n => exact ih _ (hta n) ha' r hr

/-- a part is added behind others; the last one is the head -/
def addP : List P → P → List P
  | r, .k n => if n = 0 then r else match r with
    | .k m :: r' => .k (m + n) :: r'
    | r' => .k n :: r'
  | r, .d n => if n = 0 then r else match r with
    | .d m :: r' => .d (m + n) :: r'
    | r' => .d n :: r'
  | [], .i l => if l = [] then [] else [.i l]
  | .k m :: r, .i l => if l = [] then .k m :: r else .i l :: .k m :: r
  | .i m :: r, .i l => if l = [] then .i m :: r else .i (m ++ l) :: r
  | .d m :: r, .i l => if l = [] then .d m :: r else .d m :: addP r (.i l)
theorem FS_addP (p : P) : ∀ r, FS (addP r p) = FS r + p.F := by
  cases p with
  | k n =>
    intro r
    unfold addP
    split
    · simp [P.F]; omega
    · split
      · simp only [FS, P.F]; omega
      · simp only [FS, P.F]; omega
  | d n =>
    intro r
    unfold addP
    split
    · simp [P.F]; omega
    · split
      · simp only [FS, P.F]; omega
      · simp only [FS, P.F]; omega
  | i l =>
    intro r
    induction r with
    | nil => unfold addP; split <;> simp [FS, P.F]
    | cons q r ih =>
      cases q with
      | k m => unfold addP; split <;> simp [FS, P.F]
      | i m => unfold addP; split <;> simp [FS, P.F]
      | d m =>
        unfold addP
        split
        · simp [FS, P.F]
        · simp only [FS, P.F] at ih ⊢; omega
theorem TS_addP (p : P) : ∀ r, TS (addP r p) = TS r + p.T := by
  cases p with
  | k n =>
    intro r
    unfold addP
    split
    · simp [P.T]; omega
    · split
      · simp only [TS, P.T]; omega
      · simp only [TS, P.T]; omega
  | d n =>
    intro r
    unfold addP
    split
    · simp [P.T]
    · split
      · simp only [TS, P.T]; omega
      · simp only [TS, P.T]; omega
  | i l =>
    intro r
    induction r with
    | nil => unfold addP; split <;> simp_all [TS, P.T]
    | cons q r ih =>
      cases q with
      | k m => unfold addP; split <;> simp_all [TS, P.T]; omega
      | i m => unfold addP; split <;> simp_all [TS, P.T]; omega
      | d m =>
        unfold addP
        split
        · simp_all [TS, P.T]
        · simp only [TS, P.T] at ih ⊢; omega
/-- what is built does what its parts do -/
theorem app_addP (p : P) : ∀ (r : List P) (t : List Nat), app t (addP r p).reverse = app t (p :: r).reverse := by
  have two : ∀ (x y z : P) (r : List P) (h : ∀ u, app u [x, y] = app u [z]) (hF : FS [x, y] = FS [z]) (t : List Nat), app t (z :: r).reverse = app t (y :: x :: r).reverse := by
    intro x y z r h hF t
    simp only [List.reverse_cons, List.append_assoc, List.cons_append, List.nil_append]
    rw [app_app, app_app, h]
  cases p with
  | k n =>
    intro r t
    unfold addP
    split
    · rename_i h; subst h; simp [app_app, app]
    · split
      · rename_i m r'
        exact two (.k m) (.k n) (.k (m + n)) r' (fun u => by simp [app, List.take_add]) (by simp [FS, P.F]) t
      · rfl
  | d n =>
    intro r t
    unfold addP
    split
    · rename_i h; subst h; simp [app_app, app]
    · split
      · rename_i m r'
        exact two (.d m) (.d n) (.d (m + n)) r' (fun u => by simp [app]) (by simp [FS, P.F]) t
      · rfl
  | i l =>
    intro r
    induction r with
    | nil => intro t; unfold addP; split <;> simp_all [app]
    | cons q r ih =>
      intro t
      cases q with
      | k m => unfold addP; split <;> simp_all [app, app_app]
      | i m =>
        unfold addP
        split
        · simp_all [app, app_app]
        · exact two (.i m) (.i l) (.i (m ++ l)) r (fun u => by simp [app]) (by simp [FS, P.F]) t
      | d m =>
        unfold addP
        split
        · simp_all [app, app_app]
        · have hF := FS_addP (.i l) r
          rw [List.reverse_cons, app_app, ih t, FS_rev, hF]
          simp only [List.reverse_cons, app_app, app, List.append_assoc, List.append_nil, List.nil_append]
theorem addP_ok (p : P) (hp : ∀ l, p = .i l → ∀ r ∈ l, Uni.vr r) : ∀ r : List P, (∀ q ∈ r, q.ok) → ∀ q ∈ addP r p, q.ok := by
  cases p with
  | k n =>
    intro r hr
    unfold addP
    split
    · exact hr
    · rename_i h0
      split
      · rename_i m r'
        intro q hq
        rcases List.mem_cons.1 hq with rfl | hq
        · have := hr (.k m) (List.mem_cons_self ..); unfold P.ok at *; omega
        · exact hr q (List.mem_cons_of_mem _ hq)
      · intro q hq
        rcases List.mem_cons.1 hq with rfl | hq
        · unfold P.ok; omega
        · exact hr q hq
  | d n =>
    intro r hr
    unfold addP
    split
    · exact hr
    · rename_i h0
      split
      · rename_i m r'
        intro q hq
        rcases List.mem_cons.1 hq with rfl | hq
        · have := hr (.d m) (List.mem_cons_self ..); unfold P.ok at *; omega
        · exact hr q (List.mem_cons_of_mem _ hq)
      · intro q hq
        rcases List.mem_cons.1 hq with rfl | hq
        · unfold P.ok; omega
        · exact hr q hq
  | i l =>
    have hl := hp l rfl
    intro r
    induction r with
    | nil =>
      intro hr
      unfold addP
      split
      · exact hr
      · rename_i h0
        intro q hq
        rw [List.mem_singleton] at hq
        subst hq
        exact ⟨h0, hl⟩
    | cons x r ih =>
      intro hr
      have hr' : ∀ q ∈ r, q.ok := fun q hq => hr q (List.mem_cons_of_mem _ hq)
      cases x with
      | k m =>
        unfold addP
        split
        · exact hr
        · rename_i h0
          intro q hq
          rcases List.mem_cons.1 hq with rfl | hq
          · exact ⟨h0, hl⟩
          · exact hr q hq
      | i m =>
        unfold addP
        split
        · exact hr
        · rename_i h0
          intro q hq
          rcases List.mem_cons.1 hq with rfl | hq
          · have h1 := hr (.i m) (List.mem_cons_self ..)
            refine ⟨by simp [h0], fun r hr => ?_⟩
            rcases List.mem_append.1 hr with h | h
            · exact h1.2 r h
            · exact hl r h
          · exact hr' q hq
      | d m =>
        unfold addP
        split
        · exact hr
        · intro q hq
          rcases List.mem_cons.1 hq with rfl | hq
          · exact hr (.d m) (List.mem_cons_self ..)
          · exact ih hr' q hq

/-- the kinds of two parts may not stand in this order -/
def P.clash : P → P → Bool
  | .k _, .k _ => true
  | .i _, .i _ => true
  | .d _, .d _ => true
  | .d _, .i _ => true
  | _, _ => false
/-- parts, the last one first, in their one form -/
def Can : List P → Prop
  | [] => True
  | [p] => p.ok
  | p :: q :: r => p.ok ∧ q.clash p = false ∧ Can (q :: r)
theorem Can.tail {p : P} {r : List P} (h : Can (p :: r)) : Can r := by
  cases r with
  | nil => trivial
  | cons q r => exact h.2.2
theorem Can.head {p : P} {r : List P} (h : Can (p :: r)) : p.ok := by
  cases r with
  | nil => exact h
  | cons q r => exact h.1
theorem Can.all {r : List P} (h : Can r) : ∀ p ∈ r, p.ok := by
  induction r with
  | nil => simp
  | cons q r ih =>
    intro p hp
    rcases List.mem_cons.1 hp with rfl | hp
    · exact h.head
    · exact ih h.tail p hp
theorem Can.cons {p : P} {r : List P} (h : Can r) (hp : p.ok) (hc : ∀ q, r.head? = some q → q.clash p = false) : Can (p :: r) := by
  cases r with
  | nil => exact hp
  | cons q r => exact ⟨hp, hc q rfl, h⟩
theorem Can.next {p q : P} {r : List P} (h : Can (p :: r)) (hq : r.head? = some q) : q.clash p = false := by
  cases r with
  | nil => cases hq
  | cons x r => simp at hq; subst hq; exact h.2.1
theorem addP_can (p : P) (hp : ∀ l, p = .i l → ∀ r ∈ l, Uni.vr r) : ∀ r : List P, Can r → Can (addP r p) := by
  cases p with
  | k n =>
    intro r hr
    unfold addP
    split
    · exact hr
    · rename_i h0
      split
      · rename_i m r'
        refine hr.tail.cons (by have := hr.head; unfold P.ok at *; omega) (fun q hq => ?_)
        have := hr.next hq
        cases q <;> simp_all [P.clash]
      · rename_i hne
        refine hr.cons (by unfold P.ok; omega) (fun q hq => ?_)
        cases q with
        | k m =>
          cases r with
          | nil => cases hq
          | cons x r => simp at hq; subst hq; exact absurd rfl (hne m r)
        | i m => rfl
        | d m => rfl
  | d n =>
    intro r hr
    unfold addP
    split
    · exact hr
    · rename_i h0
      split
      · rename_i m r'
        refine hr.tail.cons (by have := hr.head; unfold P.ok at *; omega) (fun q hq => ?_)
        have := hr.next hq
        cases q <;> simp_all [P.clash]
      · rename_i hne
        refine hr.cons (by unfold P.ok; omega) (fun q hq => ?_)
        cases q with
        | d m =>
          cases r with
          | nil => cases hq
          | cons x r => simp at hq; subst hq; exact absurd rfl (hne m r)
        | i m => rfl
        | k m => rfl
  | i l =>
    have hl := hp l rfl
    have key : ∀ r : List P, Can r → Can (addP r (.i l)) ∧ (∀ q, (∀ x, r.head? = some x → x.clash q = false) → (∃ m, q = .d m) → ∀ x, (addP r (.i l)).head? = some x → x.clash q = false) := by
      intro r
      induction r with
      | nil =>
        intro _
        unfold addP
        split
        · exact ⟨trivial, fun q _ _ x hx => by cases hx⟩
        · rename_i h0
          exact ⟨⟨h0, hl⟩, fun q _ ⟨m, hm⟩ x hx => by simp at hx; subst hx hm; rfl⟩
      | cons y r ih =>
        intro hr
        cases y with
        | k m =>
          unfold addP
          split
          · exact ⟨hr, fun q hq _ x hx => hq x hx⟩
          · rename_i h0
            exact ⟨hr.cons ⟨h0, hl⟩ (fun q hq => by simp at hq; subst hq; rfl), fun q _ ⟨m, hm⟩ x hx => by simp at hx; subst hx hm; rfl⟩
        | i m =>
          unfold addP
          split
          · exact ⟨hr, fun q hq _ x hx => hq x hx⟩
          · rename_i h0
            refine ⟨hr.tail.cons ?_ (fun q hq => ?_), fun q _ ⟨m, hm⟩ x hx => by simp at hx; subst hx hm; rfl⟩
            · refine ⟨by simp [h0], fun r' hr' => ?_⟩
              rcases List.mem_append.1 hr' with h | h
              · exact hr.head.2 r' h
              · exact hl r' h
            · have := hr.next hq
              cases q <;> simp_all [P.clash]
        | d m =>
          unfold addP
          split
          · exact ⟨hr, fun q hq _ x hx => hq x hx⟩
          · have h1 := ih hr.tail
            refine ⟨h1.1.cons hr.head (fun q hq => h1.2 (.d m) (fun x hx => hr.next hx) ⟨m, rfl⟩ q hq), fun q hq hm x hx => hq x (by simpa using hx)⟩
    exact fun r hr => (key r hr).1
end Go.Proofs.YtkbfhgcjimfgkaaDoor

set_option linter.unusedVariables false
set_option linter.unusedSimpArgs false
namespace Go.Proofs.YtkbfhgcjimfgkaaDoor
open Go.RowKit

theorem checkFrom_all : ∀ (l : Op) (q : Option Int), checkFrom q l = 0 → ∀ p ∈ l, partOk p = 0
  | [], _, _, p, hp => by cases hp
  | p :: l, q, h, p', hp' => by
    have h0 : partOk p = 0 := by
      by_cases h0 : partOk p = 0
      · exact h0
      · have e : checkFrom q (p :: l) = partOk p := by cases q <;> rw [checkFrom, if_pos h0]
        rw [e] at h; exact absurd h h0
    have h1 : checkFrom (some p.kind) l = 0 := by
      cases hc : (match q with | some q => clash q p.kind | none => false) with
      | false => rwa [checkFrom_drop q p l h0 hc] at h
      | true => rw [checkFrom_clash q p l h0 hc] at h; exact absurd h (by decide)
    rcases List.mem_cons.1 hp' with rfl | hp'
    · exact h0
    · exact checkFrom_all l _ h1 p' hp'
theorem check_zero {l : Op} (h : check l = 0) : l.length ≤ 8001 ∧ (∀ p ∈ l, partOk p = 0) ∧ sumF l ≤ 4000 ∧ sumT l ≤ 4000 := by
  unfold check at h
  split at h
  · exact absurd h (by decide)
  · split at h
    · rename_i h1; exact absurd h h1
    · split at h
      · exact absurd h (by decide)
      · rename_i h1 h2 h3
        exact ⟨by omega, checkFrom_all l none (by simpa using h2), by omega, by omega⟩
theorem check_small {l : Op} (h : check l = 0) : Small l := by
  obtain ⟨h1, h2, _, _⟩ := check_zero h
  exact ⟨by omega, fun p hp => by have := partOk_small (h2 p hp); omega⟩
theorem sum_parts (f : Part → Int) (l : Op) (k : Nat) (h : ∀ p ∈ l, 0 ≤ f p) : ((l.take k).map f).sum ≤ (l.map f).sum ∧ 0 ≤ ((l.take k).map f).sum := by
  induction l generalizing k with
  | nil => simp
  | cons p l ih =>
    have hp := h p (by simp)
    cases k with
    | zero =>
      have := (ih l.length (fun p hp => h p (by simp [hp]))).2
      rw [List.take_length] at this
      simp; omega
    | succ k =>
      have := ih k (fun p hp => h p (by simp [hp]))
      simp only [List.take_succ_cons, List.map_cons, List.sum_cons]
      omega
/-- the kinds of a part that may be -/
theorem partOk_kind {p : Part} (h : partOk p = 0) : (p.kind = 1 ∧ 1 ≤ p.n ∧ p.n ≤ 4000) ∨ (p.kind = 2 ∧ p.n = 0 ∧ 0 ≤ rc p.text) ∨ (p.kind = 3 ∧ 1 ≤ p.n ∧ p.n ≤ 4000) := by
  have hs := partOk_small h
  unfold partOk at h
  by_cases h1 : p.kind = 1
  · left
    simp only [h1, true_or, if_true] at h
    split at h
    · exact absurd h (by decide)
    · exact ⟨h1, by omega, by omega⟩
  · by_cases h3 : p.kind = 3
    · right; right
      simp only [h3, or_true, if_true] at h
      split at h
      · exact absurd h (by decide)
      · exact ⟨h3, by omega, by omega⟩
    · by_cases h2 : p.kind = 2
      · right; left
        rw [if_neg (by omega), if_pos h2] at h
        split at h
        · rename_i h4; exact absurd h h4
        · split at h
          · exact absurd h (by decide)
          · rename_i h5
            refine ⟨h2, ?_, ?_⟩
            · by_cases h6 : p.n = 0
              · exact h6
              · exact absurd (.inr h6) h5
            · have := hs.2.2.1
              simpa [lenT, h2] using this
      · rw [if_neg (by omega), if_neg h2] at h
        exact absurd h (by decide)

theorem i12 : ((1 : Int) = 2) = False := by simp
theorem i32 : ((3 : Int) = 2) = False := by simp
theorem i31 : ((3 : Int) = 1) = False := by simp
/-- where a place goes -/
def mv (push : Bool) : Op → Int → Int → Int → Int
  | [], _, _, new => new
  | p :: l, a, old, new =>
    if p.kind = 2 then (if old = a ∧ push = false then new + a - old else mv push l a old (new + rc p.text))
    else if p.kind = 1 then (if a < old + p.n then new + a - old else mv push l a (old + p.n) (new + p.n))
    else mv push l (if a < old + p.n then old + p.n else a) (old + p.n) new
theorem sumF_cons (p : Part) (l : Op) : sumF (p :: l) = lenF p + sumF l := by simp [sumF]
theorem sumT_cons (p : Part) (l : Op) : sumT (p :: l) = lenT p + sumT l := by simp [sumT]
theorem sumT_nonneg (l : Op) (h : ∀ p ∈ l, partOk p = 0) : 0 ≤ sumT l := by
  have := (sum_parts lenT l l.length (fun p hp => (partOk_small (h p hp)).2.2.1)).2
  rwa [List.take_length] at this
theorem sumF_nonneg (l : Op) (h : ∀ p ∈ l, partOk p = 0) : 0 ≤ sumF l := by
  have := (sum_parts lenF l l.length (fun p hp => (partOk_small (h p hp)).1)).2
  rwa [List.take_length] at this
theorem mv_bound (push : Bool) (l : Op) (h : ∀ p ∈ l, partOk p = 0) : ∀ (a old new : Int), old ≤ a → new ≤ mv push l a old new ∧ mv push l a old new ≤ new + sumT l := by
  induction l with
  | nil => intro a old new _; simp [mv, sumT]
  | cons p l ih =>
    intro a old new ha
    have ih2 := ih (fun p hp => h p (by simp [hp]))
    have hT := sumT_nonneg l (fun p hp => h p (by simp [hp]))
    rw [sumT_cons]
    rcases partOk_kind (h p (by simp)) with ⟨k, n1, n2⟩ | ⟨k, n1, n2⟩ | ⟨k, n1, n2⟩
    · have e : lenT p = p.n := by simp [lenT, k]
      simp only [mv, k, e, i12, i32, i31, if_false, if_true]
      split
      · omega
      · have := ih2 a (old + p.n) (new + p.n) (by omega); omega
    · have e : lenT p = rc p.text := by simp [lenT, k]
      simp only [mv, k, e, i12, i32, i31, if_false, if_true]
      split
      · omega
      · have := ih2 a old (new + rc p.text) ha; omega
    · have e : lenT p = 0 := by simp [lenT, k]
      simp only [mv, k, e, i12, i32, i31, if_false, if_true]
      have := ih2 (if a < old + p.n then old + p.n else a) (old + p.n) new (by split <;> omega); omega
theorem mv_mono (push : Bool) (l : Op) (h : ∀ p ∈ l, partOk p = 0) : ∀ (a b old new : Int), old ≤ a → a ≤ b → mv push l a old new ≤ mv push l b old new := by
  induction l with
  | nil => intro a b old new _ _; simp [mv]
  | cons p l ih =>
    intro a b old new ha hab
    have hl : ∀ p ∈ l, partOk p = 0 := fun p hp => h p (by simp [hp])
    rcases partOk_kind (h p (by simp)) with ⟨k, n1, n2⟩ | ⟨k, n1, n2⟩ | ⟨k, n1, n2⟩
    · simp only [mv, k, i12, i32, i31, if_false, if_true]
      by_cases h1 : a < old + p.n
      · rw [if_pos h1]
        split
        · omega
        · have := (mv_bound push l hl b (old + p.n) (new + p.n) (by omega)).1; omega
      · rw [if_neg h1, if_neg (by omega)]
        exact ih hl a b _ _ (by omega) hab
    · simp only [mv, k, i12, i32, i31, if_false, if_true]
      by_cases h1 : old = a ∧ push = false
      · rw [if_pos h1]
        split
        · omega
        · have := (mv_bound push l hl b old (new + rc p.text) (by omega)).1; omega
      · rw [if_neg h1]
        by_cases h2 : old = b ∧ push = false
        · exact absurd ⟨by omega, h2.2⟩ h1
        · rw [if_neg h2]
          exact ih hl a b _ _ ha hab
    · simp only [mv, k, i12, i32, i31, if_false, if_true]
      refine ih hl _ _ _ _ ?_ ?_
      · split <;> omega
      · split <;> split <;> omega
theorem mv_push (push : Bool) (l : Op) (h : ∀ p ∈ l, partOk p = 0) : ∀ (a old new : Int), old ≤ a → mv push l a old new ≤ mv true l a old new := by
  cases push with
  | true => intro a old new _; exact Int.le_refl _
  | false =>
  induction l with
  | nil => intro a old new _; simp [mv]
  | cons p l ih =>
    intro a old new ha
    have hl : ∀ p ∈ l, partOk p = 0 := fun p hp => h p (by simp [hp])
    rcases partOk_kind (h p (by simp)) with ⟨k, n1, n2⟩ | ⟨k, n1, n2⟩ | ⟨k, n1, n2⟩
    · simp only [mv, k, i12, i32, i31, if_false, if_true]
      split
      · omega
      · exact ih hl a _ _ (by omega)
    · simp only [mv, k, i12, i32, i31, if_false, if_true]
      rw [if_neg (c := old = a ∧ true = false) (by rintro ⟨_, h⟩; cases h)]
      split
      · have := (mv_bound true l hl a old (new + rc p.text) (by omega)).1; omega
      · exact ih hl a _ _ ha
    · simp only [mv, k, i12, i32, i31, if_false, if_true]
      refine ih hl _ _ _ ?_
      split <;> omega

theorem size_any (p : Part) (w : World) (h2 : I64 p.n) (h3 : p.text.size ≤ strMax) :
    Calls Tryd.prog 93 #[.agg #[.int .i64 p.kind, .int .i64 p.n, .string p.text]] w fun e w' => e = .returned (.int .i64 (if p.kind = 2 then rc p.text else p.n)) ∧ Below w.heap.size w w' := by
  obtain ⟨k, n, t⟩ := p
  simp only at h2 h3 ⊢
  rcases Int.decEq k 2 with h | rfl
  · have g : (k == 2) = false := by simp [h]
    rw [if_neg h]
    clear h
    go_enter Tryd.func93, Tryd.ntmps93
    go_wp2_with fail
    go_ret
    exact ⟨rfl, by (repeat (first | exact Below.refl _ _ | assumption | (refine Below.drew ?_) | (refine below_drewN ?_ _) | (refine Below.alloc ?_ (by first | (simp; done) | (simp; omega) | omega) _) | (refine Below.setCell ?_ (by first | (simp; done) | (simp; omega) | omega) _) | (refine Below.trans ?_ (Below.mono (by assumption) (by first | (simp; done) | (simp; omega) | omega)))))⟩
  · rw [if_pos rfl]
    go_enter Tryd.func93, Tryd.ntmps93
    go_wp2_with (go_at_call 31; refine (rc_any t _ h3).mono ?_; rintro e w1 ⟨rfl, hb1⟩; obtain ⟨hc1, hf1⟩ := bcell hb1)
    go_ret
    exact ⟨rfl, by (repeat (first | exact Below.refl _ _ | assumption | (refine Below.drew ?_) | (refine below_drewN ?_ _) | (refine Below.alloc ?_ (by first | (simp; done) | (simp; omega) | omega) _) | (refine Below.setCell ?_ (by first | (simp; done) | (simp; omega) | omega) _) | (refine Below.trans ?_ (Below.mono (by assumption) (by first | (simp; done) | (simp; omega) | omega)))))⟩
end Go.Proofs.YtkbfhgcjimfgkaaDoor

set_option linter.unusedVariables false
set_option linter.unusedSimpArgs false
namespace Go.Proofs.YtkbfhgcjimfgkaaDoor
open Go.RowKit

/-- the runes of a text -/
def rns (s : Str) : List Nat := Uni.dec s.data.toList
theorem rc_rns (s : Str) : rc s = (rns s).length := by unfold rc rns; rw [Uni.count_dec]
theorem rns_enc {l : List Nat} (h : ∀ r ∈ l, Uni.vr r) : rns (Uni.enc l) = l := by unfold rns Uni.enc; exact Uni.dec_enc_all l h
theorem enc_rns {s : Str} (h : valid s = true) : Uni.enc (rns s) = s := (enc_dec_str s h).1
theorem rns_vr {s : Str} (h : valid s = true) : ∀ r ∈ rns s, Uni.vr r := (enc_dec_str s h).2
def toP (p : Part) : P := if p.kind = 1 then .k p.n.toNat else if p.kind = 2 then .i (rns p.text) else .d p.n.toNat
def opP (o : Op) : List P := o.map toP
theorem part_toP {p : P} (h : p.ok) : toP p.part = p := by
  cases p with
  | k n => simp [toP, P.part]
  | i l => simp only [toP, P.part]; rw [if_neg (by decide), if_true, rns_enc h.2]
  | d n => simp [toP, P.part]
theorem toP_part {p : Part} (h : Solid p) : (toP p).part = p ∧ (toP p).ok := by
  obtain ⟨k, n, t⟩ := p
  rcases h with ⟨hk, hn, ht⟩ | ⟨hk, hn, hv, he⟩
  · simp only at hk hn ht
    subst ht
    rcases hk with rfl | rfl
    · simp only [toP, if_true, P.part, P.ok]
      exact ⟨by congr; omega, by omega⟩
    · simp only [toP, P.part, P.ok]
      rw [if_neg (by decide), if_neg (by decide)]
      exact ⟨by simp only; congr; omega, by simp only; omega⟩
  · simp only at hk hn hv he
    subst hk hn
    simp only [toP]
    rw [if_neg (by decide), if_true]
    refine ⟨by simp only [P.part, enc_rns hv], ?_, rns_vr hv⟩
    intro h0
    have : Uni.enc (rns t) = t := enc_rns hv
    rw [h0] at this
    rw [← this] at he
    have h2 : emptyS (Uni.enc []) = true := by rw [emptyS_iff]; rfl
    rw [h2] at he; cases he
theorem part_solid {p : P} (h : p.ok) : Solid p.part := by
  cases p with
  | k n => exact .inl ⟨.inl rfl, by unfold P.ok at h; simp only [P.part]; omega, rfl⟩
  | d n => exact .inl ⟨.inr rfl, by unfold P.ok at h; simp only [P.part]; omega, rfl⟩
  | i l =>
    refine .inr ⟨rfl, rfl, valid_enc _ h.2, ?_⟩
    simp only [P.part]
    cases he : emptyS (Uni.enc l) with
    | false => rfl
    | true =>
      have h1 := rc_empty he
      rw [rc_enc _ h.2] at h1
      exact absurd (List.eq_nil_of_length_eq_zero (by omega)) h.1
theorem solid_of_ok {p : Part} (h : partOk p = 0) : Solid p := by
  obtain ⟨k, n, t⟩ := p
  unfold partOk at h
  simp only at h
  by_cases h1 : k = 1 ∨ k = 3
  · rw [if_pos h1] at h
    by_cases h2 : n < 1 ∨ 4000 < n
    · rw [if_pos h2] at h; omega
    · rw [if_neg h2] at h
      cases he : emptyS t with
      | false => rw [he] at h; simp at h
      | true => exact .inl ⟨h1, by simp only; omega, eq_noText he⟩
  · rw [if_neg h1] at h
    by_cases h2 : k = 2
    · rw [if_pos h2] at h
      by_cases h3 : checkText t = 0
      · rw [if_neg (by simpa using h3)] at h
        have hv : valid t = true := by
          unfold checkText at h3
          cases hv : valid t with
          | true => rfl
          | false => rw [hv] at h3; simp at h3
        cases he : emptyS t with
        | true => rw [he] at h; simp at h
        | false =>
          rw [he] at h
          by_cases h0 : n = 0
          · exact .inr ⟨h2, h0, hv, he⟩
          · rw [if_pos (.inr h0)] at h; omega
      · rw [if_pos h3] at h; omega
    · rw [if_neg h2] at h; omega
theorem part_F (p : P) : lenF p.part = p.F := by cases p <;> simp [lenF, P.part, P.F]
theorem part_T {p : P} (h : p.ok) : lenT p.part = p.T := by
  cases p with
  | k n => simp [lenT, P.part, P.T]
  | d n => simp [lenT, P.part, P.T]
  | i l => simp only [lenT, P.part, P.T]; rw [if_neg (by decide), if_true, rc_enc _ h.2]
theorem sumF_parts (l : List P) : sumF (l.map P.part) = FS l := by
  induction l with
  | nil => rfl
  | cons p l ih => simp only [List.map_cons, sumF_cons, ih, FS, part_F]; push_cast; rfl
theorem sumT_parts (l : List P) (h : ∀ p ∈ l, p.ok) : sumT (l.map P.part) = TS l := by
  induction l with
  | nil => rfl
  | cons p l ih =>
    simp only [List.map_cons, sumT_cons, TS, part_T (h p (List.mem_cons_self ..))]
    rw [ih (fun q hq => h q (List.mem_cons_of_mem _ hq))]; push_cast; rfl
theorem clash_part (p q : P) : clash p.part.kind q.part.kind = p.clash q := by
  cases p <;> cases q <;> simp [clash, P.part, P.clash]
theorem can_canon : ∀ {r : List P}, Can r → Canon (r.map P.part)
  | [], _ => trivial
  | [p], h => part_solid h
  | p :: q :: r, h => ⟨part_solid h.1, by rw [clash_part]; exact h.2.1, can_canon (r := q :: r) h.2.2⟩
theorem canon_can : ∀ {r : List P}, (∀ p ∈ r, p.ok) → Canon (r.map P.part) → Can r
  | [], _, _ => trivial
  | [p], h, _ => h p (List.mem_cons_self ..)
  | p :: q :: r, h, hc => ⟨h p (List.mem_cons_self ..), by rw [← clash_part]; exact hc.2.1, canon_can (r := q :: r) (fun x hx => h x (List.mem_cons_of_mem _ hx)) hc.2.2⟩
theorem can_check {r : List P} (hc : Can r) (hl : r.length ≤ 8001) (hf : FS r ≤ 4000) (ht : TS r ≤ 4000) : check (r.reverse.map P.part) = 0 := by
  rw [List.map_reverse]
  refine canon_check (can_canon hc) (by simpa using hl) ?_ ?_
  · rw [sumF_parts]; omega
  · rw [sumT_parts _ hc.all]; omega
theorem ok_len (l : List P) (h : ∀ p ∈ l, p.ok) : l.length ≤ FS l + TS l := by
  induction l with
  | nil => simp
  | cons p l ih =>
    have h1 := ih (fun q hq => h q (List.mem_cons_of_mem _ hq))
    have h2 := h p (List.mem_cons_self ..)
    simp only [List.length_cons, FS, TS]
    cases p with
    | k n => unfold P.ok at h2; simp only [P.F, P.T]; omega
    | d n => unfold P.ok at h2; simp only [P.F, P.T]; omega
    | i l =>
      have : l.length ≠ 0 := fun h => h2.1 (List.eq_nil_of_length_eq_zero h)
      simp only [P.F, P.T]; omega
/-- the kinds that follow one another -/
theorem from_can : ∀ (l : Op) (q : Part) (r : List Part), Canon (q :: r) → checkFrom (some q.kind) l = 0 → (∀ p ∈ l, Solid p) → Canon (l.reverse ++ q :: r)
  | [], q, r, h, _, _ => h
  | p :: l, q, r, h, hf, hs => by
    have hp : partOk p = 0 ∧ clash q.kind p.kind = false ∧ checkFrom (some p.kind) l = 0 := by
      simp only [checkFrom] at hf
      by_cases h1 : partOk p = 0
      · rw [if_neg (by simpa using h1)] at hf
        cases hc : clash q.kind p.kind with
        | true => simp [hc] at hf
        | false => exact ⟨h1, rfl, by simpa [hc] using hf⟩
      · rw [if_pos h1] at hf; exact absurd hf h1
    rw [List.reverse_cons, List.append_assoc]
    exact from_can l p (q :: r) ⟨hs p (List.mem_cons_self ..), hp.2.1, h⟩ hp.2.2 (fun x hx => hs x (List.mem_cons_of_mem _ hx))
theorem check_canon {o : Op} (h : check o = 0) : Canon o.reverse := by
  have h1 := (check_zero h).2.1
  have h0 : checkFrom none o = 0 := by
    unfold check at h
    by_cases h8 : 8001 < o.length
    · rw [if_pos h8] at h; omega
    · rw [if_neg h8] at h
      by_cases h2 : checkFrom none o = 0
      · exact h2
      · rw [if_pos h2] at h; exact h
  have hs : ∀ p ∈ o, Solid p := fun p hp => solid_of_ok (h1 p hp)
  cases o with
  | nil => trivial
  | cons p l =>
    rw [List.reverse_cons]
    have hp := h1 p (List.mem_cons_self ..)
    simp only [checkFrom] at h0
    rw [if_neg (by simpa using hp)] at h0
    exact from_can l p [] (hs p (List.mem_cons_self ..)) (by simpa using h0) (fun x hx => hs x (List.mem_cons_of_mem _ hx))
/-- an operation that may be, over runes -/
structure OpIs (o : Op) (l : List P) : Prop where
  eq : o = l.map P.part
  can : Can l.reverse
  ok : ∀ p ∈ l, p.ok
  f : sumF o = FS l
  t : sumT o = TS l
  fl : FS l ≤ 4000
  tl : TS l ≤ 4000
  len : l.length ≤ 8001
theorem opIs {o : Op} (h : check o = 0) : OpIs o (opP o) := by
  obtain ⟨h1, h2, h3, h4⟩ := check_zero h
  have hs : ∀ p ∈ o, Solid p := fun p hp => solid_of_ok (h2 p hp)
  have hok : ∀ p ∈ opP o, p.ok := by
    intro p hp
    simp only [opP, List.mem_map] at hp
    obtain ⟨q, hq, rfl⟩ := hp
    exact (toP_part (hs q hq)).2
  have he : o = (opP o).map P.part := by
    unfold opP
    rw [List.map_map]
    conv => lhs; rw [← List.map_id o]
    exact List.map_congr_left fun q hq => ((toP_part (hs q hq)).1).symm
  have hf : sumF o = FS (opP o) := by rw [← sumF_parts, ← he]
  have ht : sumT o = TS (opP o) := by rw [← sumT_parts _ hok, ← he]
  refine ⟨he, ?_, hok, hf, ht, by omega, by omega, by simp only [opP, List.length_map]; omega⟩
  refine canon_can (fun p hp => hok p (by simpa using hp)) ?_
  rw [List.map_reverse, ← he]
  exact check_canon h
theorem OpIs.check {o : Op} {l : List P} (h : OpIs o l) : check o = 0 := by
  have := can_check h.can (by simpa using h.len) (by rw [FS_rev]; exact h.fl) (by rw [TS_rev]; exact h.tl)
  rw [List.reverse_reverse] at this
  rw [h.eq]; exact this
theorem opIs_of {r : List P} (hc : Can r) (hf : FS r ≤ 4000) (ht : TS r ≤ 4000) : OpIs (r.reverse.map P.part) r.reverse :=
  have hok : ∀ p ∈ r.reverse, p.ok := fun p hp => hc.all p (by simpa using hp)
  ⟨rfl, by rw [List.reverse_reverse]; exact hc, hok, sumF_parts _, sumT_parts _ hok, by rw [FS_rev]; exact hf, by rw [TS_rev]; exact ht, by have := ok_len r hc.all; simp; omega⟩
theorem OpIs.opP {o : Op} {l : List P} (h : OpIs o l) : opP o = l := by
  rw [h.eq]; unfold Go.Proofs.YtkbfhgcjimfgkaaDoor.opP; rw [List.map_map]
  conv => rhs; rw [← List.map_id l]
  exact List.map_congr_left fun q hq => part_toP (h.ok q hq)
/-- building over parts and over parts of runes -/
theorem addR_part (p : P) (hp : ∀ l, p = .i l → ∀ r ∈ l, Uni.vr r) : ∀ r : List P, (∀ q ∈ r, q.ok) → addR (r.map P.part) p.part = (addP r p).map P.part := by
  have emp : ∀ l : List Nat, (∀ r ∈ l, Uni.vr r) → emptyS (Uni.enc l) = decide (l = []) := by
    intro l hl
    by_cases h : l = []
    · subst h; rw [show emptyS (Uni.enc []) = true from by rw [emptyS_iff]; rfl]; rfl
    · have := (part_solid (p := .i l) ⟨h, hl⟩)
      rcases this with ⟨h1, _⟩ | ⟨_, _, _, h4⟩
      · simp [P.part] at h1
      · simp only [P.part] at h4; rw [h4]; simp [h]
  cases p with
  | k n =>
    intro r hr
    have ht : triv (P.part (.k n)) = decide (n = 0) := by simp [triv, P.part]
    cases r with
    | nil => simp only [List.map_nil, addR, ht, addP]; by_cases h : n = 0 <;> simp [h]
    | cons q r =>
      simp only [List.map_cons, addR, ht, addP]
      by_cases h : n = 0
      · simp [h]
      · cases q <;> simp [h, P.part, app_noText]
  | d n =>
    intro r hr
    have ht : triv (P.part (.d n)) = decide (n = 0) := by simp [triv, P.part]
    cases r with
    | nil => simp only [List.map_nil, addR, ht, addP]; by_cases h : n = 0 <;> simp [h]
    | cons q r =>
      simp only [List.map_cons, addR, ht, addP]
      by_cases h : n = 0
      · simp [h]
      · cases q <;> simp [h, P.part, app_noText]
  | i l =>
    have hl := hp l rfl
    have ht : triv (P.part (.i l)) = decide (l = []) := by simp [triv, P.part, emp l hl]
    intro r
    induction r with
    | nil => intro _; simp only [List.map_nil, addR, ht, addP]; by_cases h : l = [] <;> simp [h]
    | cons q r ih =>
      intro hr
      have ih' := ih (fun q hq => hr q (List.mem_cons_of_mem _ hq))
      simp only [List.map_cons, addR, ht]
      by_cases h : l = []
      · subst h; cases q <;> simp [addP]
      · cases q with
        | k m => simp [addP, h, P.part]
        | i m => simp [addP, h, P.part, enc_append]
        | d m =>
          rw [show addP (.d m :: r) (.i l) = .d m :: addP r (.i l) from by simp [addP, h]]
          simp [h, P.part] at ih' ⊢
          exact ih'
end Go.Proofs.YtkbfhgcjimfgkaaDoor

set_option linter.unusedVariables false
set_option linter.unusedSimpArgs false
namespace Go.Proofs.YtkbfhgcjimfgkaaDoor
open Go.RowKit

theorem infoB : (Tryd.prog.info? 5).map (fun i => (i.zero, i.size, i.bytes)) = some (some (.int .u8 0), 1, 1) := by kernel_rfl
theorem sizeBld : (Tryd.prog.info? 113).map (·.size) = some 2 := by kernel_rfl
theorem liesBld : liesAt Tryd.prog Tryd.prog.depth 113 (2 / Tryd.prog.cellsOf 113) 0 113 1 = true := by kernel_rfl
/-- a builder of the call's own that holds so many bytes -/
abbrev Bld (B b : Nat) (l : List UInt8) (w : World) : Prop := Lib.IsBuilder 113 5 B b (Lib.byteCells l) w

set_option maxHeartbeats 1000000 in
set_option maxRecDepth 100000 in
theorem copyCheck_used (b : Nat) (w : World) (h0 : w.cell? ⟨b, 0, none⟩ = some (.pointer (some ⟨b, 0, none⟩))) :
    Calls Tryd.prog 69 #[.pointer (some ⟨b, 0, none⟩)] w fun e w' => e = .returned (.tuple #[]) ∧ w' = w := by
  obtain ⟨j, hj, _⟩ := Option.map_eq_some_iff.1 sizeBld
  go_enter Tryd.func69, Tryd.ntmps69
  go_wp2
  rw [Lib.run_neq_ptr_same w _ Tryd.underlying111 hj]
  go_wp2
  go_end0
  exact ⟨rfl, rfl⟩
set_option maxHeartbeats 1000000 in
set_option maxRecDepth 100000 in
theorem copyCheck_fresh (b : Nat) (w : World) (h0 : w.cell? ⟨b, 0, none⟩ = some (.pointer none)) (hsh : w.shape? b = some (113, 2)) (hfz : w.frozen? ⟨b, 0, none⟩ = false) :
    Calls Tryd.prog 69 #[.pointer (some ⟨b, 0, none⟩)] w fun e w' => e = .returned (.tuple #[]) ∧ w' = w.setCell ⟨b, 0, none⟩ (.pointer (some ⟨b, 0, none⟩)) := by
  obtain ⟨j, hj, hjs⟩ := Option.map_eq_some_iff.1 sizeBld
  go_enter Tryd.func69, Tryd.ntmps69
  go_wp2
  rw [Lib.run_to_unsafe w ⟨b, 0, none⟩ Tryd.underlying111 Tryd.underlying175 hj (by rw [hjs]; decide) hsh (Nat.zero_lt_succ 1)]
  simp only [Result.andThen]
  rw [Oper.upon_value]
  go_wp2
  rw [run_callFunc_extern Tryd.func89 (by kernel_rfl) (by kernel_rfl) (by kernel_rfl) (e := Extern.AbiNoEscape.same) (by kernel_rfl)]
  rw [Lib.run_noEscape]
  simp only [Result.andThen]
  rw [Oper.upon_value]
  go_wp2
  rw [Lib.run_from_unsafe w ⟨b, 0, none⟩ Tryd.underlying175 Tryd.underlying111 hj hsh liesBld]
  simp only [Result.andThen]
  rw [Oper.upon_value]
  go_wp2
  go_end0
  exact ⟨rfl, rfl⟩
theorem copyCheck_any (B b : Nat) (bs : List Value) (w : World) (h : Lib.IsBuilder 113 5 B b bs w) :
    Calls Tryd.prog 69 #[.pointer (some ⟨b, 0, none⟩)] w fun e w' => e = .returned (.tuple #[]) ∧ (Lib.BuilderAt 113 5 B b (.pointer (some ⟨b, 0, none⟩)) bs w' ∧ Below B w w' ∧ ∀ k, k ≠ b → w'.heap[k]? = w.heap[k]?) := by
  rcases h with h | h
  · refine (copyCheck_fresh b w h.cell0 h.shape h.frozen0).mono ?_
    rintro e w' ⟨rfl, rfl⟩
    exact ⟨rfl, h.used _, (Below.refl B w).setCell (p := ⟨b, 0, none⟩) h.1 _, fun k hk => Below.heap_setCell _ _ _ _ hk⟩
  · refine (copyCheck_used b w h.cell0).mono ?_
    rintro e w' ⟨rfl, rfl⟩
    exact ⟨rfl, h, Below.refl B _, fun _ _ => rfl⟩
theorem bytes_app (l : List UInt8) (s : ByteArray) : Lib.byteCells l ++ Lib.strCells s = Lib.byteCells (l ++ s.data.toList) := by simp [Lib.byteCells, Lib.strCells]
/-- all blocks but b, and rows of bytes, are as they were -/
def Others (b : Nat) (w w' : World) : Prop := ∀ k cs t f, w.heap[k]? = some (.cells cs t f) → t ≠ 5 → k ≠ b → w'.heap[k]? = w.heap[k]?
theorem Bld.lt {B b : Nat} {l : List UInt8} {w : World} (h : Bld B b l w) : b < w.heap.size := by
  rcases h with h | h <;> exact h.lt
theorem Bld.below {B b : Nat} {l : List UInt8} {w w' : World} (h : Bld B b l w) (hb : Below w.heap.size w w') : Bld B b l w' := by
  have key : ∀ p, Lib.BuilderAt 113 5 B b p (Lib.byteCells l) w → Lib.BuilderAt 113 5 B b p (Lib.byteCells l) w' := by
    rintro p ⟨h1, v, h2, h3, h4⟩
    refine ⟨h1, v, (hb.block b (Array.getElem?_eq_some_iff.1 h2).1).trans h2, ⟨h3.1, ?_⟩, h4⟩
    rcases h3.2 with hn | ⟨g, cap, cur, hv, hg, hh, rest⟩
    · exact .inl hn
    · exact .inr ⟨g, cap, cur, hv, hg, (hb.block g (Array.getElem?_eq_some_iff.1 hh).1).trans hh, rest⟩
  rcases h with h | h
  · exact .inl (key _ h)
  · exact .inr (key _ h)
set_option maxHeartbeats 2000000 in
set_option maxRecDepth 100000 in
theorem wstr_any (B b : Nat) (l : List UInt8) (s : ByteArray) (w : World) (h : Bld B b l w) (hlen : l.length + s.size ≤ 140737488355328) (hBw : B ≤ w.heap.size) :
    Calls Tryd.prog 46 #[.pointer (some ⟨b, 0, none⟩), .string s] w fun e w' => e = .returned (.tuple #[.int .i64 s.size, .nilIface]) ∧ Bld B b (l ++ s.data.toList) w' ∧ Below B w w' ∧ Others b w w' := by
  obtain ⟨i0, hi, hz0, hz1, hz2⟩ := info_parts infoB
  have hc := copyCheck_any B b _ w h
  have hbl : (Lib.byteCells l).length = l.length := by simp [Lib.byteCells]
  clear h
  go_enter Tryd.func46, Tryd.ntmps46
  go_wp2_with fail
  refine hc.mono ?_
  rintro e w1 ⟨rfl, hat, hb1, hk1⟩
  obtain ⟨hB, v, hbk, hown, hne⟩ := hat
  have hz := hb1.size
  obtain ⟨ao, cap, rfl⟩ : ∃ ao cap, v = .slice ao (Lib.byteCells l).length cap := by
    rcases hown.2 with ⟨hv, h0⟩ | ⟨g, cap, cur, hv, _⟩
    · exact ⟨none, 0, by rw [hv, h0]⟩
    · exact ⟨_, _, hv⟩
  have c1 : w1.cell? ⟨b, 1, none⟩ = some (.slice ao (Lib.byteCells l).length cap) := by rw [Lib.cell_of_heap hbk]; rfl
  have hblt : b < w1.heap.size := (Array.getElem?_eq_some_iff.1 hbk).1
  have f1 : w1.frozen? ⟨b, 1, none⟩ = false := Lib.frozen_of_heap hbk 1
  have Hk1 := Lib.hid hk1
  have Hbk := Lib.hid hbk
  have Hown := Lib.hid hown
  have Hne := Lib.hid hne
  have Hbl := Lib.hid hbl
  clear hbk hown hne hbl hc hk1
  go_wp2_with (at_builtin; refine Lib.wpList_append_own_string _ rfl _ _ 50 9 rfl B 5 i0 Tryd.underlying50 Tryd.underlying9 hi hz0 hz1 hz2 _ _ _ rfl Hown.out s rfl ?h1 ?h2 ?h3 ?_)
  case h1 => rw [Hbl.out]; unfold maxLen; omega
  case h2 => rw [Hbl.out]; omega
  case h3 => omega
  intro v' w2 hown2 hgrow _
  obtain ⟨ta, tn, tc, rfl⟩ : ∃ ta tn tc, v' = .slice ta tn tc := by
    rcases hown2.2 with ⟨hv, _⟩ | ⟨g, cap, cur, hv, _⟩
    · exact ⟨none, 0, 0, hv⟩
    · exact ⟨_, _, _, hv⟩
  have hbk2 : w2.heap[b]? = some (.cells #[.pointer (some ⟨b, 0, none⟩), .slice ao (Lib.byteCells l).length cap] 113 (0, 0)) := (hgrow.block b hblt (fun e => Hne.out (by rw [e]))).trans Hbk.out
  have f2 : w2.frozen? ⟨b, 1, none⟩ = false := Lib.frozen_of_heap hbk2 1
  have d2 : w2.cell? ⟨b, 1, none⟩ = some (.slice ao (Lib.byteCells l).length cap) := by rw [Lib.cell_of_heap hbk2]; rfl
  have hfin : Bld B b (l ++ s.data.toList) (w2.setCell ⟨b, 1, none⟩ (.slice ta tn tc)) ∧ Below B w (w2.setCell ⟨b, 1, none⟩ (.slice ta tn tc)) ∧ Others b w (w2.setCell ⟨b, 1, none⟩ (.slice ta tn tc)) := by
    refine ⟨.inr (Lib.BuilderAt.put hB hbk2 ?_ (by decide)), ?_, fun k cs t f hk ht hkb => ?_⟩
    · rw [← bytes_app, List.length_append, Lib.strCells_length]; exact hown2
    · exact (hb1.grown hgrow (by omega) (fun g hg => (Hown.out.lt g hg).1)).setCell (p := ⟨b, 1, none⟩) hB _
    · have hk0 : w1.heap[k]? = w.heap[k]? := Hk1.out k hkb
      rw [Below.heap_setCell _ _ _ _ hkb, hgrow.block k (by rw [hk] at hk0; exact (Array.getElem?_eq_some_iff.1 hk0).1) ?_, hk0]
      intro e
      rcases Hown.out.2 with ⟨hv, _⟩ | ⟨g, cap, cur, hv, _, hg, _⟩
      · rw [hv] at e; cases e
      · rw [hv] at e
        have e2 : k = g := by simpa [Value.ownBlock] using e
        subst e2
        rw [hk, hg] at hk0
        injection hk0 with hk0
        injection hk0 with _ h2
        exact ht h2.symm
  have Hfin := Lib.hid hfin
  have hblt2 : b < w2.heap.size := (Array.getElem?_eq_some_iff.1 hbk2).1
  clear hfin hown2 hgrow hbk2 Hk1 Hbk Hown Hne Hbl
  go_wp2_with fail
  go_ret2
  exact ⟨rfl, Hfin.out⟩
end Go.Proofs.YtkbfhgcjimfgkaaDoor

set_option linter.unusedVariables false
set_option linter.unusedSimpArgs false
namespace Go.Proofs.YtkbfhgcjimfgkaaDoor
open Go.RowKit

/-- what text.Apply refuses -/
def applyE (s : Str) (o : Op) : Int := if checkText s ≠ 0 then checkText s else if check o ≠ 0 then check o else if sumF o ≠ rc s then 10 else 0
/-- .. and what it makes -/
def applyS (s : Str) (o : Op) : Str := if applyE s o = 0 then Uni.enc (app (rns s) (opP o)) else noText

/-- runes lie in block g -/
def RunesAt (w : World) (g : Nat) (rs : List Nat) : Prop := g < w.heap.size ∧ ∀ j r, rs[j]? = some r → w.cell? ⟨g, j, none⟩ = some (.int .i32 ((r : Nat) : Int))
theorem RunesAt.below {w w' : World} {B g : Nat} {rs : List Nat} (h : RunesAt w g rs) (hb : Below B w w') (hB : g < B) : RunesAt w' g rs :=
  ⟨Nat.lt_of_lt_of_le h.1 hb.size, fun j r hj => (hb.cell (p := ⟨g, j, none⟩) hB).trans (h.2 j r hj)⟩
/-- some of them as a string -/
theorem RunesAt.conv {w : World} {g : Nat} {rs : List Nat} (h : RunesAt w g rs) (off m c : Nat) (hm : off + m ≤ rs.length) :
    (convert 86 9 (.slice (some ⟨g, off, none⟩) m c)).run Tryd.prog w = .ok (.string (Uni.enc ((rs.drop off).take m))) w := by
  have hz : ∀ j, j < (((rs.drop off).take m).map fun r : Nat => (r : Int)).length → w.cell? ((⟨g, off, none⟩ : Addr).add j) = some (.int .i32 ((((rs.drop off).take m).map fun r : Nat => (r : Int)).getD j 0)) := by
    intro j hj
    simp only [List.length_map, List.length_take, List.length_drop] at hj
    have e : (⟨g, off, none⟩ : Addr).add j = ⟨g, off + j, none⟩ := by
      unfold Addr.add
      split
      · rename_i h0; rw [h0]; rfl
      · rfl
    have h1 : off + j < rs.length := by omega
    rw [e, h.2 (off + j) rs[off + j] (List.getElem?_eq_getElem h1)]
    simp only [List.getD, List.getElem?_map]
    rw [List.getElem?_take_of_lt (by omega), List.getElem?_drop, List.getElem?_eq_getElem h1]
    rfl
  have hr := run_convert_runes (P := Tryd.prog) w 86 9 21 ⟨g, off, none⟩ m c (((rs.drop off).take m).map fun r : Nat => (r : Int)) (by simp; omega) Tryd.underlying86 Tryd.underlying21 Tryd.underlying9 hz
  rw [List.take_of_length_le (by simp; omega), runesBytes_enc] at hr
  exact hr
/-- a string as runes: where they lie then -/
theorem runes_of (s : Str) (hs : s.size ≤ 70368744177664) : ∃ R : Array Value, R.size = (rns s).length ∧ R = ((rns s).map fun r : Nat => Value.int .i32 ((r : Nat) : Int)).toArray ∧ (∀ W : World, (convert 9 86 (.string s)).run Tryd.prog W =
    .ok (.slice (some ⟨W.heap.size, 0, none⟩) (rns s).length (grownCap W (rns s).length 0 21)) (W.drew.alloc (.cells (R ++ Array.replicate (grownCap W (rns s).length 0 21 - (rns s).length) (.int .i32 0)) 21))) := by
  have hR : Conv.runesFrom s s.size 0 #[] = ((rns s).map fun r : Nat => Value.int .i32 ((r : Nat) : Int)).toArray := by
    rw [Uni.runesFrom_dec]; simp [rns, Uni.dec]
  have hz : (Conv.runesFrom s s.size 0 #[]).size = (rns s).length := by rw [hR]; simp
  refine ⟨Conv.runesFrom s s.size 0 #[], hz, hR, fun W => ?_⟩
  have h := run_runes_of_string (P := Tryd.prog) W 9 86 21 s Tryd.underlying9 Tryd.underlying86 Tryd.underlying21
    (by rw [hz]; have h2 := rc_rns s; have h3 := rc_le s; omega)
  rw [hz] at h
  exact h
theorem runesAt_new (W : World) (R : Array Value) (J : Array Value) (rs : List Nat) (hR : R = (rs.map fun r : Nat => Value.int .i32 ((r : Nat) : Int)).toArray) (t : TypeId) : RunesAt (W.alloc (.cells (R ++ J) t)).drew W.heap.size rs := by
  subst hR
  refine ⟨by simp, fun j r hj => ?_⟩
  show (W.alloc (.cells _ t)).cell? _ = _
  rw [cell_of_row _ W.heap.size j _ t (0, 0) (heap_new_at _ _ _ (by simp))]
  have hlt := (List.getElem?_eq_some_iff.1 hj).1
  rw [Array.getElem?_append_left (by simpa using hlt)]
  simp [hj]
/-- the cells of parts over runes -/
theorem OpIs.cells {o : Op} {l : List P} (h : OpIs o l) {A : Nat → Prop} {w : World} {a : Option Addr} {n c : Nat} (hr : RdS A w o a n c) (hn : 0 < n) :
    ∃ b off, a = some ⟨b, off, none⟩ ∧ A b ∧ b < w.heap.size ∧ ∀ i p, l[i]? = some p →
      w.cell? ⟨b, off + i * 3, none⟩ = some (.int .i64 p.part.kind) ∧ w.cell? ⟨b, off + i * 3 + 1, none⟩ = some (.int .i64 p.part.n) ∧ w.cell? ⟨b, off + i * 3 + 2, none⟩ = some (.string p.part.text) := by
  obtain ⟨b, off, e, hA, hb, hc⟩ := hr.part hn
  refine ⟨b, off, e, hA, hb, fun i p hi => ?_⟩
  have hil : i < o.length := by rw [h.eq]; simpa using (List.getElem?_eq_some_iff.1 hi).1
  have hoi : o[i] = p.part := by
    have h1 : o[i]? = some p.part := by rw [h.eq, List.getElem?_map, hi]; rfl
    rw [List.getElem?_eq_getElem hil] at h1
    exact Option.some.inj h1
  have := hc i hil
  rw [hoi] at this
  exact this.2.2.2
theorem FS_take (l : List P) (k : Nat) : FS (l.take k) ≤ FS l := by
  have := FS_app (l.take k) (l.drop k)
  rw [List.take_append_drop] at this; omega
theorem TS_take (l : List P) (k : Nat) : TS (l.take k) ≤ TS l := by
  have := TS_app (l.take k) (l.drop k)
  rw [List.take_append_drop] at this; omega
theorem FS_next (l : List P) (k : Nat) (h : k < l.length) : FS (l.take (k + 1)) = FS (l.take k) + l[k].F := by
  rw [take_next l k h, FS_app]; simp [FS]
theorem TS_next (l : List P) (k : Nat) (h : k < l.length) : TS (l.take (k + 1)) = TS (l.take k) + l[k].T := by
  rw [take_next l k h, TS_app]; simp [TS]
theorem app_next (l : List P) (k : Nat) (h : k < l.length) (t : List Nat) : app t (l.take (k + 1)) = app t (l.take k) ++ app (t.drop (FS (l.take k))) [l[k]] := by
  rw [take_next l k h, app_app]
theorem enc_bytes (l : List Nat) : (Uni.enc l).data.toList = Uni.encL l := rfl

set_option maxRecDepth 100000 in
set_option maxHeartbeats 4000000 in
theorem apply_ok (s : Str) (o : Op) (a : Option Addr) (n c : Nat) (w : World) (hg : Good w) (hr : RdS (· < w.heap.size) w o a n c) (hs : s.size ≤ 70368744177664) (h0 : checkText s = 0) (h1 : check o = 0) (h2 : sumF o = rc s) :
    Calls Tryd.prog 22 #[.string s, .slice a n c] w fun e w' => e = .returned (.tuple #[.string (Uni.enc (app (rns s) (opP o))), .int .i64 0]) ∧ Below w.heap.size w w' := by
  have hss : s.size ≤ strMax := by unfold strMax; omega
  have HT := Lib.hid (by have := checkText_any s w hg hss; rw [h0] at this; exact this)
  have HC := Lib.hid (fun W (hb : Below w.heap.size w W) => by
    have := check_any (· < w.heap.size) o a n c W (hg.below' hb) (fun b h => Nat.lt_of_lt_of_le h hb.size) (hr.below (fun _ h => h) hb)
    rw [h1] at this; exact this)
  have HL := Lib.hid (fun W (hb : Below w.heap.size w W) => lengths_any (· < w.heap.size) o a n c W (hr.below (fun _ h => h) hb) (check_small h1))
  have hv : valid s = true := by
    unfold checkText at h0
    cases hv : valid s with
    | true => rfl
    | false => rw [hv] at h0; simp at h0
  have hvr := rns_vr hv
  have hrc := rc_rns s
  obtain ⟨R, hRz, hR, hconv⟩ := runes_of s hs
  have hcl := rc_le s
  have hO := opIs h1
  have hnl : n = (opP o).length := by have h := hr.1; rw [h]; unfold opP; simp
  have hn2 : n ≤ 8001 := by rw [hnl]; exact hO.len
  have hcells := fun h => hO.cells hr h
  have hFl := hO.fl
  have hTl := hO.tl
  have hF : FS (opP o) = (rns s).length := by have := hO.f; omega
  rw [h2, hrc] at HL
  have hok := hO.ok
  have htn := sumT o
  clear hr hO h0 h1 h2 hss hv hg htn hrc hcl
  generalize sumT o = tn at *
  generalize opP o = l at *
  generalize rns s = rs at *
  have Hcells := Lib.hid hcells
  have Hl := Lib.hid hnl
  have HF := Lib.hid hF
  have HRz := Lib.hid hRz
  have HR := Lib.hid hR
  have Hvr := Lib.hid hvr
  have Hok := Lib.hid hok
  clear hcells hnl hF hRz hR hvr hok
  -- what the parts up to k make is short
  have Hout : Hid (∀ k, k ≤ l.length → (Uni.encL (app rs (l.take k))).length ≤ 16000) := by
    unfold Hid
    intro k hk
    have h1 := Uni.encL_append
    have h2 := encL_size (app rs (l.take k)) (app_vr _ _ Hvr.out (fun p hp => Hok.out p (List.mem_of_mem_take hp)))
    have h3 := app_len (l.take k) rs (by have := FS_take l k; have := HF.out; omega)
    have h4 := TS_take l k
    omega
  go_enter Tryd.func22, Tryd.ntmps22
  go_wp2_with fail
  refine HT.out.mono ?_
  rintro e w1 ⟨rfl, hb1⟩
  clear HT
  go_wp2_with fail
  refine (HC.out _ hb1).mono ?_
  rintro e w2 ⟨rfl, hb2⟩
  clear HC
  have hb2 := hb1.trans (hb2.mono hb1.size)
  clear hb1
  go_wp2_with fail
  have hz2 := hb2.size
  have hg2 : RunesAt (w2.alloc (.cells (R ++ Array.replicate (grownCap w2 rs.length 0 21 - rs.length) (.int .i32 0)) 21)).drew w2.heap.size rs := runesAt_new w2 R _ rs HR.out _
  have hcap := grownCap_ge w2 rs.length 0 21
  have hcapm : grownCap w2 rs.length 0 21 ≤ maxLen := grownCap_le_maxLen w2 rs.length 0 21 (by have := HF.out; unfold maxLen; omega)
  have hbW : Below w.heap.size w (w2.alloc (.cells (R ++ Array.replicate (grownCap w2 rs.length 0 21 - rs.length) (.int .i32 0)) 21)).drew := by (repeat (first | exact Below.refl _ _ | assumption | (refine Below.drew ?_) | (refine below_drewN ?_ _) | (refine Below.alloc ?_ (by first | (simp; done) | (simp; omega) | omega) _) | (refine Below.setCell ?_ (by first | (simp; done) | (simp; omega) | omega) _) | (refine Below.trans ?_ (Below.mono (by assumption) (by first | (simp; done) | (simp; omega) | omega)))))
  have hz3 : w2.heap.size < (w2.alloc (.cells (R ++ Array.replicate (grownCap w2 rs.length 0 21 - rs.length) (.int .i32 0)) 21)).drew.heap.size := hg2.1
  generalize (w2.alloc (.cells (R ++ Array.replicate (grownCap w2 rs.length 0 21 - rs.length) (.int .i32 0)) 21)).drew = w3 at *
  generalize grownCap w2 rs.length 0 21 = cap at *
  generalize w2.heap.size = g at *
  clear hb2 hconv HRz HR
  refine (HL.out _ hbW).mono ?_
  rintro e w4 ⟨rfl, hb4⟩
  have hbW := hbW.trans (hb4.mono hbW.size)
  have hg4 := hg2.below hb4 hz3
  have hz4 := hb4.size
  clear hb4 HL hg2
  unfold maxLen at hcapm
  go_wp2_with fail
  have hBw : w.heap.size ≤ w4.heap.size := hbW.size
  have hgB : g < w4.heap.size := by omega
  have h0 : Bld w4.heap.size w4.heap.size (Uni.encL (app rs (l.take 0))) (w4.alloc (.cells #[.pointer none, .slice none 0 0] 113)) := Lib.fresh_isBuilder _ _ w4
  have h1 : RunesAt (w4.alloc (.cells #[.pointer none, .slice none 0 0] 113)) g rs := hg4.below ((Below.refl _ _).alloc (Nat.le_refl _) _) hgB
  have H0 := Lib.hid h0
  have H1 := Lib.hid h1
  have H2 := Lib.hid (hbW.alloc hBw (.cells #[.pointer none, .slice none 0 0] 113))
  have H3 : Hid (w4.heap.size ≤ (w4.alloc (.cells #[.pointer none, .slice none 0 0] 113)).heap.size) := by unfold Hid; simp
  clear h0 h1 hbW hg4
  generalize (w4.alloc (.cells #[.pointer none, .slice none 0 0] 113)) = w5 at *
  generalize w4.heap.size = B at *
  go_loopw [12, 38] (fun t i wr => ∃ k : Nat, k ≤ n ∧ i = .int .i64 k ∧ t = .int .i64 ((FS (l.take k) : Nat) : Int) ∧ Bld B B (Uni.encL (app rs (l.take k))) wr ∧ RunesAt wr g rs ∧ B ≤ wr.heap.size ∧ Below w.heap.size w wr) (fun _ i _ => n - (intOf i).toNat)
  case atStart => exact ⟨0, by omega, rfl, rfl, H0.out, H1.out, H3.out, H2.out⟩
  case round =>
    obtain ⟨k, hk, rfl, rfl, hbld, hrun, hBr, hb⟩ := hrel
    clear H0 H1 H2 H3
    by_cases hlt : k < n
    · obtain ⟨b, off, rfl, _, hbs, hcs⟩ := Hcells.out (by omega)
      have hkl : k < l.length := by have := Hl.out; omega
      obtain ⟨c0, c1, c2⟩ := hcs k l[k] (List.getElem?_eq_getElem hkl)
      clear hcs
      obtain ⟨hcb, hfb⟩ := bcell hb
      have HFn := Lib.hid (FS_next l k hkl)
      have Hap := Lib.hid (app_next l k hkl rs)
      have hFk := FS_take l (k + 1)
      have hFl2 := HF.out
      have hok := Hok.out l[k] (List.getElem_mem hkl)
      have hlen := Hout.out k (by omega)
      have hTn := TS_next l k hkl
      have hTt := TS_take l (k + 1)
      rw [hTn] at hTt
      clear hTn
      have hx : FS (l.take (k + 1)) = FS (l.take k) + l[k].F := FS_next l k hkl
      rw [hx] at hFk
      clear hx
      have hBlt := hbld.lt
      have Hbld := Lib.hid hbld
      have Hrun := Lib.hid hrun
      clear hbld hrun
      generalize FS (l.take k) = F at *
      generalize l[k] = p at *
      generalize TS (l.take k) = tt at *
      cases p with
      | k m =>
        clear hTt
        simp only [P.part, P.F, P.ok] at c0 c1 c2 hFk hok HFn
        have hrl : F + m ≤ rs.length := by omega
        have hm4 : m ≤ 4000 := by omega
        clear hFl2 hFl
        have Hcv : Hid (∀ W C, Below B wr W → (convert 86 9 (.slice (some ⟨g, F, none⟩) m C)).run Tryd.prog W = .ok (.string (Uni.enc ((rs.drop F).take m))) W) := fun W C hW => (Hrun.out.below hW hgB).conv F m C hrl
        have hcv := Hcv.out (wr.alloc (.cells #[.int .i64 1, .int .i64 ((m : Nat) : Int), .string noText] 53)) (cap - F) ((Below.refl _ _).alloc hBr _)
        have Hal := Lib.hid (Hbld.out.below ((Below.refl _ _).alloc (Nat.le_refl _) (.cells #[.int .i64 1, .int .i64 ((m : Nat) : Int), .string noText] 53)))
        have hsz := enc_size ((rs.drop F).take m) (fun r h => Hvr.out r (List.mem_of_mem_drop (List.mem_of_mem_take h)))
        have hsz2 : ((rs.drop F).take m).length ≤ 4000 := by rw [List.length_take]; omega
        have Hpc : Hid (Uni.encL (app rs (l.take k)) ++ (Uni.enc ((rs.drop F).take m)).data.toList = Uni.encL (app rs (l.take (k + 1)))) := by
          unfold Hid; rw [Hap.out, Uni.encL_append]; simp [app, enc_bytes]
        generalize Uni.enc ((rs.drop F).take m) = T at *
        clear Hap
        go_wp2_with fail
        refine (wstr_any B B _ T _ Hal.out (by omega) (by simp; omega)).mono ?_
        rintro e w6 ⟨rfl, hbld6, hb6, hot⟩
        have hpb := hot wr.heap.size _ _ _ (heap_new_at wr _ _ rfl) (by decide) (by omega)
        have d1 : w6.cell? ⟨wr.heap.size, 1, none⟩ = some (.int .i64 ((m : Nat) : Int)) := (cell_keep hpb).trans (by rw [cell_of_row _ _ _ _ _ _ (heap_new_at _ _ _ rfl)]; rfl)
        rw [Hpc.out] at hbld6
        have Hb6 := Lib.hid hbld6
        have hbz := hb.size
        have Hbelow : Hid (Below w.heap.size w w6) := by unfold Hid; exact (hb.alloc hbz _).trans (hb6.mono (by omega))
        have Hrun6 : Hid (RunesAt w6 g rs) := Hrun.out.below (((Below.refl _ _).alloc hBr _).trans hb6) hgB
        have hB6 : B ≤ w6.heap.size := by have := hb6.size; simp at this; omega
        clear hbld6 hb6 hot hpb Hal Hpc hcv Hcv hcb hfb
        go_wp2_with fail
        go_roundw
        case rel => exact ⟨k + 1, by omega, by go_num, by rw [HFn.out]; go_num, Hb6.out, Hrun6.out, hB6, Hbelow.out⟩
        case measure => simp [intOf]; omega
      | i t =>
        simp only [P.part, P.F, P.ok, P.T] at c0 c1 c2 hFk hok HFn hTt
        have Hal := Lib.hid (Hbld.out.below ((Below.refl _ _).alloc (Nat.le_refl _) (.cells #[.int .i64 2, .int .i64 0, .string (Uni.enc t)] 53)))
        have hsz := enc_size t hok.2
        have Hpc : Hid (Uni.encL (app rs (l.take k)) ++ (Uni.enc t).data.toList = Uni.encL (app rs (l.take (k + 1)))) := by
          unfold Hid; rw [Hap.out, Uni.encL_append]; simp [app, enc_bytes]
        have hsz2 : t.length ≤ 4000 := by
          omega
        generalize Uni.enc t = T at *
        clear Hap hok
        go_wp2_with fail
        refine (wstr_any B B _ T _ Hal.out (by omega) (by simp; omega)).mono ?_
        rintro e w6 ⟨rfl, hbld6, hb6, hot⟩
        rw [Hpc.out] at hbld6
        have Hb6 := Lib.hid hbld6
        have hbz := hb.size
        have Hbelow : Hid (Below w.heap.size w w6) := by unfold Hid; exact (hb.alloc hbz _).trans (hb6.mono (by omega))
        have Hrun6 : Hid (RunesAt w6 g rs) := Hrun.out.below (((Below.refl _ _).alloc hBr _).trans hb6) hgB
        have hB6 : B ≤ w6.heap.size := by have := hb6.size; simp at this; omega
        clear hbld6 hb6 hot Hal Hpc hcb hfb
        go_wp2_with fail
        go_roundw
        case rel => exact ⟨k + 1, by omega, by go_num, by rw [HFn.out]; go_num, Hb6.out, Hrun6.out, hB6, Hbelow.out⟩
        case measure => simp [intOf]; omega
      | d m =>
        clear hTt
        simp only [P.part, P.F, P.ok] at c0 c1 c2 hFk hok HFn
        have Hpc : Hid (app rs (l.take k) = app rs (l.take (k + 1))) := by
          unfold Hid; rw [Hap.out]; simp [app]
        have hbz := hb.size
        have hrl : F + m ≤ rs.length := by omega
        have Hfin : Hid (∀ W, Below wr.heap.size wr W → Bld B B (Uni.encL (app rs (l.take (k + 1)))) W ∧ RunesAt W g rs ∧ B ≤ W.heap.size ∧ Below w.heap.size w W) := by
          unfold Hid
          intro W hW
          rw [← Hpc.out]
          exact ⟨Hbld.out.below hW, Hrun.out.below hW (by omega), by have := hW.size; omega, hb.trans (hW.mono hbz)⟩
        clear Hap Hpc Hbld Hrun hFl2 hFl
        go_wp2_with fail
        go_roundw
        case rel => exact ⟨k + 1, by omega, by go_num, by rw [HFn.out]; go_num, Hfin.out _ (by (repeat (first | exact Below.refl _ _ | assumption | (refine Below.drew ?_) | (refine below_drewN ?_ _) | (refine Below.alloc ?_ (by first | (simp; done) | (simp; omega) | omega) _) | (refine Below.setCell ?_ (by first | (simp; done) | (simp; omega) | omega) _) | (refine Below.trans ?_ (Below.mono (by assumption) (by first | (simp; done) | (simp; omega) | omega))))))⟩
        case measure => simp [intOf]; omega
    · have hkn : k = l.length := by have := Hl.out; omega
      have hbz := hb.size
      have Hb := Lib.hid hb
      rw [hkn, List.take_length] at hbld
      have Hbld := Lib.hid hbld
      clear hb hbld
      go_wp2_with fail
      refine (Tryd.Builder_String_any B B _ wr Hbld.out hBr).mono ?_
      rintro e w6 ⟨rfl, hb6⟩
      have Hb6 := Lib.hid (Hb.out.trans (hb6.mono hBw))
      clear hb6
      go_wp2_with fail
      go_ret2
      exact ⟨rfl, Hb6.out⟩

set_option maxRecDepth 100000 in
set_option maxHeartbeats 2000000 in
theorem apply_any (s : Str) (o : Op) (a : Option Addr) (n c : Nat) (w : World) (hg : Good w) (hr : RdS (· < w.heap.size) w o a n c) (hs : s.size ≤ 70368744177664) :
    Calls Tryd.prog 22 #[.string s, .slice a n c] w fun e w' => e = .returned (.tuple #[.string (applyS s o), .int .i64 (applyE s o)]) ∧ Below w.heap.size w w' := by
  have hss : s.size ≤ strMax := by unfold strMax; omega
  have HT := Lib.hid (checkText_any s w hg hss)
  have HC := Lib.hid (fun W (hb : Below w.heap.size w W) => check_any (· < w.heap.size) o a n c W (hg.below' hb) (fun b h => Nat.lt_of_lt_of_le h hb.size) (hr.below (fun _ h => h) hb))
  by_cases h0 : checkText s = 0
  · by_cases h1 : check o = 0
    · by_cases h2 : sumF o = rc s
      · have hE : applyE s o = 0 := by unfold applyE; rw [if_neg (by simpa using h0), if_neg (by simpa using h1), if_neg (by simpa using h2)]
        unfold applyS
        rw [hE, if_pos rfl]
        exact apply_ok s o a n c w hg hr hs h0 h1 h2
      · have hE : applyE s o = 10 := by unfold applyE; rw [if_neg (by simpa using h0), if_neg (by simpa using h1), if_pos (by simpa using h2)]
        unfold applyS
        rw [hE, if_neg (by decide)]
        have HL := Lib.hid (fun W (hb : Below w.heap.size w W) => lengths_any (· < w.heap.size) o a n c W (hr.below (fun _ h => h) hb) (check_small h1))
        obtain ⟨R, hRz, hR, hconv⟩ := runes_of s hs
        have hcl := rc_le s
        have hne : ((sumF o != rc s)) = true := by simpa using h2
        rw [rc_rns s] at hne
        have hlim : ((rns s).length : Int) ≤ 70368744177664 := by have := rc_rns s; omega
        rw [h0] at HT; rw [h1] at HC
        clear hR hRz hr h0 h1 h2 hE hcl hss hg
        generalize sumF o = x at *
        generalize sumT o = y at *
        generalize rns s = rs at *
        go_enter Tryd.func22, Tryd.ntmps22
        go_wp2_with fail
        refine HT.out.mono ?_
        rintro e w1 ⟨rfl, hb1⟩
        clear HT
        go_wp2_with fail
        refine (HC.out _ hb1).mono ?_
        rintro e w2 ⟨rfl, hb2⟩
        clear HC
        have hb2 := hb1.trans (hb2.mono hb1.size)
        clear hb1
        go_wp2_with fail
        have hz2 := hb2.size
        have hbW : Below w.heap.size w (w2.alloc (.cells (R ++ Array.replicate (grownCap w2 rs.length 0 21 - rs.length) (.int .i32 0)) 21)).drew := by (repeat (first | exact Below.refl _ _ | assumption | (refine Below.drew ?_) | (refine below_drewN ?_ _) | (refine Below.alloc ?_ (by first | (simp; done) | (simp; omega) | omega) _) | (refine Below.setCell ?_ (by first | (simp; done) | (simp; omega) | omega) _) | (refine Below.trans ?_ (Below.mono (by assumption) (by first | (simp; done) | (simp; omega) | omega)))))
        refine (HL.out _ hbW).mono ?_
        rintro e w4 ⟨rfl, hb4⟩
        have hbW := hbW.trans (hb4.mono hbW.size)
        go_wp2_with fail
        go_ret2
        exact ⟨rfl, hbW⟩
    · have hE : applyE s o = check o := by unfold applyE; rw [if_neg (by simpa using h0), if_pos h1]
      unfold applyS
      rw [hE, if_neg h1]
      rw [h0] at HT
      have hne : (check o != 0) = true := by simpa using h1
      clear hr h0 h1 hE hss hg
      generalize check o = x at *
      go_enter Tryd.func22, Tryd.ntmps22
      go_wp2_with fail
      refine HT.out.mono ?_
      rintro e w1 ⟨rfl, hb1⟩
      clear HT
      go_wp2_with fail
      refine (HC.out _ hb1).mono ?_
      rintro e w2 ⟨rfl, hb2⟩
      clear HC
      have hb2 := hb1.trans (hb2.mono hb1.size)
      clear hb1
      go_wp2_with fail
      go_ret2
      exact ⟨rfl, hb2⟩
  · have hE : applyE s o = checkText s := by unfold applyE; rw [if_pos h0]
    unfold applyS
    rw [hE, if_neg h0]
    have hne : (checkText s != 0) = true := by simpa using h0
    clear hr h0 hE hss hg HC
    generalize checkText s = x at *
    go_enter Tryd.func22, Tryd.ntmps22
    go_wp2_with fail
    refine HT.out.mono ?_
    rintro e w1 ⟨rfl, hb1⟩
    clear HT
    go_wp2_with fail
    go_ret2
    exact ⟨rfl, hb1⟩
end Go.Proofs.YtkbfhgcjimfgkaaDoor

set_option linter.unusedVariables false
set_option linter.unusedSimpArgs false
namespace Go.Proofs.YtkbfhgcjimfgkaaDoor
open Go.RowKit

theorem RdS.go {α : Type} [Rep α] {w w' : World} {l : List α} {a : Option Addr} {n c : Nat} (hr : RdS (· < w.heap.size) w l a n c) (hb : Below w.heap.size w w') : RdS (· < w'.heap.size) w' l a n c :=
  hr.mono fun b h => ⟨Nat.lt_of_lt_of_le h hb.size, hb.block b h⟩
/-- at its own world all blocks that are reached are there -/
theorem RdS.wide {α : Type} [Rep α] {A : Nat → Prop} {w : World} {l : List α} {a : Option Addr} {n c : Nat} (hr : RdS A w l a n c) (hA : ∀ b, A b → b < w.heap.size) : RdS (· < w.heap.size) w l a n c :=
  hr.mono fun b h => ⟨hA b h, rfl⟩
theorem valid_of {s : Str} (h : checkText s = 0) : valid s = true ∧ rc s ≤ 4000 := by
  unfold checkText at h
  cases hv : valid s with
  | false => rw [hv] at h; simp at h
  | true =>
    rw [hv] at h
    by_cases h4 : 4000 < rc s
    · simp [h4] at h
    · exact ⟨rfl, by omega⟩
theorem checkText_of {s : Str} (hv : valid s = true) (h4 : rc s ≤ 4000) : checkText s = 0 := by
  unfold checkText; rw [if_neg (by simp [hv]), if_neg (by omega)]
theorem apply_good {s : Str} {o : Op} (h0 : checkText s = 0) (h1 : check o = 0) (h2 : sumF o = rc s) :
    applyE s o = 0 ∧ applyS s o = Uni.enc (app (rns s) (opP o)) ∧ (∀ r ∈ app (rns s) (opP o), Uni.vr r) ∧ rc (applyS s o) = sumT o ∧ checkText (applyS s o) = 0 ∧ (applyS s o).size ≤ 16000 := by
  have hE : applyE s o = 0 := by unfold applyE; rw [if_neg (by simpa using h0), if_neg (by simpa using h1), if_neg (by simpa using h2)]
  have hO := opIs h1
  have hS : applyS s o = Uni.enc (app (rns s) (opP o)) := by unfold applyS; rw [if_pos hE]
  have hv := rns_vr (valid_of h0).1
  have hvr := app_vr (opP o) (rns s) hv hO.ok
  have hl : (app (rns s) (opP o)).length = TS (opP o) := app_len _ _ (by have := hO.f; have := rc_rns s; omega)
  have hrc : rc (applyS s o) = sumT o := by rw [hS, rc_enc _ hvr, hl, hO.t]
  have htl := hO.tl
  have ht := hO.t
  refine ⟨hE, hS, hvr, hrc, checkText_of (by rw [hS]; exact valid_enc _ hvr) (by rw [hrc]; omega), ?_⟩
  have := enc_size _ hvr
  rw [hS]; omega
theorem apply_miss {s : Str} {o : Op} (h0 : checkText s = 0) (h1 : check o = 0) (h2 : sumF o ≠ rc s) : applyE s o = 10 := by
  unfold applyE; rw [if_neg (by simpa using h0), if_neg (by simpa using h1), if_pos h2]
theorem rns_apply {s : Str} {o : Op} (h0 : checkText s = 0) (h1 : check o = 0) (h2 : sumF o = rc s) : rns (applyS s o) = app (rns s) (opP o) := by
  obtain ⟨_, hS, hvr, _⟩ := apply_good h0 h1 h2
  rw [hS, rns_enc hvr]
/-- the text of raw things -/
theorem letters_ok (s : Str) (m : Nat) (hm : m ≤ 4000) : checkText (letters s m) = 0 ∧ 0 ≤ rc (letters s m) ∧ rc (letters s m) ≤ m ∧ (letters s m).size ≤ m * 4 := by
  have h1 := letters_rc s m
  exact ⟨checkText_of (letters_valid s m) (by omega), by omega, by omega, letters_size s m⟩
/-- what Op makes of raw things -/
theorem mkOp_ok (n : Int) (l : List Raw) (h0 : 0 ≤ n) (h1 : n ≤ 3976) : check (mkOp n l) = 0 ∧ sumF (mkOp n l) = n ∧ 0 ≤ sumT (mkOp n l) ∧ sumT (mkOp n l) ≤ n + 24 := opOf_good texts_letters n h0 h1 l
/-- Op's call, as the walks of laws take it -/
theorem mkOp_go (n : Int) (l : List Raw) (a : Option Addr) (m c : Nat) (w : World) (hr : RdS (· < w.heap.size) w l a m c) (hn : 0 ≤ n) (hn' : n ≤ 1000000000) :
    Calls Tryd.prog 19 #[.int .i64 n, .slice a m c] w fun e w' => ∃ a' c', e = .returned (.slice a' (mkOp n l).length c') ∧ RdS (· < w'.heap.size) w' (mkOp n l) a' (mkOp n l).length c' ∧ Below w.heap.size w w' := by
  refine (mkOp_any (· < w.heap.size) n l a m c w (fun b h => h) hr hn hn').mono ?_
  rintro e w' ⟨a', c', rfl, hr', hb⟩
  refine ⟨a', c', rfl, ?_, hb⟩
  obtain ⟨h1, h2, h3, h4, h6⟩ := hr'
  refine ⟨h1, h2, h3, h4, fun hn => ?_⟩
  obtain ⟨b, off, e, _, hlt, h⟩ := h6 hn
  exact ⟨b, off, e, hlt, hlt, fun i x hx => h i x hx⟩
theorem check_go (o : Op) (a : Option Addr) (n c : Nat) (w : World) (hg : Good w) (hr : RdS (· < w.heap.size) w o a n c) :
    Calls Tryd.prog 44 #[.slice a n c] w fun e w' => e = .returned (.int .i64 (check o)) ∧ Below w.heap.size w w' := check_any _ o a n c w hg (fun _ h => h) hr
theorem lengths_go (o : Op) (a : Option Addr) (n c : Nat) (w : World) (hr : RdS (· < w.heap.size) w o a n c) (h : check o = 0) :
    Calls Tryd.prog 45 #[.slice a n c] w fun e w' => e = .returned (.tuple #[.int .i64 (sumF o), .int .i64 (sumT o)]) ∧ Below w.heap.size w w' := lengths_any _ o a n c w hr (check_small h)
end Go.Proofs.YtkbfhgcjimfgkaaDoor

set_option linter.unusedVariables false
set_option linter.unusedSimpArgs false
namespace Go.Proofs.YtkbfhgcjimfgkaaDoor
open Go.RowKit

theorem RdS.of_cells {w : World} {l : Op} {b t : Nat} {A : Nat → Prop} (h : w.heap[b]? = some (.cells (flat l).toArray t (0, 0))) (hp : ∀ p ∈ l, I64 p.kind ∧ I64 p.n ∧ p.text.size ≤ strMax) (hA : A b) (hl : l.length ≤ 1000) :
    RdS A w l (some ⟨b, 0, none⟩) l.length l.length := by
  refine ⟨rfl, Nat.le_refl _, by unfold maxLen; omega, (fun h => by cases h), fun _ => ⟨b, 0, rfl, hA, (Array.getElem?_eq_some_iff.1 h).1, fun i x hx => ⟨partCells x, ⟨rfl, hp x (List.mem_of_getElem? hx)⟩, fun j u hu => ?_⟩⟩⟩
  obtain ⟨h1, h2, h3⟩ := flat_at l i x hx
  rw [cell_of_row w b _ _ t (0, 0) h]
  simp only [Rep.n, Nat.zero_add, List.getElem?_toArray]
  match j, hu with
  | 0, hu => simp [partCells] at hu; rw [← hu]; exact h1
  | 1, hu => simp [partCells] at hu; rw [← hu]; exact h2
  | 2, hu => simp [partCells] at hu; rw [← hu]; exact h3
theorem RdS.nil {α : Type} [Rep α] (A : Nat → Prop) (w : World) : RdS (α := α) A w [] none 0 0 := ⟨rfl, Nat.le_refl _, by unfold maxLen; omega, fun _ => rfl, fun h => absurd h (by omega)⟩
theorem check_nil : check [] = 0 := rfl
theorem valid_x : valid ⟨#[120]⟩ = true := rfl
theorem valid_e : valid ⟨#[]⟩ = true := rfl
theorem valid_ff : valid ⟨#[255]⟩ = false := rfl
theorem rc_x : rc ⟨#[120]⟩ = 1 := rfl
theorem rc_e : rc ⟨#[]⟩ = 0 := rfl
theorem em_e : emptyS ⟨#[]⟩ = true := by rw [emptyS_iff]; rfl
theorem em_x : emptyS ⟨#[120]⟩ = false := by
  cases h : emptyS ⟨#[120]⟩ with
  | false => rfl
  | true => rw [emptyS_iff] at h; exact absurd h (by decide)
theorem abs_w {P : Program} {c : Code} {K : _} {fr : _} {W0 : World} (Q : World → Prop) (hQ : Q W0) (k : ∀ W, Q W → Code.wp P c K fr W) : Code.wp P c K fr W0 := k _ hQ
theorem alloc_sz (w : World) (o : Obj) : (w.alloc o).heap.size = w.heap.size + 1 := by
  show (w.heap.push o).size = _
  rw [Array.size_push]
theorem alloc_at (w : World) (o : Obj) (i : Nat) : (w.alloc o).heap[i]? = if i = w.heap.size then some o else w.heap[i]? := by
  show (w.heap.push o)[i]? = _
  rw [Array.getElem?_push]
end Go.Proofs.YtkbfhgcjimfgkaaDoor

set_option linter.unusedVariables false
set_option linter.unusedSimpArgs false
namespace Go.Proofs.YtkbfhgcjimfgkaaDoor
open Go.RowKit

/-- block b is this -/
def Blk (b : Nat) (o : Obj) (W : World) : Prop := W.heap[b]? = some o
theorem Blk.lt {b : Nat} {o : Obj} {W : World} (h : Blk b o W) : b < W.heap.size := (Array.getElem?_eq_some_iff.1 h).1
theorem Blk.go {b : Nat} {o : Obj} {W W' : World} (h : Blk b o W) (hb : Below W.heap.size W W') : Blk b o W' := (hb.block b h.lt).trans h
theorem Blk.new (W : World) (o : Obj) : Blk W.heap.size o (W.alloc o) := heap_alloc_new W o
theorem Blk.at (W : World) (o : Obj) (b : Nat) (h : W.heap.size = b) : Blk b o (W.alloc o) := heap_new_at W o b h
theorem Blk.alloc {b : Nat} {o : Obj} {W : World} (h : Blk b o W) (o' : Obj) : Blk b o (W.alloc o') := h.go ((Below.refl _ _).alloc (Nat.le_refl _) _)
theorem Blk.drew {b : Nat} {o : Obj} {W : World} (h : Blk b o W) : Blk b o W.drew := h
theorem Blk.cell {b : Nat} {cs : Array Value} {t : Nat} {W : World} (h : Blk b (.cells cs t (0, 0)) W) (i : Nat) : W.cell? ⟨b, i, none⟩ = cs[i]? := cell_of_row _ _ _ _ _ _ h
theorem Good.go {W W' : World} (h : Good W) (hb : Below W.heap.size W W') : Good W' := h.below' hb
theorem up {a b c : World} (h : Below a.heap.size a b) (k : Below b.heap.size b c) : Below a.heap.size a c := h.trans (k.mono h.size)
theorem upper {B : Nat} {a b c : World} (h : Below B a b) (k : Below b.heap.size b c) (hB : B ≤ b.heap.size) : Below B a c := h.trans (k.mono hB)
theorem RdS.none' {α : Type} [Rep α] (W : World) : RdS (α := α) (· < W.heap.size) W [] none 0 0 := RdS.nil _ _
theorem abs_run {P : Program} {f : Nat} {vs : Array Value} {F : Ending → World → Prop} {W0 : World} (Q : World → Prop) (hQ : Q W0) (k : ∀ W, Q W → Calls P f vs W F) : Calls P f vs W0 F := k _ hQ

/-- a block of slices reads as the list of what they read as -/
theorem RdS.of_slices {α : Type} [Rep α] {W : World} {ls : List (List α)} {b t : Nat} {vs : List Value} (h : Blk b (.cells vs.toArray t (0, 0)) W) (hl : vs.length = ls.length) (hm : ls.length ≤ 1000000000)
    (hv : ∀ (i : Nat) (o : List α), ls[i]? = some o → ∃ (a : Option Addr) (n c : Nat), vs[i]? = some (Value.slice a n c) ∧ RdS (· < W.heap.size) W o a n c) : RdS (· < W.heap.size) W ls (some ⟨b, 0, none⟩) ls.length ls.length := by
  refine ⟨rfl, Nat.le_refl _, by unfold maxLen; omega, (fun h => by cases h), fun _ => ⟨b, 0, rfl, h.lt, h.lt, fun i o hi => ?_⟩⟩
  obtain ⟨a, n, c, hv1, hr⟩ := hv i o hi
  refine ⟨[.slice a n c], ⟨a, n, c, rfl, hr⟩, fun j u hu => ?_⟩
  have hj : j = 0 := by
    cases j with
    | zero => rfl
    | succ j => simp at hu
  subst hj
  simp at hu
  subst hu
  have e1 : 0 + i * Rep.n (List α) + 0 = i := by show 0 + i * 1 + 0 = i; omega
  rw [e1, h.cell i]
  simpa using hv1
theorem RdS.two {α : Type} [Rep α] {W : World} {o q : List α} {b t : Nat} {a1 a2 : Option Addr} {n1 c1 n2 c2 : Nat} (h : Blk b (.cells #[.slice a1 n1 c1, .slice a2 n2 c2] t (0, 0)) W) (h1 : RdS (· < W.heap.size) W o a1 n1 c1) (h2 : RdS (· < W.heap.size) W q a2 n2 c2) :
    RdS (· < W.heap.size) W [o, q] (some ⟨b, 0, none⟩) 2 2 := by
  refine RdS.of_slices (ls := [o, q]) (vs := [.slice a1 n1 c1, .slice a2 n2 c2]) h rfl (by simp) (fun i x hi => ?_)
  match i, hi with
  | 0, hi => simp at hi; subst hi; exact ⟨_, _, _, rfl, h1⟩
  | 1, hi => simp at hi; subst hi; exact ⟨_, _, _, rfl, h2⟩
  | i + 2, hi => simp at hi
end Go.Proofs.YtkbfhgcjimfgkaaDoor

set_option linter.unusedVariables false
set_option linter.unusedSimpArgs false
namespace Go.Proofs.YtkbfhgcjimfgkaaDoor
open Go.RowKit

section
variable {P : Program} {ops : Array Oper}

def dstOf (ops : Array Oper) (i : Nat) : Option Tmp := (ops[i]?).bind (·.dst)
/-- the state in which the operations of a list have left their values -/
def gets (ops : Array Oper) (x : Nat → Value) : Act → List Nat → Act
  | a, [] => a
  | a, j :: r => gets ops x (a.put (dstOf ops j) (x j)) r
theorem put_size (a : Act) (d : Option Tmp) (v : Value) : (a.put d v).tmps.size = a.tmps.size := by cases d <;> simp [Act.put]
theorem put_defers (a : Act) (d : Option Tmp) (v : Value) : (a.put d v).defers = a.defers := by cases d <;> rfl
theorem gets_size (x : Nat → Value) : ∀ (l : List Nat) (a : Act), (gets ops x a l).tmps.size = a.tmps.size
  | [], _ => rfl
  | j :: r, a => by rw [gets, gets_size x r, put_size]
theorem gets_defers (x : Nat → Value) : ∀ (l : List Nat) (a : Act), (gets ops x a l).defers = a.defers
  | [], _ => rfl
  | j :: r, a => by rw [gets, gets_defers x r, put_defers]
theorem gets_other (x : Nat → Value) (d : Tmp) : ∀ (l : List Nat) (a : Act), (∀ j ∈ l, dstOf ops j ≠ some d) → (gets ops x a l).tmps[d]? = a.tmps[d]?
  | [], _, _ => rfl
  | j :: r, a, h => by
    rw [gets, gets_other x d r _ (fun k hk => h k (List.mem_cons_of_mem _ hk))]
    have hj := h j (List.mem_cons_self ..)
    cases he : dstOf ops j with
    | none => rfl
    | some e =>
      have hne : e ≠ d := fun h' => hj (by rw [he, h'])
      simp [Act.put, Array.getElem?_setIfInBounds_ne hne]
theorem gets_at (x : Nat → Value) (d : Tmp) (i : Nat) (hi : dstOf ops i = some d) : ∀ (l : List Nat) (a : Act), i ∈ l → (∀ j ∈ l, dstOf ops j = some d → j = i) → (gets ops x a l).tmps[d]? = if d < a.tmps.size then some (x i) else none
  | [], _, h, _ => by cases h
  | j :: r, a, h, hu => by
    rw [gets]
    by_cases hr : i ∈ r
    · rw [gets_at x d i hi r _ hr (fun k hk => hu k (List.mem_cons_of_mem _ hk)), put_size]
    · have hji : j = i := by
        rcases List.mem_cons.1 h with h | h
        · exact h.symm
        · exact absurd h hr
      subst hji
      rw [gets_other x d r _ (fun k hk he => hr (hu k (List.mem_cons_of_mem _ hk) he ▸ hk)), hi]
      simp only [Act.put, Array.getElem?_setIfInBounds]
      by_cases hd : d < a.tmps.size <;> simp [hd]
theorem act_ext {a b : Act} (h1 : a.defers = b.defers) (h2 : a.tmps.size = b.tmps.size) (h3 : ∀ d : Nat, a.tmps[d]? = b.tmps[d]?) : a = b := by
  cases a; cases b
  simp only at h1 h2 h3
  subst h1
  congr
  apply Array.ext_getElem?
  exact h3

/-- j leaves its value only behind i, whose value it looks at: i does not look at what j leaves ('x, y = y, x') -/
def later (ops : Array Oper) (i j : Nat) : Bool := decide (i < j) && match dstOf ops i, ops[j]? with
  | some e, some o => (o.looksAt ops).contains e
  | _, _ => false
/-- the operations whose values an operation looks at -/
def looks (ops : Array Oper) (i : Nat) : List Nat :=
  match ops[i]? with
  | none => []
  | some o => (List.range ops.size).filter fun j => match dstOf ops j with
    | none => false
    | some d => (o.looksAt ops).contains d && !later ops i j
/-- .. and those that they look at -/
def ancT (ops : Array Oper) : List (List Nat) :=
  (List.range ops.size).foldl (fun T i => T ++ [(List.range ops.size).filter fun j => (looks ops i).any fun k => k == j || (T.getD k []).contains j]) []
def anc (ops : Array Oper) (i : Nat) : List Nat := (ancT ops).getD i []
/-- it comes behind all others -/
def lastOp (ops : Array Oper) (i : Nat) : Bool := (List.range ops.size).all fun j => j == i || (anc ops i).contains j
def regionOk (ops : Array Oper) : Bool :=
  let A := ancT ops
  ((List.range ops.size).all fun i => (List.range ops.size).all fun j => i == j || (match dstOf ops i, dstOf ops j with | some d, some e => d != e | _, _ => true)) &&
  ((List.range ops.size).all fun i => match ops[i]? with
    | none => true
    | some o => (looks ops i).all (fun j => o.after.any (fun e => Region.binds .any e && e.on == j)) &&
        (A.getD i []).all (fun j => (looks ops i).any fun k => k == j || (A.getD k []).contains j) && (looks ops i).all (fun j => (A.getD i []).contains j) && o.after.all (fun e => !Region.binds .any e || decide (e.on < i))) &&
  Region.noSelect ops

/-- behind a step -/
def StepPost (Inv : World → Prop) (V : Nat → Value → World → Prop) (Ext : World → World → Prop) (i : Nat) (aD : Act) (d : Option Tmp) (w : World) : Exit → Act → World → Prop :=
  fun ex a' w' => ex = .normal ∧ ∃ v, a' = aD.put d v ∧ Inv w' ∧ Ext w w' ∧ V i v w'

theorem step_done {Inv : World → Prop} {V : Nat → Value → World → Prop} {Ext : World → World → Prop} {i : Nat} {aD a' : Act} {d : Option Tmp} {w w' : World} {v : Value} (he : a' = aD.put d v) (h1 : Inv w') (h2 : Ext w w') (h3 : V i v w') : StepPost Inv V Ext i aD d w .normal a' w' := ⟨rfl, v, he, h1, h2, h3⟩

def selL (n : Nat) (listed : Array Bool) : List Nat := (List.range n).filter fun i => listed.getD i false

structure Facts (ops : Array Oper) : Prop where
  inj : ∀ i j d, i < ops.size → j < ops.size → dstOf ops i = some d → dstOf ops j = some d → i = j
  dep : ∀ (i : Nat) (o : Oper) (j : Nat), ops[i]? = some o → j ∈ looks ops i → (∃ e ∈ o.after, Region.binds .any e = true ∧ e.on = j) ∧ j ∈ anc ops i
  clo : ∀ (i : Nat) (o : Oper) (j : Nat), ops[i]? = some o → j ∈ anc ops i → j ∈ looks ops i ∨ ∃ k ∈ looks ops i, j ∈ anc ops k
  sel : Region.noSelect ops = true
  ord : ∀ (i : Nat) (o : Oper), ops[i]? = some o → ∀ e ∈ o.after, Region.binds .any e = true → e.on < i
theorem facts_of (h : regionOk ops = true) : Facts ops := by
  simp only [regionOk, Bool.and_eq_true, List.all_eq_true, List.mem_range] at h
  obtain ⟨⟨h1, h2⟩, h3⟩ := h
  refine ⟨fun i j d hi hj hdi hdj => ?_, fun i o j ho hj => ?_, fun i o j ho hj => ?_, h3, fun i o ho e he hbe => ?_⟩
  · have := h1 i hi j hj
    rw [hdi, hdj] at this
    simpa using this
  · have hi : i < ops.size := (Array.getElem?_eq_some_iff.1 ho).1
    have := h2 i hi
    rw [ho] at this
    simp only [Bool.and_eq_true, List.all_eq_true] at this
    obtain ⟨⟨⟨ha, _⟩, hc⟩, _⟩ := this
    have h4 := ha j hj
    rw [Array.any_eq_true] at h4
    obtain ⟨k, hk, h5⟩ := h4
    simp only [Bool.and_eq_true, beq_iff_eq] at h5
    exact ⟨⟨_, Array.getElem_mem hk, h5.1, h5.2⟩, by have := hc j hj; simpa [anc] using this⟩
  · have hi : i < ops.size := (Array.getElem?_eq_some_iff.1 ho).1
    have := h2 i hi
    rw [ho] at this
    simp only [Bool.and_eq_true, List.all_eq_true] at this
    obtain ⟨⟨⟨_, hb⟩, _⟩, _⟩ := this
    have h4 := hb j hj
    rw [List.any_eq_true] at h4
    obtain ⟨k, hk, h5⟩ := h4
    simp only [Bool.or_eq_true, beq_iff_eq] at h5
    rcases h5 with rfl | h5
    · exact .inl hk
    · exact .inr ⟨k, hk, by simpa [anc] using h5⟩
  · have hi : i < ops.size := (Array.getElem?_eq_some_iff.1 ho).1
    have := h2 i hi
    rw [ho] at this
    simp only [Bool.and_eq_true, Array.all_eq_true_iff_forall_mem, Bool.or_eq_true, decide_eq_true_eq] at this
    rcases this.2 e he with h | h
    · rw [hbe] at h; cases h
    · exact h
theorem mem_looks {i j : Nat} {o : Oper} {d : Tmp} (ho : ops[i]? = some o) (hj : j < ops.size) (hd : dstOf ops j = some d) (hl : d ∈ o.looksAt ops) (hn : later ops i j = false) : j ∈ looks ops i := by
  simp only [looks, ho, List.mem_filter, List.mem_range]
  exact ⟨hj, by rw [hd]; simp only [hn, Bool.not_false, Bool.and_true]; simpa using hl⟩
theorem dst_lt {j : Nat} {d : Tmp} (h : dstOf ops j = some d) : j < ops.size := by
  unfold dstOf at h
  cases ho : ops[j]? with
  | none => rw [ho] at h; cases h
  | some o => exact (Array.getElem?_eq_some_iff.1 ho).1
theorem later_looks {i j : Nat} (h : later ops i j = true) : i ∈ looks ops j ∧ ∃ o, ops[j]? = some o := by
  unfold later at h
  simp only [Bool.and_eq_true, decide_eq_true_eq] at h
  obtain ⟨hij, h⟩ := h
  cases hd : dstOf ops i with
  | none => rw [hd] at h; simp at h
  | some e =>
    cases ho : ops[j]? with
    | none => rw [hd, ho] at h; simp at h
    | some o =>
      rw [hd, ho] at h
      refine ⟨mem_looks ho (dst_lt hd) hd (by simpa using h) ?_, o, rfl⟩
      unfold later
      rw [decide_eq_false (by omega)]; rfl
/-- two states in which the same values lie as far as an operation looks -/
theorem same_looks (F : Facts ops) {i : Nat} {o : Oper} (ho : ops[i]? = some o) (x : Nat → Value) (a0 : Act) (L : List Nat) (hL : ∀ j ∈ anc ops i, j ∈ L) (hlt : ∀ j ∈ L, j < ops.size) (hA : ∀ j ∈ anc ops i, j < ops.size) (hno : ∀ j ∈ L, i ∉ anc ops j) :
    (∀ d ∈ o.looksAt ops, (gets ops x a0 L).tmps[d]? = (gets ops x a0 (anc ops i)).tmps[d]?) := by
  intro d hd
  by_cases hex : ∃ j, dstOf ops j = some d
  · obtain ⟨j, hj⟩ := hex
    cases hl : later ops i j with
    | false =>
      have hjl := mem_looks ho (dst_lt hj) hj hd hl
      have hja := (F.dep i o j ho hjl).2
      rw [gets_at x d j hj L a0 (hL j hja) (fun k hk he => F.inj k j d (hlt k hk) (dst_lt hj) he hj), gets_at x d j hj _ a0 hja (fun k hk he => F.inj k j d (hA k hk) (dst_lt hj) he hj)]
    | true =>
      obtain ⟨h1, oj, h2⟩ := later_looks hl
      have h3 := (F.dep j oj i h2 h1).2
      have hjL : j ∉ L := fun h => hno j h h3
      have hjA : j ∉ anc ops i := fun h => hjL (hL j h)
      rw [gets_other x d L a0 (fun k hk he => hjL (F.inj k j d (hlt k hk) (dst_lt hj) he hj ▸ hk)), gets_other x d _ a0 (fun k hk he => hjA (F.inj k j d (hA k hk) (dst_lt hj) he hj ▸ hk))]
  · have hno : ∀ j, dstOf ops j ≠ some d := fun j h => hex ⟨j, h⟩
    rw [gets_other x d L a0 (fun j _ => hno j), gets_other x d _ a0 (fun j _ => hno j)]
theorem eval_same {a b : Act} {o : Oper} (h : ∀ d ∈ o.looksAt ops, a.tmps[d]? = b.tmps[d]?) : ∀ u ∈ o.op.operands, a.eval u = b.eval u := by
  intro u hu
  cases u with
  | tmp t =>
    have : t ∈ o.looksAt ops := List.mem_append_left _ (List.mem_filterMap.2 ⟨.tmp t, by simpa using hu, rfl⟩)
    simp only [Act.eval, Array.getD_eq_getD_getElem?, h t this]
  | _ => rfl
theorem wanted_same {a b : Act} {o : Oper} (h : ∀ d ∈ o.looksAt ops, a.tmps[d]? = b.tmps[d]?) : Region.wanted o (yielded ops a.tmps) = Region.wanted o (yielded ops b.tmps) := by
  unfold Region.wanted
  cases hg : o.guard with
  | none => rfl
  | some gw =>
    obtain ⟨g, want⟩ := gw
    have hy : yielded ops a.tmps g = yielded ops b.tmps g := by
      unfold yielded
      cases ht : (ops[g]?).bind (·.dst) with
      | none => rfl
      | some t =>
        have hm : t ∈ o.looksAt ops := by simp [Oper.looksAt, hg, ht]
        simp only [Option.bind_some, h t hm]
    simp only [hy]
theorem put_same {a b : Act} {d : Option Tmp} {v u : Value} (hs : a.tmps.size = b.tmps.size) (h : b.put d v = b.put d u) : a.put d v = a.put d u := by
  cases d with
  | none => rfl
  | some t =>
    by_cases ht : t < b.tmps.size
    · have h1 := congrArg (fun c => c.tmps[t]?) h
      simp [Act.put, ht] at h1
      rw [h1]
    · simp only [Act.put]
      rw [Array.setIfInBounds_eq_of_size_le (by rw [hs]; exact Nat.not_lt.1 ht), Array.setIfInBounds_eq_of_size_le (by rw [hs]; exact Nat.not_lt.1 ht)]
/-- what an operation leaves in one state it leaves in another one -/
theorem wpOp_of_step {Q : Exit → Act → World → Prop} {i : Nat} {o : Oper} (ho : ops[i]? = some o) (hs : ∀ cs b, o.op ≠ .select cs b) {a aD : Act} {w : World} {R : Value → World → Prop} (hz : a.tmps.size = aD.tmps.size)
    (h : ∀ d ∈ o.looksAt ops, a.tmps[d]? = aD.tmps[d]?) (hstep : wpList P ops (fun ex a' w' => ex = .normal ∧ ∃ v, a' = aD.put o.dst v ∧ R v w') [o] aD w) {K : Act → World → Prop}
    (hK : ∀ v w', R v w' → K (a.put o.dst v) w') : wpOp P ops Q i K a w := by
  have hK2 : ∀ v w', (∃ u, aD.put o.dst v = aD.put o.dst u ∧ R u w') → K (a.put o.dst v) w' := by
    rintro v w' ⟨u, he, hr⟩
    rw [put_same hz he]
    exact hK u w' hr
  unfold Go.wpOp
  simp only [ho]
  unfold wpList at hstep
  rw [wanted_same h]
  by_cases hw : Region.wanted o (yielded ops aD.tmps) = true
  · simp only [hw, if_true] at hstep ⊢
    rcases hstep with hstep | ⟨_, a', w', hl⟩
    · refine .inl ?_
      unfold Oper.wp at hstep ⊢
      rw [execOp_congr o hs (eval_same h)]
      generalize (execOp aD.eval o).run P w = r at *
      cases r with
      | ok n w' =>
        cases n <;> simp only [Oper.upon, wpList] at hstep ⊢
        case value v => exact hK2 v w' hstep.2
        case skip => exact hK2 undef w' hstep.2
        case defer d =>
          obtain ⟨_, v, he, _⟩ := hstep
          have h1 := congrArg Act.defers he
          rw [put_defers, put_defers] at h1
          exact absurd h1 (by simp)
        case enter f args =>
          refine Calls.mono hstep fun e w'' he => ?_
          cases e with
          | returned v => exact hK2 v w'' he.2
          | panicked c => exact absurd he.1 (by simp)
          | outgrown => obtain ⟨a', w', he, _⟩ := he; exact absurd he (by simp)
        case row row args => exact Rows.mono hstep fun v w'' he => hK2 v w'' he.2
      | halt x w' =>
        cases x <;> simp only [Oper.upon] at hstep ⊢
        case panic u => exact absurd hstep.1 (by simp)
    · exact absurd hl.1 (by simp)
  · simp only [hw] at hstep ⊢
    exact hK2 undef w hstep.2

theorem listed_set {listed : Array Bool} {i j : Nat} (hi : i < listed.size) : (listed.setIfInBounds i true).getD j false = (decide (j = i) || listed.getD j false) := by
  by_cases h : j = i
  · subst h; simp [Array.getD_eq_getD_getElem?, hi]
  · have h' : i ≠ j := fun e => h e.symm
    simp [Array.getD_eq_getD_getElem?, Array.getElem?_setIfInBounds_ne h', h]
theorem mem_sel {n i : Nat} {listed : Array Bool} : i ∈ selL n listed ↔ i < n ∧ listed.getD i false = true := by simp [selL]

/-- the state of a region under way -/
def Under (ops : Array Oper) (a0 : Act) (Inv : World → Prop) (V : Nat → Value → World → Prop) (listed : Array Bool) (a : Act) (w : World) : Prop :=
  ∃ x, a = gets ops x a0 (selL ops.size listed) ∧ (∀ i, listed.getD i false = true → V i (x i) w) ∧ Inv w ∧ listed.size = ops.size ∧ (∀ i, listed.getD i false = true → ∀ j ∈ anc ops i, listed.getD j false = true)

theorem count_split (p q : Nat → Bool) : ∀ l : List Nat, l.countP p = l.countP (fun j => p j && q j) + l.countP (fun j => p j && !q j)
  | [] => rfl
  | j :: l => by
    simp only [List.countP_cons, count_split p q l]
    cases p j <;> cases q j <;> simp <;> omega
theorem anc_lt (F : Facts ops) : ∀ (i : Nat), ∀ j ∈ anc ops i, j < ops.size := by
  intro i
  induction i using Nat.strongRecOn with
  | _ i ih =>
    intro j hj
    cases ho : ops[i]? with
    | none =>
      have hl : looks ops i = [] := by simp [looks, ho]
      have hge : ops.size ≤ i := by
        rcases Nat.lt_or_ge i ops.size with h | h
        · rw [Array.getElem?_eq_getElem h] at ho; cases ho
        · exact h
      have hlen : ∀ (n : Nat) (f : List (List Nat) → Nat → List Nat), ((List.range n).foldl (fun T i => T ++ [f T i]) []).length = n := by
        intro n f
        induction n with
        | zero => rfl
        | succ n ihn => rw [List.range_succ, List.foldl_append]; simp [ihn]
      have hz : (ancT ops).length = ops.size := hlen _ _
      have : anc ops i = [] := by simp [anc, List.getD, hz, hge]
      rw [this] at hj; cases hj
    | some o =>
      rcases F.clo i o j ho hj with h | ⟨k, hk, h⟩
      · simp only [looks, ho, List.mem_filter, List.mem_range] at h; exact h.1
      · obtain ⟨⟨e, he, hbe, rfl⟩, _⟩ := F.dep i o k ho hk
        exact ih e.on (F.ord i o ho e he hbe) j h
theorem dst_of {i : Nat} {o : Oper} (ho : ops[i]? = some o) : dstOf ops i = o.dst := by simp [dstOf, ho]
/-- **A region that draws its order**: each operation once, behind those that it looks at. -/
theorem region_rule {id : Nat} {Q : Exit → Act → World → Prop} {a0 : Act} {w0 : World} (hm : P.follows .mixedOrders = true) (hok : regionOk ops = true) (Inv : World → Prop) (V : Nat → Value → World → Prop) (Ext : World → World → Prop)
    (hmono : ∀ i, i < ops.size → lastOp ops i = false → ∀ v w w', Ext w w' → V i v w → V i v w') (h0 : Inv { w0 with drawn := w0.drawn + 1 })
    (hstep : ∀ (i : Nat) (o : Oper), ops[i]? = some o → ∀ x w, Inv w → (∀ j ∈ anc ops i, V j (x j) w) → wpList P ops (StepPost Inv V Ext i (gets ops x a0 (anc ops i)) o.dst w) [o] (gets ops x a0 (anc ops i)) w)
    (hend : ∀ x w, Inv w → (∀ i, i < ops.size → V i (x i) w) → Q .normal (gets ops x a0 (List.range ops.size)) w) : (Code.region id ops true).wp P Q a0 w0 := by
  have F := facts_of hok
  refine wp_region_any hm ?_
  have key : ∀ (fuel : Nat) (listed : Array Bool) (a : Act) (w : World), (List.range ops.size).countP (fun i => !listed.getD i false) ≤ fuel → Under ops a0 Inv V listed a w → wpAny P .any ops Q fuel listed a w := by
    intro fuel
    have hdone : ∀ (listed : Array Bool) (a : Act) (w : World), Under ops a0 Inv V listed a w → (∀ i, i < ops.size → listed.getD i false = true) → Q .normal a w := by
      rintro listed a w ⟨x, rfl, hv, hi, hsz, _⟩ hall
      have he : selL ops.size listed = List.range ops.size := by
        unfold selL
        rw [List.filter_eq_self]
        intro i hi
        exact hall i (List.mem_range.1 hi)
      rw [he]
      exact hend x w hi (fun i hi => hv i (hall i hi))
    have hall : ∀ (listed : Array Bool), listed.size = ops.size → Region.ready .any ops listed = [] → ∀ i, i < ops.size → listed.getD i false = true := by
      intro listed hsz hr i
      induction i using Nat.strongRecOn with
      | _ i ih =>
        intro hi
        cases hc : listed.getD i false with
        | true => rfl
        | false =>
          have hmem : i ∈ Region.ready .any ops listed := by
            rw [mem_ready]
            refine ⟨?_, ops[i], Array.getElem?_eq_getElem hi, fun e he hbe => ?_⟩
            · simp [Array.getD_eq_getD_getElem?, hsz ▸ hi] at hc ⊢; exact hc
            · have hlt := F.ord i ops[i] (Array.getElem?_eq_getElem hi) e he hbe
              exact ih e.on hlt (by omega)
          rw [hr] at hmem; cases hmem
    induction fuel with
    | zero =>
      intro listed a w hc hU
      have hU2 := hU
      obtain ⟨_, _, _, _, hsz, _⟩ := hU2
      have hl : ∀ i, i < ops.size → listed.getD i false = true := by
        intro i hi
        have h1 : (List.range ops.size).countP (fun i => !listed.getD i false) = 0 := by omega
        rw [List.countP_eq_zero] at h1
        have := h1 i (List.mem_range.2 hi)
        simpa using this
      refine ⟨?_, hdone listed a w hU hl⟩
      rw [List.eq_nil_iff_forall_not_mem]
      intro i hi
      rw [mem_ready] at hi
      obtain ⟨h1, o, ho, _⟩ := hi
      have hlt : i < ops.size := (Array.getElem?_eq_some_iff.1 ho).1
      have h2 := hl i hlt
      simp [Array.getD_eq_getD_getElem?, hsz ▸ hlt] at h1 h2
      rw [h1] at h2; cases h2
    | succ fuel ih =>
      intro listed a w hc hU
      have hU2 := hU
      obtain ⟨_, _, _, _, hsz, _⟩ := hU2
      refine ⟨fun hr => hdone listed a w hU (hall listed hsz hr), fun i hi => ?_⟩
      obtain ⟨x, rfl, hv, hinv, _, hdc⟩ := hU
      rw [mem_ready] at hi
      obtain ⟨h1, o, ho, hdeps⟩ := hi
      have hlt : i < ops.size := (Array.getElem?_eq_some_iff.1 ho).1
      have hil : i < listed.size := by omega
      have hnl : listed.getD i false = false := by simp [Array.getD_eq_getD_getElem?, hil] at h1 ⊢; exact h1
      have hanc : ∀ j ∈ anc ops i, listed.getD j false = true := by
        intro j hj
        rcases F.clo i o j ho hj with h | ⟨k, hk, h⟩
        · obtain ⟨⟨e, he, hb, rfl⟩, _⟩ := F.dep i o j ho h
          exact hdeps e he hb
        · obtain ⟨⟨e, he, hb, rfl⟩, _⟩ := F.dep i o k ho hk
          exact hdc e.on (hdeps e he hb) j h
      have hsel := Region.noSelect_spec F.sel
      refine wpOp_of_step (R := fun v w' => Inv w' ∧ Ext w w' ∧ V i v w') ho (fun cs b => hsel i o cs b ho) (by rw [gets_size, gets_size]) (same_looks F ho x a0 _ (fun j hj => mem_sel.2 ⟨anc_lt F i j hj, hanc j hj⟩) (fun j hj => (mem_sel.1 hj).1) (anc_lt F i) (fun j hj hi => by have h5 := hdc j (mem_sel.1 hj).2 i hi; rw [hnl] at h5; cases h5)) (hstep i o ho x w hinv (fun j hj => hv j (hanc j hj))) ?_
      rintro v w' ⟨hinv', hext, hvi⟩
      have hget : ∀ j, (listed.setIfInBounds i true).getD j false = (decide (j = i) || listed.getD j false) := fun j => listed_set hil
      refine ih _ _ w' ?_ ⟨fun j => if j = i then v else x j, ?_, ?_, hinv', by simpa using hsz, ?_⟩
      · have h2 := count_split (fun j => !listed.getD j false) (fun j => decide (j ≠ i)) (List.range ops.size)
        have h3 : 0 < (List.range ops.size).countP (fun j => (!listed.getD j false) && !decide (j ≠ i)) := by
          rw [List.countP_pos_iff]
          exact ⟨i, List.mem_range.2 hlt, by simp [hnl]⟩
        have h4 : (List.range ops.size).countP (fun j => !(listed.setIfInBounds i true).getD j false) = (List.range ops.size).countP (fun j => (!listed.getD j false) && decide (j ≠ i)) := by
          congr 1
          funext j
          rw [hget]
          by_cases hji : j = i <;> simp [hji]
        omega
      · have hdst := dst_of ho
        refine act_ext (by rw [put_defers, gets_defers, gets_defers]) (by rw [put_size, gets_size, gets_size]) (fun d => ?_)
        by_cases hd : o.dst = some d
        · rw [gets_at _ d i (hdst.trans hd) _ a0 (mem_sel.2 ⟨hlt, by rw [hget]; simp⟩) (fun k hk he => F.inj k i d (mem_sel.1 hk).1 hlt he (hdst.trans hd)), hd]
          simp only [Act.put, Array.getElem?_setIfInBounds, if_true, gets_size]
        · have hput : (Act.put (gets ops x a0 (selL ops.size listed)) o.dst v).tmps[d]? = (gets ops x a0 (selL ops.size listed)).tmps[d]? := by
            cases he : o.dst with
            | none => rfl
            | some t =>
              have hne : t ≠ d := fun h' => hd (by rw [he, h'])
              simp [Act.put, Array.getElem?_setIfInBounds_ne hne]
          rw [hput]
          by_cases hex : ∃ j, j ∈ selL ops.size listed ∧ dstOf ops j = some d
          · obtain ⟨j, hj, hjd⟩ := hex
            have hji : j ≠ i := fun e => hd (by rw [← hdst, ← e]; exact hjd)
            rw [gets_at x d j hjd _ a0 hj (fun k hk he => F.inj k j d (mem_sel.1 hk).1 (mem_sel.1 hj).1 he hjd), gets_at _ d j hjd _ a0 (mem_sel.2 ⟨(mem_sel.1 hj).1, by rw [hget, (mem_sel.1 hj).2]; simp⟩) (fun k hk he => F.inj k j d (mem_sel.1 hk).1 (mem_sel.1 hj).1 he hjd)]
            simp only [hji, if_false]
          · rw [gets_other x d _ a0 (fun j hj he => hex ⟨j, hj, he⟩), gets_other _ d _ a0 (fun j hj he => ?_)]
            have hj2 := (mem_sel.1 hj).2
            rw [hget] at hj2
            by_cases hji : j = i
            · subst hji; exact hd (by rw [← hdst]; exact he)
            · simp [hji] at hj2
              exact hex ⟨j, mem_sel.2 ⟨(mem_sel.1 hj).1, by simpa using hj2⟩, he⟩
      · intro j hj
        rw [hget] at hj
        by_cases hji : j = i
        · subst hji; simpa using hvi
        · simp only [hji, decide_false, Bool.false_or] at hj
          simp only [hji, if_false]
          refine hmono j ?_ ?_ _ w w' hext (hv j hj)
          · rcases Nat.lt_or_ge j ops.size with h | h
            · exact h
            · simp [Array.getD_eq_getD_getElem?, Array.getElem?_eq_none (show listed.size ≤ j by omega)] at hj
          cases hlo : lastOp ops j with
          | false => rfl
          | true =>
            simp only [lastOp, List.all_eq_true, List.mem_range] at hlo
            have := hlo i hlt
            have hij : (i == j) = false := by simpa using fun e => hji e.symm
            rw [hij, Bool.false_or, List.contains_iff_mem] at this
            have h5 := hdc j hj i this
            rw [hnl] at h5; cases h5
      · intro j hj k hk
        rw [hget] at hj ⊢
        by_cases hji : j = i
        · subst hji; rw [hanc k hk]; simp
        · simp only [hji, decide_false, Bool.false_or] at hj
          rw [hdc j hj k hk]; simp
  refine key _ _ _ _ ?_ ⟨fun _ => undef, ?_, ?_, h0, by simp, ?_⟩
  · exact Nat.le_trans (List.countP_le_length) (by simp)
  · have : selL ops.size (Array.replicate ops.size false) = [] := by
      unfold selL
      rw [List.filter_eq_nil_iff]
      intro i hi
      simp [Array.getD_eq_getD_getElem?, Array.getElem?_replicate]
      split <;> simp
    rw [this]; rfl
  · intro i hi; simp [Array.getD_eq_getD_getElem?, Array.getElem?_replicate] at hi; split at hi <;> simp at hi
  · intro i hi; simp [Array.getD_eq_getD_getElem?, Array.getElem?_replicate] at hi; split at hi <;> simp at hi

/-! ### with the slots and the operations ahead written out -/
def getsD (D : List (Option Tmp)) (x : Nat → Value) : Act → List Nat → Act
  | a, [] => a
  | a, j :: r => getsD D x (a.put (D.getD j none) (x j)) r
theorem getsD_eq (x : Nat → Value) {D : List (Option Tmp)} (hD : (List.range ops.size).map (dstOf ops) = D) : ∀ (l : List Nat) (a : Act), (∀ j ∈ l, j < ops.size) → getsD D x a l = gets ops x a l
  | [], _, _ => rfl
  | j :: r, a, h => by
    have hj := h j (List.mem_cons_self ..)
    have : D.getD j none = dstOf ops j := by rw [← hD]; simp [List.getD, hj]
    rw [getsD, gets, this, getsD_eq x hD r _ (fun k hk => h k (List.mem_cons_of_mem _ hk))]
def AllV (V : Nat → Value → World → Prop) (x : Nat → Value) (w : World) : List Nat → Prop
  | [] => True
  | j :: r => V j (x j) w ∧ AllV V x w r
theorem allV_of {V : Nat → Value → World → Prop} {x : Nat → Value} {w : World} : ∀ {l : List Nat}, (∀ j ∈ l, V j (x j) w) → AllV V x w l
  | [], _ => trivial
  | j :: _, h => ⟨h j (List.mem_cons_self ..), allV_of fun k hk => h k (List.mem_cons_of_mem _ hk)⟩
def Steps (P : Program) (ops : Array Oper) (Inv : World → Prop) (V : Nat → Value → World → Prop) (Ext : World → World → Prop) (D : List (Option Tmp)) (a0 : Act) : Nat → List (List Nat) → List Oper → Prop
  | k, L :: A, o :: l => (∀ x w, Inv w → AllV V x w L → wpList P ops (StepPost Inv V Ext k (getsD D x a0 L) o.dst w) [o] (getsD D x a0 L) w) ∧ Steps P ops Inv V Ext D a0 (k + 1) A l
  | _, _, _ => True
theorem steps_at {Inv : World → Prop} {V : Nat → Value → World → Prop} {Ext : World → World → Prop} {D : List (Option Tmp)} {a0 : Act} : ∀ {l : List Oper} {A : List (List Nat)} {k : Nat}, Steps P ops Inv V Ext D a0 k A l → ∀ (i : Nat) (o : Oper) (L : List Nat), l[i]? = some o → A[i]? = some L →
    ∀ x w, Inv w → AllV V x w L → wpList P ops (StepPost Inv V Ext (k + i) (getsD D x a0 L) o.dst w) [o] (getsD D x a0 L) w
  | [], _, _, _, i, o, L, h, _ => by simp at h
  | _ :: _, [], _, _, i, o, L, _, h => by simp at h
  | o' :: l, L' :: A, k, hs, 0, o, L, h1, h2 => by
    simp at h1 h2
    subst h1 h2
    exact hs.1
  | o' :: l, L' :: A, k, hs, i + 1, o, L, h1, h2 => by
    simp at h1 h2
    have := steps_at hs.2 i o L h1 h2
    rw [show k + (i + 1) = k + 1 + i from by omega]
    exact this
/-- **A region that draws its order**, written out: one goal an operation, and the end. -/
theorem region_lit {l : List Oper} {id : Nat} {Q : Exit → Act → World → Prop} {a0 : Act} {w0 : World} (hm : P.follows .mixedOrders = true) (hok : regionOk l.toArray = true) (A : List (List Nat)) (hA : ancT l.toArray = A) (D : List (Option Tmp)) (hD : (List.range l.toArray.size).map (dstOf l.toArray) = D)
    (last : List Bool) (hlast : (List.range l.toArray.size).map (lastOp l.toArray) = last)
    (Inv : World → Prop) (V : Nat → Value → World → Prop) (Ext : World → World → Prop)
    (hmono : ∀ i, last.getD i true = false → ∀ v w w', Ext w w' → V i v w → V i v w') (h0 : Inv w0.drew) (hstep : Steps P l.toArray Inv V Ext D a0 0 A l)
    (hend : ∀ x w, Inv w → AllV V x w (List.range l.length) → Q .normal (getsD D x a0 (List.range l.length)) w) : (Code.region id l.toArray true).wp P Q a0 w0 := by
  have F := facts_of hok
  have hz : l.toArray.size = l.length := by simp
  refine region_rule hm hok Inv V Ext (fun i hlt hi => ?_) h0 (fun i o ho x w hI hV => ?_) (fun x w hI hV => ?_)
  · refine hmono i ?_
    rw [← hlast]
    simp only [List.getD, List.getElem?_map, List.getElem?_range hlt, Option.map_some, Option.getD_some]
    exact hi
  · have hil : i < l.toArray.size := (Array.getElem?_eq_some_iff.1 ho).1
    have hAl : A[i]? = some (anc l.toArray i) := by
      have hlen : ∀ (n : Nat) (f : List (List Nat) → Nat → List Nat), ((List.range n).foldl (fun T i => T ++ [f T i]) []).length = n := by
        intro n f
        induction n with
        | zero => rfl
        | succ n ihn => rw [List.range_succ, List.foldl_append]; simp [ihn]
      have h1 : A.length = l.toArray.size := by rw [← hA]; exact hlen _ _
      rw [List.getElem?_eq_getElem (by omega)]
      simp only [anc, hA, List.getD, List.getElem?_eq_getElem (show i < A.length by omega), Option.getD_some]
    have h2 := steps_at hstep i o (anc l.toArray i) (by simpa using ho) hAl x w hI (allV_of hV)
    rw [Nat.zero_add, getsD_eq x hD _ _ (anc_lt F i)] at h2
    exact h2
  · have h2 := hend x w hI (allV_of fun j hj => hV j (by simpa using hj))
    rw [getsD_eq x hD _ _ (fun j hj => by simpa using hj)] at h2
    rw [hz]
    exact h2
end
end Go.Proofs.YtkbfhgcjimfgkaaDoor

set_option linter.unusedVariables false
set_option linter.unusedSimpArgs false
namespace Go.Proofs.YtkbfhgcjimfgkaaDoor
open Go.RowKit

/-- a frame's slots: so many that nobody looks at, one, and others -/
def fEm (k : Nat) : List Value := List.replicate k undef
def fZm (k : Nat) (v : Value) (l : List Value) : List Value := List.replicate k undef ++ v :: l
/-- letters for what the walk's simp shall not open -/
theorem toI {I J : (Nat → Bool) → (Nat → Value) → World → Prop} (h : Hid (I = J)) {L : Nat → Bool} {y : Nat → Value} {W : World} (x : J L y W) : I L y W := by rw [h.out]; exact x
theorem ofI {I J : (Nat → Bool) → (Nat → Value) → World → Prop} (h : Hid (I = J)) {L : Nat → Bool} {y : Nat → Value} {W : World} (x : I L y W) : J L y W := by rw [← h.out]; exact x
theorem toV {V U : Nat → Value → World → Prop} (h : Hid (V = U)) {i : Nat} {v : Value} {W : World} (x : U i v W) : V i v W := by rw [h.out]; exact x
theorem ofV {V U : Nat → Value → World → Prop} (h : Hid (V = U)) {i : Nat} {v : Value} {W : World} (x : V i v W) : U i v W := by rw [← h.out]; exact x

/-- one more is done; one more value is there -/
def setB (L : Nat → Bool) (k : Nat) : Nat → Bool := fun j => if j = k then true else L j
def setV (x : Nat → Value) (k : Nat) (v : Value) : Nat → Value := fun j => if j = k then v else x j
theorem step3_done {I : (Nat → Bool) → (Nat → Value) → World → Prop} {V : Nat → Value → World → Prop} {Ext : World → World → Prop} {i k : Nat} {aD a' : Act} {d : Option Tmp} {w w' : World} {v : Value} {L : Nat → Bool} {x : Nat → Value} (he : a' = aD.put d v)
    (h1 : I (setB L k) (setV x k v) w') (h2 : Ext w w') (h3 : V i v w') :
    StepPost (fun _ => True) (fun i v w' => I (setB L k) (setV x k v) w' ∧ V i v w') Ext i aD d w .normal a' w' := ⟨rfl, v, he, trivial, h2, h1, h3⟩

section
variable {P : Program} {ops : Array Oper}

/-- a frame that shows an operation what it looks at serves as well -/
theorem step_same {Inv : World → Prop} {V : Nat → Value → World → Prop} {Ext : World → World → Prop} {i : Nat} {o : Oper} (hs : ∀ cs b, o.op ≠ .select cs b) {a F : Act} {w : World} (hz : ∀ d, o.dst = some d → d < F.tmps.size)
    (h : ∀ d ∈ o.looksAt ops, a.tmps[d]? = F.tmps[d]?) (hstep : wpList P ops (StepPost Inv V Ext i F o.dst w) [o] F w) : wpList P ops (StepPost Inv V Ext i a o.dst w) [o] a w := by
  have key : ∀ v w', (∃ u, F.put o.dst v = F.put o.dst u ∧ Inv w' ∧ Ext w w' ∧ V i u w') → StepPost Inv V Ext i a o.dst w .normal (a.put o.dst v) w' := by
    rintro v w' ⟨u, he, h1, h2, h3⟩
    refine ⟨rfl, u, ?_, h1, h2, h3⟩
    cases hd : o.dst with
    | none => rfl
    | some d =>
      rw [hd] at he
      have hlt := hz d hd
      have h4 := congrArg (fun c => c.tmps[d]?) he
      simp [Act.put, hlt] at h4
      rw [h4]
  unfold wpList at hstep ⊢
  rw [wanted_same h]
  by_cases hw : Region.wanted o (yielded ops F.tmps) = true
  · simp only [hw, if_true] at hstep ⊢
    rcases hstep with hstep | ⟨_, a', w', hl⟩
    · refine .inl ?_
      unfold Oper.wp at hstep ⊢
      rw [execOp_congr o hs (eval_same h)]
      generalize (execOp F.eval o).run P w = r at *
      cases r with
      | ok n w' =>
        cases n <;> simp only [Oper.upon, wpList] at hstep ⊢
        case value v => obtain ⟨_, u, h1, h2⟩ := hstep; exact key v w' ⟨u, h1, h2⟩
        case skip => obtain ⟨_, u, h1, h2⟩ := hstep; exact key undef w' ⟨u, h1, h2⟩
        case defer d =>
          obtain ⟨_, v, he, _⟩ := hstep
          have h1 := congrArg Act.defers he
          rw [put_defers, put_defers] at h1
          exact absurd h1 (by simp)
        case enter f args =>
          refine Calls.mono hstep fun e w'' he => ?_
          cases e with
          | returned v => obtain ⟨_, u, h1, h2⟩ := he; exact key v w'' ⟨u, h1, h2⟩
          | panicked c => exact absurd he.1 (by simp)
          | outgrown => obtain ⟨a', w', he, _⟩ := he; exact absurd he (by simp)
        case row row args => exact Rows.mono hstep fun v w'' he => by obtain ⟨_, u, h1, h2⟩ := he; exact key v w'' ⟨u, h1, h2⟩
      | halt x w' =>
        cases x <;> simp only [Oper.upon] at hstep ⊢
        case panic u => exact absurd hstep.1 (by simp)
    · exact absurd hl.1 (by simp)
  · simp only [hw] at hstep ⊢
    simp only [wpList] at hstep ⊢
    obtain ⟨_, u, h1, h2⟩ := hstep
    exact key undef w ⟨u, h1, h2⟩

/-- each frame shows its operation what it looks at -/
def FramesOk (ops : Array Oper) (D : List (Option Tmp)) (a0 : Act) : List (List Nat) → List ((Nat → Value) → Act) → List Oper → Prop
  | L :: A, F :: Fs, o :: l => (∀ x : Nat → Value, (o.looksAt ops).map (fun d => (getsD D x a0 L).tmps[d]?) = (o.looksAt ops).map (fun d => (F x).tmps[d]?) ∧ (match o.dst with | some d => decide (d < (F x).tmps.size) | none => true) = true) ∧ FramesOk ops D a0 A Fs l
  | _, _, [] => True
  | _, _, _ => False
def Steps2 (P : Program) (ops : Array Oper) (Inv : World → Prop) (V : Nat → Value → World → Prop) (Ext : World → World → Prop) : Nat → List (List Nat) → List ((Nat → Value) → Act) → List Oper → Prop
  | k, L :: A, F :: Fs, o :: l => (∀ x w, Inv w → AllV V x w L → wpList P ops (StepPost Inv V Ext k (F x) o.dst w) [o] (F x) w) ∧ Steps2 P ops Inv V Ext (k + 1) A Fs l
  | _, _, _, _ => True
def noSel (o : Oper) : Bool := match o.op with | .select _ _ => false | _ => true
theorem noSel_ne {o : Oper} (h : noSel o = true) : ∀ cs b, o.op ≠ .select cs b := by
  intro cs b he
  unfold noSel at h
  rw [he] at h; cases h
theorem steps_of {Inv : World → Prop} {V : Nat → Value → World → Prop} {Ext : World → World → Prop} {D : List (Option Tmp)} {a0 : Act} : ∀ {l : List Oper} {A : List (List Nat)} {Fs : List ((Nat → Value) → Act)} {k : Nat}, l.all noSel = true → FramesOk ops D a0 A Fs l → Steps2 P ops Inv V Ext k A Fs l → Steps P ops Inv V Ext D a0 k A l
  | [], A, Fs, k, _, _, _ => by cases A <;> trivial
  | o :: l, [], Fs, k, _, h, _ => by cases Fs <;> trivial
  | o :: l, L :: A, [], k, _, h, _ => by cases h
  | o :: l, L :: A, F :: Fs, k, hn, hf, hs => by
    simp only [List.all_cons, Bool.and_eq_true] at hn
    refine ⟨fun x w hI hV => ?_, steps_of hn.2 hf.2 hs.2⟩
    obtain ⟨h1, h2⟩ := hf.1 x
    refine step_same (noSel_ne hn.1) (F := F x) (fun d hd => ?_) (fun d hd => ?_) (hs.1 x w hI hV)
    · rw [hd] at h2
      exact of_decide_eq_true h2
    · exact List.map_inj_left.1 h1 d hd

/-- **A region that draws its order**, written out, at small frames: one goal an operation, and the end. -/
theorem region_lit2 {l : List Oper} {id : Nat} {Q : Exit → Act → World → Prop} {a0 : Act} {w0 : World} (hm : P.follows .mixedOrders = true) (hok : regionOk l.toArray = true) (hsel : l.all noSel = true) (A : List (List Nat)) (hA : ancT l.toArray = A) (D : List (Option Tmp)) (hD : (List.range l.toArray.size).map (dstOf l.toArray) = D)
    (last : List Bool) (hlast : (List.range l.toArray.size).map (lastOp l.toArray) = last)
    (Inv : World → Prop) (V : Nat → Value → World → Prop) (Ext : World → World → Prop) (Fs : List ((Nat → Value) → Act)) (hF : FramesOk l.toArray D a0 A Fs l)
    (hmono : ∀ i, last.getD i true = false → ∀ v w w', Ext w w' → V i v w → V i v w') (h0 : Inv w0.drew) (hstep : Steps2 P l.toArray Inv V Ext 0 A Fs l)
    (hend : ∀ x w, Inv w → AllV V x w (List.range l.length) → Q .normal (getsD D x a0 (List.range l.length)) w) : (Code.region id l.toArray true).wp P Q a0 w0 :=
  region_lit hm hok A hA D hD last hlast Inv V Ext hmono h0 (steps_of hsel hF hstep) hend
end
end Go.Proofs.YtkbfhgcjimfgkaaDoor

set_option linter.unusedVariables false
set_option linter.unusedSimpArgs false
namespace Go.Proofs.YtkbfhgcjimfgkaaDoor
open Go.RowKit

section
variable {P : Program} {ops : Array Oper}
/-- as Under, but what is killed need not stand -/
def Under3 (ops : Array Oper) (K : Nat → List Nat) (a0 : Act) (Inv : (Nat → Bool) → (Nat → Value) → World → Prop) (V : Nat → Value → World → Prop) (listed : Array Bool) (a : Act) (w : World) : Prop :=
  ∃ x, a = gets ops x a0 (selL ops.size listed) ∧ (∀ i, listed.getD i false = true → (∀ j ∈ K i, listed.getD j false = false) → V i (x i) w) ∧ Inv (fun j => listed.getD j false) x w ∧ listed.size = ops.size ∧ (∀ i, listed.getD i false = true → ∀ j ∈ anc ops i, listed.getD j false = true)
theorem region_rule3 {id : Nat} {Q : Exit → Act → World → Prop} {a0 : Act} {w0 : World} (hm : P.follows .mixedOrders = true) (hok : regionOk ops = true) (Inv : (Nat → Bool) → (Nat → Value) → World → Prop) (V : Nat → Value → World → Prop) (Ext : Nat → World → World → Prop) (K N : Nat → List Nat) (hN : ∀ i, ∀ j ∈ N i, j ∈ anc ops i ∧ ∀ k ∈ K j, k = i ∨ i ∈ anc ops k)
    (hmono : ∀ i j, i < ops.size → j < ops.size → j ≠ i → j ∉ anc ops i → j ∉ K i → ∀ v w w', Ext j w w' → V i v w → V i v w') (h0 : ∀ x, Inv (fun _ => false) x { w0 with drawn := w0.drawn + 1 })
    (hstep : ∀ (i : Nat) (o : Oper), ops[i]? = some o → ∀ x w (L : Nat → Bool), Inv L x w → (∀ j ∈ anc ops i, L j = true) → (∀ j, j = i ∨ i ∈ anc ops j → L j = false) → (∀ j ∈ N i, V j (x j) w) → wpList P ops (StepPost (fun _ => True) (fun i v w' => Inv (setB L i) (setV x i v) w' ∧ V i v w') (Ext i) i (gets ops x a0 (anc ops i)) o.dst w) [o] (gets ops x a0 (anc ops i)) w)
    (hend : ∀ x w (L : Nat → Bool), (∀ i, i < ops.size → L i = true) → Inv L x w → (∀ i, i < ops.size → K i = [] → V i (x i) w) → Q .normal (gets ops x a0 (List.range ops.size)) w) : (Code.region id ops true).wp P Q a0 w0 := by
  have F := facts_of hok
  refine wp_region_any hm ?_
  have key : ∀ (fuel : Nat) (listed : Array Bool) (a : Act) (w : World), (List.range ops.size).countP (fun i => !listed.getD i false) ≤ fuel → Under3 ops K a0 Inv V listed a w → wpAny P .any ops Q fuel listed a w := by
    intro fuel
    have hdone : ∀ (listed : Array Bool) (a : Act) (w : World), Under3 ops K a0 Inv V listed a w → (∀ i, i < ops.size → listed.getD i false = true) → Q .normal a w := by
      rintro listed a w ⟨x, rfl, hv, hi, hsz, _⟩ hall
      have he : selL ops.size listed = List.range ops.size := by
        unfold selL
        rw [List.filter_eq_self]
        intro i hi
        exact hall i (List.mem_range.1 hi)
      rw [he]
      exact hend x w _ hall hi (fun i hi hk => hv i (hall i hi) (fun j hj => by rw [hk] at hj; cases hj))
    have hall : ∀ (listed : Array Bool), listed.size = ops.size → Region.ready .any ops listed = [] → ∀ i, i < ops.size → listed.getD i false = true := by
      intro listed hsz hr i
      induction i using Nat.strongRecOn with
      | _ i ih =>
        intro hi
        cases hc : listed.getD i false with
        | true => rfl
        | false =>
          have hmem : i ∈ Region.ready .any ops listed := by
            rw [mem_ready]
            refine ⟨?_, ops[i], Array.getElem?_eq_getElem hi, fun e he hbe => ?_⟩
            · simp [Array.getD_eq_getD_getElem?, hsz ▸ hi] at hc ⊢; exact hc
            · have hlt := F.ord i ops[i] (Array.getElem?_eq_getElem hi) e he hbe
              exact ih e.on hlt (by omega)
          rw [hr] at hmem; cases hmem
    induction fuel with
    | zero =>
      intro listed a w hc hU
      have hU2 := hU
      obtain ⟨_, _, _, _, hsz, _⟩ := hU2
      have hl : ∀ i, i < ops.size → listed.getD i false = true := by
        intro i hi
        have h1 : (List.range ops.size).countP (fun i => !listed.getD i false) = 0 := by omega
        rw [List.countP_eq_zero] at h1
        have := h1 i (List.mem_range.2 hi)
        simpa using this
      refine ⟨?_, hdone listed a w hU hl⟩
      rw [List.eq_nil_iff_forall_not_mem]
      intro i hi
      rw [mem_ready] at hi
      obtain ⟨h1, o, ho, _⟩ := hi
      have hlt : i < ops.size := (Array.getElem?_eq_some_iff.1 ho).1
      have h2 := hl i hlt
      simp [Array.getD_eq_getD_getElem?, hsz ▸ hlt] at h1 h2
      rw [h1] at h2; cases h2
    | succ fuel ih =>
      intro listed a w hc hU
      have hU2 := hU
      obtain ⟨_, _, _, _, hsz, _⟩ := hU2
      refine ⟨fun hr => hdone listed a w hU (hall listed hsz hr), fun i hi => ?_⟩
      obtain ⟨x, rfl, hv, hinv, _, hdc⟩ := hU
      rw [mem_ready] at hi
      obtain ⟨h1, o, ho, hdeps⟩ := hi
      have hlt : i < ops.size := (Array.getElem?_eq_some_iff.1 ho).1
      have hil : i < listed.size := by omega
      have hnl : listed.getD i false = false := by simp [Array.getD_eq_getD_getElem?, hil] at h1 ⊢; exact h1
      have hanc : ∀ j ∈ anc ops i, listed.getD j false = true := by
        intro j hj
        rcases F.clo i o j ho hj with h | ⟨k, hk, h⟩
        · obtain ⟨⟨e, he, hb, rfl⟩, _⟩ := F.dep i o j ho h
          exact hdeps e he hb
        · obtain ⟨⟨e, he, hb, rfl⟩, _⟩ := F.dep i o k ho hk
          exact hdc e.on (hdeps e he hb) j h
      have hsel := Region.noSelect_spec F.sel
      have hdesc : ∀ j, j = i ∨ i ∈ anc ops j → listed.getD j false = false := by
        rintro j (rfl | hj)
        · exact hnl
        · cases hc : listed.getD j false with
          | false => rfl
          | true =>
            have h5 := hdc j hc i hj
            rw [hnl] at h5; cases h5
      refine wpOp_of_step (R := fun v w' => True ∧ Ext i w w' ∧ Inv (fun j => if j = i then true else listed.getD j false) (fun j => if j = i then v else x j) w' ∧ V i v w') ho (fun cs b => hsel i o cs b ho) (by rw [gets_size, gets_size]) (same_looks F ho x a0 _ (fun j hj => mem_sel.2 ⟨anc_lt F i j hj, hanc j hj⟩) (fun j hj => (mem_sel.1 hj).1) (anc_lt F i) (fun j hj hi => by have h5 := hdc j (mem_sel.1 hj).2 i hi; rw [hnl] at h5; cases h5)) (hstep i o ho x w _ hinv hanc hdesc (fun j hj => hv j (hanc j (hN i j hj).1) (fun k hk => hdesc k ((hN i j hj).2 k hk)))) ?_
      rintro v w' ⟨_, hext, hinv', hvi⟩
      have hget : ∀ j, (listed.setIfInBounds i true).getD j false = (decide (j = i) || listed.getD j false) := fun j => listed_set hil
      have hfun : (fun j => (listed.setIfInBounds i true).getD j false) = (fun j => if j = i then true else listed.getD j false) := by
        funext j
        rw [hget]
        by_cases hji : j = i <;> simp [hji]
      refine ih _ _ w' ?_ ⟨fun j => if j = i then v else x j, ?_, ?_, by rw [hfun]; exact hinv', by simpa using hsz, ?_⟩
      · have h2 := count_split (fun j => !listed.getD j false) (fun j => decide (j ≠ i)) (List.range ops.size)
        have h3 : 0 < (List.range ops.size).countP (fun j => (!listed.getD j false) && !decide (j ≠ i)) := by
          rw [List.countP_pos_iff]
          exact ⟨i, List.mem_range.2 hlt, by simp [hnl]⟩
        have h4 : (List.range ops.size).countP (fun j => !(listed.setIfInBounds i true).getD j false) = (List.range ops.size).countP (fun j => (!listed.getD j false) && decide (j ≠ i)) := by
          congr 1
          funext j
          rw [hget]
          by_cases hji : j = i <;> simp [hji]
        omega
      · have hdst := dst_of ho
        refine act_ext (by rw [put_defers, gets_defers, gets_defers]) (by rw [put_size, gets_size, gets_size]) (fun d => ?_)
        by_cases hd : o.dst = some d
        · rw [gets_at _ d i (hdst.trans hd) _ a0 (mem_sel.2 ⟨hlt, by rw [hget]; simp⟩) (fun k hk he => F.inj k i d (mem_sel.1 hk).1 hlt he (hdst.trans hd)), hd]
          simp only [Act.put, Array.getElem?_setIfInBounds, if_true, gets_size]
        · have hput : (Act.put (gets ops x a0 (selL ops.size listed)) o.dst v).tmps[d]? = (gets ops x a0 (selL ops.size listed)).tmps[d]? := by
            cases he : o.dst with
            | none => rfl
            | some t =>
              have hne : t ≠ d := fun h' => hd (by rw [he, h'])
              simp [Act.put, Array.getElem?_setIfInBounds_ne hne]
          rw [hput]
          by_cases hex : ∃ j, j ∈ selL ops.size listed ∧ dstOf ops j = some d
          · obtain ⟨j, hj, hjd⟩ := hex
            have hji : j ≠ i := fun e => hd (by rw [← hdst, ← e]; exact hjd)
            rw [gets_at x d j hjd _ a0 hj (fun k hk he => F.inj k j d (mem_sel.1 hk).1 (mem_sel.1 hj).1 he hjd), gets_at _ d j hjd _ a0 (mem_sel.2 ⟨(mem_sel.1 hj).1, by rw [hget, (mem_sel.1 hj).2]; simp⟩) (fun k hk he => F.inj k j d (mem_sel.1 hk).1 (mem_sel.1 hj).1 he hjd)]
            simp only [hji, if_false]
          · rw [gets_other x d _ a0 (fun j hj he => hex ⟨j, hj, he⟩), gets_other _ d _ a0 (fun j hj he => ?_)]
            have hj2 := (mem_sel.1 hj).2
            rw [hget] at hj2
            by_cases hji : j = i
            · subst hji; exact hd (by rw [← hdst]; exact he)
            · simp [hji] at hj2
              exact hex ⟨j, mem_sel.2 ⟨(mem_sel.1 hj).1, by simpa using hj2⟩, he⟩
      · intro j hj hlive
        rw [hget] at hj
        by_cases hji : j = i
        · subst hji; simpa using hvi
        · simp only [hji, decide_false, Bool.false_or] at hj
          simp only [hji, if_false]
          have hlive2 : ∀ k ∈ K j, listed.getD k false = false ∧ k ≠ i := fun k hk => by
            have h8 := hlive k hk
            rw [hget] at h8
            by_cases hki : k = i
            · simp [hki] at h8
            · simp only [hki, decide_false, Bool.false_or] at h8
              exact ⟨h8, hki⟩
          refine hmono j i ?_ hlt (fun e => hji e.symm) (fun hm => ?_) (fun hm => (hlive2 i hm).2 rfl) _ w w' hext (hv j hj (fun k hk => (hlive2 k hk).1))
          · rcases Nat.lt_or_ge j ops.size with h | h
            · exact h
            · simp [Array.getD_eq_getD_getElem?, Array.getElem?_eq_none (show listed.size ≤ j by omega)] at hj
          · have h5 := hdc j hj i hm
            rw [hnl] at h5; cases h5
      · intro j hj k hk
        rw [hget] at hj ⊢
        by_cases hji : j = i
        · subst hji; rw [hanc k hk]; simp
        · simp only [hji, decide_false, Bool.false_or] at hj
          rw [hdc j hj k hk]; simp
  have hd0 : (fun j => (Array.replicate ops.size false).getD j false) = (fun _ => false) := by
    funext j
    simp [Array.getD_eq_getD_getElem?, Array.getElem?_replicate]
    split <;> rfl
  refine key _ _ _ _ ?_ ⟨fun _ => undef, ?_, ?_, by rw [hd0]; exact h0 _, by simp, ?_⟩
  · exact Nat.le_trans (List.countP_le_length) (by simp)
  · have : selL ops.size (Array.replicate ops.size false) = [] := by
      unfold selL
      rw [List.filter_eq_nil_iff]
      intro i hi
      simp [Array.getD_eq_getD_getElem?, Array.getElem?_replicate]
      split <;> simp
    rw [this]; rfl
  · intro i hi; simp [Array.getD_eq_getD_getElem?, Array.getElem?_replicate] at hi; split at hi <;> simp at hi
  · intro i hi; simp [Array.getD_eq_getD_getElem?, Array.getElem?_replicate] at hi; split at hi <;> simp at hi


/-- what is done, and what is not yet, when an operation comes -/
def Before (L : Nat → Bool) (A : List Nat) (B : List Nat) : Prop := (∀ j ∈ A, L j = true) ∧ (∀ j ∈ B, L j = false)
def Steps3 (P : Program) (ops : Array Oper) (Inv : (Nat → Bool) → (Nat → Value) → World → Prop) (V : Nat → Value → World → Prop) (Ext : Nat → World → World → Prop) (D : List (Option Tmp)) (a0 : Act) : Nat → List (List Nat) → List (List Nat) → List (List Nat) → List Oper → Prop
  | k, A :: As, B :: Bs, N :: Ns, o :: l => (∀ x w L, Inv L x w → Before L A B → AllV V x w N → wpList P ops (StepPost (fun _ => True) (fun i v w' => Inv (setB L k) (setV x k v) w' ∧ V i v w') (Ext k) k (getsD D x a0 A) o.dst w) [o] (getsD D x a0 A) w) ∧ Steps3 P ops Inv V Ext D a0 (k + 1) As Bs Ns l
  | _, _, _, _, _ => True
theorem steps_at3 {Inv : (Nat → Bool) → (Nat → Value) → World → Prop} {V : Nat → Value → World → Prop} {Ext : Nat → World → World → Prop} {D : List (Option Tmp)} {a0 : Act} : ∀ {l : List Oper} {As Bs Ns : List (List Nat)} {k : Nat}, Steps3 P ops Inv V Ext D a0 k As Bs Ns l → ∀ (i : Nat) (o : Oper) (A B N : List Nat), l[i]? = some o → As[i]? = some A → Bs[i]? = some B → Ns[i]? = some N →
    ∀ x w L, Inv L x w → Before L A B → AllV V x w N → wpList P ops (StepPost (fun _ => True) (fun i' v w' => Inv (setB L (k + i)) (setV x (k + i) v) w' ∧ V i' v w') (Ext (k + i)) (k + i) (getsD D x a0 A) o.dst w) [o] (getsD D x a0 A) w
  | [], _, _, _, _, _, i, o, A, B, N, h, _, _, _ => by simp at h
  | _ :: _, [], _, _, _, _, i, o, A, B, N, _, h, _, _ => by simp at h
  | _ :: _, _ :: _, [], _, _, _, i, o, A, B, N, _, _, h, _ => by simp at h
  | _ :: _, _ :: _, _ :: _, [], _, _, i, o, A, B, N, _, _, _, h => by simp at h
  | o' :: l, A' :: As, B' :: Bs, N' :: Ns, k, hs, 0, o, A, B, N, h1, h2, h3, h4 => by
    simp at h1 h2 h3 h4
    subst h1 h2 h3 h4
    exact hs.1
  | o' :: l, A' :: As, B' :: Bs, N' :: Ns, k, hs, i + 1, o, A, B, N, h1, h2, h3, h4 => by
    simp at h1 h2 h3 h4
    have := steps_at3 hs.2 i o A B N h1 h2 h3 h4
    rw [show k + (i + 1) = k + 1 + i from by omega]
    exact this
def Steps4 (P : Program) (ops : Array Oper) (Inv : (Nat → Bool) → (Nat → Value) → World → Prop) (V : Nat → Value → World → Prop) (Ext : Nat → World → World → Prop) : Nat → List (List Nat) → List (List Nat) → List (List Nat) → List ((Nat → Value) → Act) → List Oper → Prop
  | k, A :: As, B :: Bs, N :: Ns, F :: Fs, o :: l => (∀ x w L, Inv L x w → Before L A B → AllV V x w N → wpList P ops (StepPost (fun _ => True) (fun i v w' => Inv (setB L k) (setV x k v) w' ∧ V i v w') (Ext k) k (F x) o.dst w) [o] (F x) w) ∧ Steps4 P ops Inv V Ext (k + 1) As Bs Ns Fs l
  | _, _, _, _, _, _ => True
theorem steps_of4 {Inv : (Nat → Bool) → (Nat → Value) → World → Prop} {V : Nat → Value → World → Prop} {Ext : Nat → World → World → Prop} {D : List (Option Tmp)} {a0 : Act} : ∀ {l : List Oper} {As Bs Ns : List (List Nat)} {Fs : List ((Nat → Value) → Act)} {k : Nat}, l.all noSel = true → FramesOk ops D a0 As Fs l → Steps4 P ops Inv V Ext k As Bs Ns Fs l → Steps3 P ops Inv V Ext D a0 k As Bs Ns l
  | [], As, Bs, Ns, Fs, k, _, _, _ => by cases As <;> cases Bs <;> cases Ns <;> trivial
  | o :: l, [], Bs, Ns, Fs, k, _, h, _ => by cases Fs <;> trivial
  | o :: l, A :: As, [], Ns, Fs, k, _, h, _ => by trivial
  | o :: l, A :: As, B :: Bs, [], Fs, k, _, h, _ => by trivial
  | o :: l, A :: As, B :: Bs, N :: Ns, [], k, _, h, _ => by cases h
  | o :: l, A :: As, B :: Bs, N :: Ns, F :: Fs, k, hn, hf, hs => by
    simp only [List.all_cons, Bool.and_eq_true] at hn
    refine ⟨fun x w L hI hL hV => ?_, steps_of4 hn.2 hf.2 hs.2⟩
    obtain ⟨h1, h2⟩ := hf.1 x
    refine step_same (noSel_ne hn.1) (F := F x) (fun d hd => ?_) (fun d hd => ?_) (hs.1 x w L hI hL hV)
    · rw [hd] at h2
      exact of_decide_eq_true h2
    · exact List.map_inj_left.1 h1 d hd
/-- what an operation is told of those ahead of it must stand then -/
def needsOk (n : Nat) (A K N : List (List Nat)) : Bool := (N.length == n) && (List.range n).all fun i => (N.getD i []).all fun j => (A.getD i []).contains j && (K.getD j []).all fun k => k == i || (A.getD k []).contains i
def descT (n : Nat) (A : List (List Nat)) : List (List Nat) := (List.range n).map fun i => (List.range n).filter fun j => j == i || (A.getD j []).contains i
/-- **A region that draws its order**, written out, at small frames; each operation turns memory as it says. -/
theorem region_lit3 {l : List Oper} {id : Nat} {Q : Exit → Act → World → Prop} {a0 : Act} {w0 : World} (hm : P.follows .mixedOrders = true) (hok : regionOk l.toArray = true) (hsel : l.all noSel = true) (A : List (List Nat)) (hA : ancT l.toArray = A) (D : List (Option Tmp)) (hD : (List.range l.toArray.size).map (dstOf l.toArray) = D)
    (B : List (List Nat)) (hB : descT l.length A = B) (K N : List (List Nat)) (hN : needsOk l.length A K N = true) (Inv : (Nat → Bool) → (Nat → Value) → World → Prop) (V : Nat → Value → World → Prop) (Ext : Nat → World → World → Prop) (Fs : List ((Nat → Value) → Act)) (hF : FramesOk l.toArray D a0 A Fs l)
    (hmono : ∀ i j, i < l.length → j < l.length → j ≠ i → j ∉ A.getD i [] → j ∉ K.getD i [] → ∀ v w w', Ext j w w' → V i v w → V i v w') (h0 : ∀ x, Inv (fun _ => false) x w0.drew) (hstep : Steps4 P l.toArray Inv V Ext 0 A B N Fs l)
    (E : List Nat) (hE : ((List.range l.length).filter fun i => (K.getD i []).isEmpty) = E) (hend : ∀ x w L, (∀ i, i < l.length → L i = true) → Inv L x w → AllV V x w E → Q .normal (getsD D x a0 (List.range l.length)) w) : (Code.region id l.toArray true).wp P Q a0 w0 := by
  have F := facts_of hok
  have hz : l.toArray.size = l.length := by simp
  have hst := steps_of4 (a0 := a0) hsel hF hstep
  have hancA : ∀ j, anc l.toArray j = A.getD j [] := fun j => by unfold anc; rw [hA]
  have hNn := hN
  simp only [needsOk, Bool.and_eq_true, beq_iff_eq, List.all_eq_true, List.mem_range, List.contains_iff_mem, Bool.or_eq_true] at hNn
  obtain ⟨hNl, hNa⟩ := hNn
  refine region_rule3 hm hok Inv V Ext (fun i => K.getD i []) (fun i => N.getD i []) (fun i j hj => ?_) (fun i j hi hj hne hna => ?_) h0 (fun i o ho x w L hI hL1 hL2 hV => ?_) (fun x w L hL hI hV => ?_)
  · by_cases hi : i < l.length
    · have h1 := hNa i hi j hj
      rw [hancA]
      exact ⟨h1.1, fun k hk => (h1.2 k hk).imp_right fun h => by rw [hancA]; exact h⟩
    · have hj2 : j ∈ N.getD i [] := hj
      simp only [List.getD, List.getElem?_eq_none (show N.length ≤ i by omega), Option.getD_none] at hj2
      cases hj2
  · refine hmono i j (by omega) (by omega) hne (fun h => hna ?_)
    rw [hancA]; exact h
  · have hil : i < l.toArray.size := (Array.getElem?_eq_some_iff.1 ho).1
    have hAl : A[i]? = some (anc l.toArray i) := by
      have hlen : ∀ (n : Nat) (f : List (List Nat) → Nat → List Nat), ((List.range n).foldl (fun T i => T ++ [f T i]) []).length = n := by
        intro n f
        induction n with
        | zero => rfl
        | succ n ihn => rw [List.range_succ, List.foldl_append]; simp [ihn]
      have h1 : A.length = l.toArray.size := by rw [← hA]; exact hlen _ _
      rw [List.getElem?_eq_getElem (by omega), hancA]
      simp only [List.getD, List.getElem?_eq_getElem (show i < A.length by omega), Option.getD_some]
    have hBl : B[i]? = some ((List.range l.length).filter fun j => j == i || (A.getD j []).contains i) := by
      rw [← hB]; unfold descT
      rw [List.getElem?_map, List.getElem?_range (by omega)]; rfl
    have hNl2 : N[i]? = some (N.getD i []) := by simp only [List.getD, List.getElem?_eq_getElem (show i < N.length by omega), Option.getD_some]
    have h2 := steps_at3 hst i o _ _ _ (by simpa using ho) hAl hBl hNl2 x w L hI ⟨hL1, fun j hj => ?_⟩ (allV_of hV)
    · rw [Nat.zero_add, getsD_eq x hD _ _ (anc_lt F i)] at h2
      exact h2
    · simp only [List.mem_filter, Bool.or_eq_true, beq_iff_eq, List.contains_iff_mem] at hj
      refine hL2 j ?_
      rw [hancA]
      exact hj.2
  · have h2 := hend x w L (by simpa using hL) hI (allV_of fun j hj => by
      rw [← hE, List.mem_filter, List.mem_range, List.isEmpty_iff] at hj
      exact hV j (by simpa using hj.1) hj.2)
    rw [getsD_eq x hD _ _ (fun j hj => by simpa using hj)] at h2
    rw [hz]
    exact h2
end
end Go.Proofs.YtkbfhgcjimfgkaaDoor

set_option linter.unusedVariables false
set_option linter.unusedSimpArgs false
namespace Go.Proofs.YtkbfhgcjimfgkaaDoor
open Go.RowKit

theorem flat_get (l : Op) (j : Nat) (u : Value) (h : (flat l)[j]? = some u) : ∃ p, l[j / 3]? = some p ∧ (partCells p)[j % 3]? = some u := by
  have hlt := (List.getElem?_eq_some_iff.1 h).1
  rw [flat_len] at hlt
  have hi : j / 3 < l.length := by omega
  refine ⟨l[j / 3], List.getElem?_eq_getElem hi, ?_⟩
  obtain ⟨h1, h2, h3⟩ := flat_at l (j / 3) _ (List.getElem?_eq_getElem hi)
  have hj : j = j / 3 * 3 + j % 3 := by omega
  have hr : j % 3 < 3 := Nat.mod_lt _ (by decide)
  generalize j % 3 = r at *
  generalize j / 3 = i at *
  subst hj
  match r, hr with
  | 0, _ => rw [Nat.add_zero, h1] at h; simpa [partCells] using h
  | 1, _ => rw [h2] at h; simpa [partCells] using h
  | 2, _ => rw [h3] at h; simpa [partCells] using h
/-- the cells of an operation that lies in memory -/
theorem RdS.news {A : Nat → Prop} {w : World} {l : Op} {b off n c : Nat} (hr : RdS A w l (some ⟨b, off, none⟩) n c) (hn : 0 < n) : ∀ j u, (flat l)[j]? = some u → w.cell? ((⟨b, off, none⟩ : Addr).add j) = some u := by
  intro j u hu
  obtain ⟨b', off', e, _, _, he⟩ := hr.2.2.2.2 hn
  injection e with e
  injection e with e1 e2
  subst e1 e2
  obtain ⟨p, hp, hq⟩ := flat_get l j u hu
  obtain ⟨xs, ⟨rfl, _⟩, h4⟩ := he (j / 3) p hp
  have h5 := h4 (j % 3) u hq
  have ea : (⟨b, off, none⟩ : Addr).add j = ⟨b, off + j, none⟩ := by
    unfold Addr.add
    split
    · rename_i h0; rw [h0]; rfl
    · rfl
  rw [ea]
  simp only [Rep.n] at h5
  rw [show off + j = off + j / 3 * 3 + j % 3 from by omega]
  exact h5
/-- parts fit their cells -/
def Fits (l : Op) : Prop := ∀ p ∈ l, I64 p.kind ∧ I64 p.n ∧ p.text.size ≤ strMax
theorem RdS.fits {A : Nat → Prop} {w : World} {l : Op} {a : Option Addr} {n c : Nat} (hr : RdS A w l a n c) : Fits l := by
  intro p hp
  have hn : 0 < n := by have := hr.1; have := List.length_pos_of_mem hp; omega
  obtain ⟨b, off, _, _, _, hc⟩ := hr.part hn
  obtain ⟨i, hi, rfl⟩ := List.getElem_of_mem hp
  obtain ⟨h1, h2, h3, _⟩ := hc i hi
  exact ⟨h1, h2, h3⟩
theorem RdS.of_own {w : World} {base : Nat} {l : Op} {v : Value} (h : w.ownsRow base 53 3 v l.length (flat l)) (hp : Fits l) : ∃ a c, v = .slice a l.length c ∧ RdS (fun b => base ≤ b ∧ b < w.heap.size) w l a l.length c := by
  obtain ⟨a, n, c, hv, hr⟩ := RdS.of_row (α := Part) (A := fun b => base ≤ b ∧ b < w.heap.size) h (fun b hb => h.lt b hb) (fun i x hx => ⟨partCells x, ⟨rfl, hp x (List.mem_of_getElem? hx)⟩, fun j u hu => by
    obtain ⟨h1, h2, h3⟩ := flat_at l i x hx
    simp only [Rep.n]
    match j, hu with
    | 0, hu => simp [partCells] at hu; rw [← hu]; exact h1
    | 1, hu => simp [partCells] at hu; rw [← hu]; exact h2
    | 2, hu => simp [partCells] at hu; rw [← hu]; exact h3⟩)
  have hn := hr.1
  subst hn
  exact ⟨a, c, hv, hr⟩
theorem RdS.nil' {α : Type} [Rep α] (A : Nat → Prop) (w : World) (a : Option Addr) (c : Nat) (hc : c ≤ maxLen) (ha : a = none → c = 0) : RdS (α := α) A w [] a 0 c := ⟨rfl, Nat.zero_le _, hc, ha, fun h => absurd h (by omega)⟩
/-- nothing is appended to nothing -/
theorem run_append_empty {P : Program} {w : World} (t ty e : TypeId) (i : TypeInfo) (ht : P.underlying t = some (.slice e)) (hi : P.info? e = some i) (a ax : Option Addr) (c cx : Nat) :
    (Builtin.append_ #[t, t] ty #[.slice a 0 c, .slice ax 0 cx]).run P w = .ok (.slice a 0 c) w := by
  cases a <;> cases ax <;> simp [Builtin.append_, run_underlying ht, sizeOf, typeInfo, hi, Builtin.lenOf, Builtin.firstCells, storeCells, loadCells, loadCellsFrom]
theorem wpList_append_empty {P : Program} {w : World} {ops : Array Oper} {rest : List Oper} {o : Oper} {a : Act} {Q : Exit → Act → World → Prop} (hgd : o.guard = none) (s x : Operand) (t : TypeId)
    (ho : o.op = .call { callee := .builtin .append, args := #[s, x], argTypes := #[t, t] }) (e : TypeId) (i : TypeInfo) (ht : P.underlying t = some (.slice e)) (hi : P.info? e = some i)
    (b : Option Addr) (c : Nat) (hs : a.eval s = .slice b 0 c) (ax : Option Addr) (cx : Nat) (hx : a.eval x = .slice ax 0 cx) (h : wpList P ops Q rest (a.put o.dst (.slice b 0 c)) w) : wpList P ops Q (o :: rest) a w := by
  refine wpList_plain hgd fun K hK => ?_
  have hrun := run_append_empty (P := P) (w := w) t o.type e i ht hi b ax c cx
  unfold Oper.wp
  simp [execOp, ho, resolve, invoke, builtin, hs, hx, hrun, Result.andThen]
  exact hK _ _ h
/-- what a copy is: the same operation, in a row of the call's own -/
def CopyPost (w : World) (o : Op) (e : Ending) (w' : World) : Prop :=
  ∃ a c, e = .returned (.slice a o.length c) ∧ RdS (fun b => w.heap.size ≤ b ∧ b < w'.heap.size) w' o a o.length c ∧ Below w.heap.size w w'

end Go.Proofs.YtkbfhgcjimfgkaaDoor

set_option linter.unusedVariables false
set_option linter.unusedSimpArgs false
namespace Go.Proofs.YtkbfhgcjimfgkaaDoor
open Go.RowKit

theorem Blk.set {w : World} {g T : Nat} {cs : Array Value} (h : Blk g (.cells cs T (0, 0)) w) (i : Nat) (v : Value) : Blk g (.cells (cs.setIfInBounds i v) T (0, 0)) (w.setCell ⟨g, i, none⟩ v) := by
  have hlt : g < w.heap.size := h.lt
  unfold Blk at h ⊢
  simp [World.setCell, Array.getElem?_modify, h]
theorem Blk.other {w : World} {g : Nat} {o : Obj} (h : Blk g o w) {p : Addr} (hp : p.block ≠ g) (v : Value) : Blk g o (w.setCell p v) := (Below.heap_setCell w p v g (fun e => hp e.symm)).trans h
theorem Blk.touch {w w' : World} {S : Nat → Prop} {g : Nat} {o : Obj} (h : Blk g o w) (ht : Touch S w w') (hs : ¬ S g) : Blk g o w' := (ht.block g h.lt hs).trans h
theorem Blk.grown {w w' : World} {r : Option Nat} {g : Nat} {o : Obj} (h : Blk g o w) (ht : w.grownBy w' r) (hs : some g ≠ r) : Blk g o w' := (ht.block g h.lt hs).trans h
theorem Blk.frozen {b : Nat} {cs : Array Value} {t : Nat} {W : World} (h : Blk b (.cells cs t (0, 0)) W) (i : Nat) : W.frozen? ⟨b, i, none⟩ = false := frozen_of_row _ _ _ _ _ h
section
variable {α : Type} [Rep α] {B : Nat} {W W' : World} {l : List α} {a : Option Addr} {n c : Nat}
theorem RdS.freshB (h : RdS (fun b => B ≤ b ∧ b < W.heap.size) W l a n c) (hE : Below W.heap.size W W') : RdS (fun b => B ≤ b ∧ b < W'.heap.size) W' l a n c :=
  h.mono fun b hb => ⟨⟨hb.1, Nat.lt_of_lt_of_le hb.2 hE.size⟩, hE.block b hb.2⟩
theorem RdS.freshG {r : Option Nat} (h : RdS (fun b => B ≤ b ∧ b < W.heap.size) W l a n c) (hE : W.grownBy W' r) (hr : ∀ k, r = some k → k < B) : RdS (fun b => B ≤ b ∧ b < W'.heap.size) W' l a n c :=
  h.mono fun b hb => ⟨⟨hb.1, Nat.lt_of_lt_of_le hb.2 hE.size⟩, hE.block b hb.2 fun e => by have := hr b e.symm; omega⟩
theorem RdS.freshT {S : Nat → Prop} (h : RdS (fun b => B ≤ b ∧ b < W.heap.size) W l a n c) (hE : Touch S W W') (hr : ∀ k, S k → k < B) : RdS (fun b => B ≤ b ∧ b < W'.heap.size) W' l a n c :=
  h.mono fun b hb => ⟨⟨hb.1, Nat.lt_of_lt_of_le hb.2 hE.size⟩, hE.block b hb.2 fun e => by have := hr b e; omega⟩
end
theorem Blk.set3 {w : World} {g T : Nat} {x y z : Value} (h : Blk g (.cells #[x, y, z] T (0, 0)) w) (x' y' z' : Value) : Blk g (.cells #[x', y', z'] T (0, 0)) (((w.setCell ⟨g, 0, none⟩ x').setCell ⟨g, 1, none⟩ y').setCell ⟨g, 2, none⟩ z') := ((h.set 0 x').set 1 y').set 2 z'
theorem touch1 {g i : Nat} {w : World} (x : Value) : Touch (fun b => b = g) w (w.setCell ⟨g, i, none⟩ x) := Touch.setCell (S := fun b => b = g) (Touch.refl _ _) (.inl rfl) _
theorem touch3 {g : Nat} {w : World} (x y z : Value) : Touch (fun b => b = g) w (((w.setCell ⟨g, 0, none⟩ x).setCell ⟨g, 1, none⟩ y).setCell ⟨g, 2, none⟩ z) := ((touch1 x).trans (touch1 y)).trans (touch1 z)
theorem abs_ret {P : Program} {fn : Func} {R : Ending → World → Prop} {ex : Exit} {a : Act} {W0 : World} (Q : World → Prop) (hQ : Q W0) (k : ∀ W, Q W → bodyPost P fn R ex a W) : bodyPost P fn R ex a W0 := k W0 hQ
/-- cells that read as a list -/
def Reads {α : Type} [Rep α] (A : Nat → Prop) (w : World) (l : List α) (xs : List Value) : Prop :=
  ∀ (i : Nat) (x : α), l[i]? = some x → ∃ ys, Rep.rd A w x ys ∧ ∀ (j : Nat) (u : Value), ys[j]? = some u → xs[i * Rep.n α + j]? = some u
theorem Reads.mono {α : Type} [Rep α] {A A' : Nat → Prop} {w w' : World} {l : List α} {xs : List Value} (h : Reads A w l xs) (hA : ∀ b, A b → A' b ∧ w'.heap[b]? = w.heap[b]?) : Reads A' w' l xs := by
  intro i x hi
  obtain ⟨ys, h1, h2⟩ := h i x hi
  exact ⟨ys, Rep.mono hA h1, h2⟩
/-- a slice of the call's own, in a row of its own; what its elements reach lies neither in the row nor in the blocks X -/
structure Own {α : Type} [Rep α] (X : Nat → Prop) (base e : Nat) (v : Value) (l : List α) (w : World) : Prop where
  row : ∃ xs, w.ownsRow base e (Rep.n α) v l.length xs ∧ Reads (fun b => b < w.heap.size ∧ ¬ X b ∧ v.ownBlock ≠ some b) w l xs
section
variable {α : Type} [Rep α] {X : Nat → Prop} {base e : Nat} {v : Value} {l : List α} {w w' : World}
theorem Own.nil : Own (α := α) X base e (.slice none 0 0) [] w := ⟨[], World.ownsRow_nil _ _ _ _, fun i x h => by simp at h⟩
theorem Own.rowlt (h : Own X base e v l w) : ∀ k, v.ownBlock = some k → base ≤ k ∧ k < w.heap.size := by
  obtain ⟨xs, h1, _⟩ := h.row
  exact h1.lt
theorem Own.form (h : Own X base e v l w) : ∃ a c, v = .slice a l.length c := by
  obtain ⟨xs, h1, _⟩ := h.row
  rcases h1.2 with ⟨hv, h0⟩ | ⟨g, cap, cur, hv, _⟩
  · exact ⟨none, 0, by rw [hv, h0]⟩
  · exact ⟨_, _, hv⟩
theorem Own.keep (h : Own X base e v l w) (hs : w.heap.size ≤ w'.heap.size) (hk : ∀ k, k < w.heap.size → (¬ X k ∨ v.ownBlock = some k) → w'.heap[k]? = w.heap[k]?) : Own X base e v l w' := by
  obtain ⟨xs, h1, h2⟩ := h.row
  refine ⟨xs, ⟨h1.1, ?_⟩, h2.mono fun b hb => ⟨⟨by omega, hb.2⟩, hk b hb.1 (.inl hb.2.1)⟩⟩
  rcases h1.2 with hn | ⟨g, cap, cur, hv, hb, hg, rest⟩
  · exact .inl hn
  · exact .inr ⟨g, cap, cur, hv, hb, (hk g (Array.getElem?_eq_some_iff.1 hg).1 (.inr (by rw [hv]; rfl))).trans hg, rest⟩
theorem Own.go (h : Own X base e v l w) (hb : Below w.heap.size w w') : Own X base e v l w' := h.keep hb.size fun k hk _ => hb.block k hk
theorem Own.touch {S : Nat → Prop} (h : Own X base e v l w) (ht : Touch S w w') (hS : ∀ k, k < w.heap.size → S k → X k ∧ v.ownBlock ≠ some k) : Own X base e v l w' :=
  h.keep ht.size fun k hk hx => ht.block k hk fun hs => by
    have := hS k hk hs
    rcases hx with hx | hx
    · exact hx this.1
    · exact this.2 hx
theorem Own.less {X' : Nat → Prop} (h : Own X base e v l w) (hX : ∀ k, X' k → X k) : Own X' base e v l w := by
  obtain ⟨xs, h1, h2⟩ := h.row
  exact ⟨xs, h1, h2.mono fun b hb => ⟨⟨hb.1, fun hx => hb.2.1 (hX b hx), hb.2.2⟩, rfl⟩⟩
theorem Own.low {base' : Nat} (h : Own X base e v l w) (hb : base' ≤ base) : Own X base' e v l w := by
  obtain ⟨xs, h1, h2⟩ := h.row
  refine ⟨xs, ⟨h1.1, ?_⟩, h2⟩
  rcases h1.2 with hn | ⟨g, cap, cur, hv, hb', rest⟩
  · exact .inl hn
  · exact .inr ⟨g, cap, cur, hv, by omega, rest⟩
theorem Own.more {X' : Nat → Prop} (h : Own X base e v l w) (hX : ∀ k, k < w.heap.size → X' k → X k) : Own X' base e v l w := by
  obtain ⟨xs, h1, h2⟩ := h.row
  exact ⟨xs, h1, h2.mono fun b hb => ⟨⟨hb.1, fun hx => hb.2.1 (hX b hb.1 hx), hb.2.2⟩, rfl⟩⟩
theorem Own.rd (h : Own X base e v l w) (hX : ∀ k, v.ownBlock = some k → ¬ X k) : ∃ a c, v = .slice a l.length c ∧ RdS (fun b => b < w.heap.size ∧ ¬ X b) w l a l.length c := by
  obtain ⟨xs, h1, h2⟩ := h.row
  obtain ⟨a, n, c, hv, hr⟩ := RdS.of_row (A := fun b => b < w.heap.size ∧ ¬ X b) h1 (fun b hb => ⟨(h1.lt b hb).2, hX b hb⟩) (h2.mono fun b hb => ⟨⟨hb.1, hb.2.1⟩, rfl⟩)
  have hn := hr.1
  subst hn
  exact ⟨a, c, hv, hr⟩
theorem Own.snoc {xs ys : List Value} {x : α} {g cap : Nat} {w1 : World} (hr : Reads (fun b => b < w.heap.size ∧ ¬ X b ∧ v.ownBlock ≠ some b) w l xs) (hl : xs.length = l.length * Rep.n α) (hx : Rep.rd (fun b => b < w.heap.size ∧ ¬ X b ∧ v.ownBlock ≠ some b) w x ys)
    (hown : w1.ownsRow base e (Rep.n α) (.slice (some ⟨g, 0, none⟩) (l.length + 1) cap) (l.length + 1) (xs ++ ys)) (hgrow : w.grownBy w1 v.ownBlock) (hat : v.ownBlock = some g ∨ g = w.heap.size) : Own X base e (.slice (some ⟨g, 0, none⟩) (l.length + 1) cap) (l ++ [x]) w1 := by
  have hA : ∀ b, (b < w.heap.size ∧ ¬ X b ∧ v.ownBlock ≠ some b) → (b < w1.heap.size ∧ ¬ X b ∧ (Value.slice (some ⟨g, 0, none⟩) (l.length + 1) cap).ownBlock ≠ some b) ∧ w1.heap[b]? = w.heap[b]? := by
    rintro b ⟨h1, h2, h3⟩
    refine ⟨⟨Nat.lt_of_lt_of_le h1 hgrow.size, h2, ?_⟩, hgrow.block b h1 (fun e => h3 e.symm)⟩
    show some g ≠ some b
    rcases hat with h | h
    · rw [← h]; exact h3
    · intro e; injection e with e; omega
  refine ⟨xs ++ ys, by simpa using hown, fun i y hi => ?_⟩
  by_cases hil : i < l.length
  · rw [List.getElem?_append_left hil] at hi
    obtain ⟨zs, h1, h2⟩ := hr i y hi
    refine ⟨zs, Rep.mono hA h1, fun j u hj => ?_⟩
    have h3 := h2 j u hj
    rw [List.getElem?_append_left (List.getElem?_eq_some_iff.1 h3).1]; exact h3
  · rw [List.getElem?_append_right (by omega)] at hi
    have hi0 : i = l.length := by
      have := (List.getElem?_eq_some_iff.1 hi).1
      simp at this; omega
    subst hi0
    simp at hi
    subst hi
    refine ⟨ys, Rep.mono hA hx, fun j u hj => ?_⟩
    rw [List.getElem?_append_right (by omega), hl, Nat.add_sub_cancel_left]
    exact hj
end
/-- a slice of the call's own as what reads -/
theorem Own.rdw {α : Type} [Rep α] {e : Nat} {v : Value} {l : List α} {w w' : World} (h : Own (· < w.heap.size) w.heap.size e v l w') : ∃ a c, v = .slice a l.length c ∧ RdS (· < w'.heap.size) w' l a l.length c := by
  obtain ⟨a, c, hv, hr⟩ := h.rd (fun k hk hx => by have := (h.rowlt k hk).1; have hx2 : k < w.heap.size := hx; omega)
  exact ⟨a, c, hv, hr.wide fun b hb => hb.1⟩
/-- append of one element to a slice of the call's own -/
theorem wpList_append_one {α : Type} [Rep α] {P : Program} {X : Nat → Prop} {w : World} {ops : Array Oper} {rest : List Oper} {o : Oper} {a : Act} {Q : Exit → Act → World → Prop} (hgd : o.guard = none) (s x : Operand) (t : TypeId)
    (ho : o.op = .call { callee := .builtin .append, args := #[s, x], argTypes := #[t, t] })
    (base : Nat) (e : TypeId) (i : TypeInfo) (z : Value) (bytes : Nat) (ht : P.underlying t = some (.slice e)) (hi : P.info? e = some i) (hz : i.zero = some z)
    (hsize : i.size = Rep.n α) (hby : i.bytes = bytes) (hzs : z.cells.size = Rep.n α)
    (v : Value) (l : List α) (hs : a.eval s = v) (hown : Own X base e v l w)
    (gb c tb : Nat) (ys : List Value) (y : α) (hx : a.eval x = .slice (some ⟨gb, 0, none⟩) 1 c) (hblk : Blk gb (.cells ys.toArray tb (0, 0)) w) (hy : Rep.rd (fun b => b < w.heap.size ∧ ¬ X b ∧ v.ownBlock ≠ some b) w y ys)
    (h63 : l.length + 1 ≤ maxLen) (hbytes : (l.length + 1) * bytes ≤ 140737488355328) (hbase : base ≤ w.heap.size)
    (h : ∀ g cap w', Own X base e (.slice (some ⟨g, 0, none⟩) (l.length + 1) cap) (l ++ [y]) w' → w.grownBy w' v.ownBlock → (v.ownBlock = some g ∨ g = w.heap.size) → g < w'.heap.size → wpList P ops Q rest (a.put o.dst (.slice (some ⟨g, 0, none⟩) (l.length + 1) cap)) w') : wpList P ops Q (o :: rest) a w := by
  obtain ⟨xs, h1, h2⟩ := hown.row
  have hyl := Rep.len hy
  refine wpList_append_lies w hgd s x t ho base e i z (Rep.n α) bytes ht hi hz hsize hby hzs Rep.pos v l.length xs hs h1 ⟨gb, 0, none⟩ 1 c ys hx (by omega) (news_at hblk) (Rep.one hy) (by omega) h63 hbytes hbase w.heap.size rfl ?_
  intro g cap w' hw hg hat hlt
  exact h g cap w' (Own.snoc h2 h1.1 hy hw hg hat) hg hat hlt
end Go.Proofs.YtkbfhgcjimfgkaaDoor

set_option linter.unusedVariables false
set_option linter.unusedSimpArgs false
namespace Go.Proofs.YtkbfhgcjimfgkaaDoor
open Go.RowKit

theorem tape_setCells (b : Nat) : ∀ (vs : List Value) (o : Nat) (w : World), (w.setCells b o vs).tape = w.tape
  | [], _, _ => rfl
  | v :: vs, o, w => by
    show ((w.setCell ⟨b, o, none⟩ v).setCells b (o + 1) vs).tape = w.tape
    rw [tape_setCells b vs]; rfl
theorem size_setCells' (b : Nat) : ∀ (vs : List Value) (o : Nat) (w : World), (w.setCells b o vs).heap.size = w.heap.size
  | [], _, _ => rfl
  | v :: vs, o, w => by
    show ((w.setCell ⟨b, o, none⟩ v).setCells b (o + 1) vs).heap.size = w.heap.size
    rw [size_setCells' b vs]; simp
theorem grownBy_setCells (w : World) (g o : Nat) (vs : List Value) : w.grownBy (w.setCells g o vs) (some g) :=
  ⟨World.os_setCells w g o vs, tape_setCells g vs o w, World.output_setCells w g o vs, by rw [size_setCells']; exact Nat.le_refl _, fun k hk hne => World.heap_setCells_other w g o vs hk (fun e => hne (by rw [e]))⟩
theorem RdS.empty' {α : Type} [Rep α] (A : Nat → Prop) (w : World) (a : Option Addr) : RdS (α := α) A w [] a 0 0 := ⟨rfl, Nat.le_refl _, by unfold maxLen; omega, fun _ => rfl, fun h => absurd h (by omega)⟩
/-- a slice of the call's own -/
structure OwnO {α : Type} [Rep α] (X : Nat → Prop) (base : Nat) (v : Value) (l : List α) (w : World) : Prop where
  row : (∃ a, v = .slice a 0 0 ∧ l = [] ∧ ∀ k, v.ownBlock = some k → base ≤ k ∧ k < w.heap.size) ∨ ∃ g off cap, v = .slice (some ⟨g, off, none⟩) l.length cap ∧ base ≤ g ∧ g < w.heap.size ∧ l.length ≤ cap ∧ cap ≤ maxLen ∧
    (∀ j, j < cap * Rep.n α → (w.cell? ⟨g, off + j, none⟩).isSome = true ∧ w.frozen? ⟨g, off + j, none⟩ = false) ∧ Elems (fun b => b < w.heap.size ∧ ¬ X b ∧ b ≠ g) w g off l
section
variable {α : Type} [Rep α] {X : Nat → Prop} {base e : Nat} {v : Value} {l : List α} {w w' : World}
theorem Elems.imp {A A' : Nat → Prop} {g off : Nat} (h : Elems A w g off l) (hg : w'.heap[g]? = w.heap[g]?) (hA : ∀ b, A b → A' b ∧ w'.heap[b]? = w.heap[b]?) : Elems A' w' g off l := by
  intro i x hx
  obtain ⟨xs, h1, h2⟩ := h i x hx
  exact ⟨xs, Rep.mono hA h1, fun j u hu => (cell_keep hg).trans (h2 j u hu)⟩
theorem OwnO.of (h : Own X base e v l w) : OwnO X base v l w := by
  obtain ⟨xs, h1, h2⟩ := h.row
  have hcs := fun (g : Nat) (hg : v.ownBlock = some g) => h1.cells hg
  rcases h1.2 with ⟨hv, h0⟩ | ⟨g, cap, cur, hv, hb, hh, hnc, hcm, hsz, htk⟩
  · exact ⟨.inl ⟨none, hv, List.eq_nil_of_length_eq_zero h0, fun k hk => by rw [hv] at hk; cases hk⟩⟩
  · have hblk : Blk g (.cells cur e (0, 0)) w := hh
    refine ⟨.inr ⟨g, 0, cap, hv, hb, hblk.lt, hnc, hcm, fun j hj => ⟨?_, hblk.frozen _⟩, fun i x hi => ?_⟩⟩
    · rw [hblk.cell, Array.getElem?_eq_getElem (by omega)]; rfl
    · obtain ⟨ys, hr, hy⟩ := h2 i x hi
      refine ⟨ys, Rep.mono (fun b hb => ⟨⟨hb.1, hb.2.1, fun e => hb.2.2 (by rw [hv, e]; rfl)⟩, rfl⟩) hr, fun j u hu => ?_⟩
      have := hcs g (by rw [hv]; rfl) _ u (hy j u hu)
      rw [Addr.add_lit, Nat.zero_add] at this
      rw [Nat.zero_add]; exact this
theorem OwnO.nil : OwnO (α := α) X base (.slice none 0 0) [] w := ⟨.inl ⟨none, rfl, rfl, fun k hk => by cases hk⟩⟩
theorem OwnO.rowlt (h : OwnO X base v l w) : ∀ k, v.ownBlock = some k → base ≤ k ∧ k < w.heap.size := by
  rcases h.row with ⟨a, hv, _, h2⟩ | ⟨g, off, cap, hv, h1, h2, _⟩
  · exact h2
  · intro k hk
    rw [hv] at hk
    have : g = k := by simpa [Value.ownBlock] using hk
    subst this
    exact ⟨h1, h2⟩
theorem OwnO.form (h : OwnO X base v l w) : ∃ a c, v = .slice a l.length c ∧ l.length ≤ c ∧ c ≤ maxLen ∧ (a = none ∨ ∃ g off, a = some ⟨g, off, none⟩ ∨ c = 0) := by
  rcases h.row with ⟨a, hv, hl, _⟩ | ⟨g, off, cap, hv, _, _, h1, h2, _⟩
  · refine ⟨a, 0, by rw [hv, hl]; rfl, by rw [hl]; exact Nat.le_refl _, by unfold maxLen; omega, .inr ⟨0, 0, .inr rfl⟩⟩
  · exact ⟨_, _, hv, h1, h2, .inr ⟨g, off, .inl rfl⟩⟩
theorem OwnO.keep (h : OwnO X base v l w) (hs : w.heap.size ≤ w'.heap.size) (hk : ∀ k, k < w.heap.size → (¬ X k ∨ v.ownBlock = some k) → w'.heap[k]? = w.heap[k]?) : OwnO X base v l w' := by
  rcases h.row with ⟨a, hv, hl, h2⟩ | ⟨g, off, cap, hv, h1, h2, h3, h4, h5, h6⟩
  · exact ⟨.inl ⟨a, hv, hl, fun k hk => ⟨(h2 k hk).1, Nat.lt_of_lt_of_le (h2 k hk).2 hs⟩⟩⟩
  · have hg := hk g h2 (.inr (by rw [hv]; rfl))
    refine ⟨.inr ⟨g, off, cap, hv, h1, Nat.lt_of_lt_of_le h2 hs, h3, h4, fun j hj => ?_, h6.imp hg fun b hb => ⟨⟨Nat.lt_of_lt_of_le hb.1 hs, hb.2⟩, hk b hb.1 (.inl hb.2.1)⟩⟩⟩
    rw [cell_keep hg, World.frozen?_of_block (a := ⟨g, off + j, none⟩) hg]
    exact h5 j hj
theorem OwnO.go (h : OwnO X base v l w) (hb : Below w.heap.size w w') : OwnO X base v l w' := h.keep hb.size fun k hk _ => hb.block k hk
theorem OwnO.touch {S : Nat → Prop} (h : OwnO X base v l w) (ht : Touch S w w') (hS : ∀ k, k < w.heap.size → S k → X k ∧ v.ownBlock ≠ some k) : OwnO X base v l w' :=
  h.keep ht.size fun k hk hx => ht.block k hk fun hs => by
    have := hS k hk hs
    rcases hx with hx | hx
    · exact hx this.1
    · exact this.2 hx
theorem OwnO.grown {r : Option Nat} (h : OwnO X base v l w) (ht : w.grownBy w' r) (hS : ∀ k, r = some k → X k ∧ v.ownBlock ≠ some k) : OwnO X base v l w' :=
  h.keep ht.size fun k hk hx => ht.block k hk fun hs => by
    have := hS k hs.symm
    rcases hx with hx | hx
    · exact hx this.1
    · exact this.2 hx
theorem OwnO.more {X' : Nat → Prop} (h : OwnO X base v l w) (hX : ∀ k, k < w.heap.size → X' k → X k) : OwnO X' base v l w := by
  rcases h.row with ⟨a, hv, hl, h2⟩ | ⟨g, off, cap, hv, h1, h2, h3, h4, h5, h6⟩
  · exact ⟨.inl ⟨a, hv, hl, h2⟩⟩
  · exact ⟨.inr ⟨g, off, cap, hv, h1, h2, h3, h4, h5, h6.imp rfl fun b hb => ⟨⟨hb.1, fun hx => hb.2.1 (hX b hb.1 hx), hb.2.2⟩, rfl⟩⟩⟩
theorem OwnO.low {base' : Nat} (h : OwnO X base v l w) (hb : base' ≤ base) : OwnO X base' v l w := by
  rcases h.row with ⟨a, hv, hl, h2⟩ | ⟨g, off, cap, hv, h1, h2⟩
  · exact ⟨.inl ⟨a, hv, hl, fun k hk => ⟨Nat.le_trans hb (h2 k hk).1, (h2 k hk).2⟩⟩⟩
  · exact ⟨.inr ⟨g, off, cap, hv, by omega, h2⟩⟩
/-- the slice reads; what it reaches lies neither in X nor below base' -/
theorem OwnO.rd (h : OwnO X base v l w) {A : Nat → Prop} (hA : ∀ b, b < w.heap.size → ¬ X b → A b) (hR : ∀ k, v.ownBlock = some k → A k) : ∃ a c, v = .slice a l.length c ∧ RdS A w l a l.length c := by
  rcases h.row with ⟨a, hv, hl, h2⟩ | ⟨g, off, cap, hv, h1, h2, h3, h4, h5, h6⟩
  · subst hl
    exact ⟨a, 0, hv, RdS.empty' _ _ _⟩
  · refine ⟨_, _, hv, rfl, h3, h4, (fun h => by cases h), fun _ => ⟨g, off, rfl, hR g (by rw [hv]; rfl), h2, h6.imp rfl fun b hb => ⟨hA b hb.1 hb.2.1, rfl⟩⟩⟩
theorem OwnO.drop_in {g off n c k : Nat} (h : OwnO X base (.slice (some ⟨g, off, none⟩) n c) l w) (hk : k ≤ n) (hc : k < c) : OwnO X base (.slice (some ⟨g, off + k * Rep.n α, none⟩) (n - k) (c - k)) (l.drop k) w := by
  rcases h.row with ⟨a, hv, hl, h2⟩ | ⟨g', off', cap, hv, h1, h2, h3, h4, h5, h6⟩
  · injection hv with _ _ h3
    omega
  · injection hv with e1 e2 e3
    injection e1 with e1
    injection e1 with e4 e5
    subst e2 e3 e4 e5
    refine ⟨.inr ⟨g, off + k * Rep.n α, c - k, by rw [List.length_drop], h1, h2, by rw [List.length_drop]; omega, by omega, fun j hj => ?_, fun i x hi => ?_⟩⟩
    · have hj2 : k * Rep.n α + j < c * Rep.n α := by
        have : k * Rep.n α + (c - k) * Rep.n α = c * Rep.n α := by rw [← Nat.add_mul, show k + (c - k) = c from by omega]
        omega
      have := h5 (k * Rep.n α + j) hj2
      rwa [← Nat.add_assoc] at this
    · rw [List.getElem?_drop] at hi
      obtain ⟨xs, r1, r2⟩ := h6 (k + i) x hi
      refine ⟨xs, r1, fun j u hu => ?_⟩
      have := r2 j u hu
      rwa [Nat.add_mul, ← Nat.add_assoc] at this
theorem OwnO.drop_all {a : Option Addr} {n c k : Nat} (h : OwnO X base (.slice a n c) l w) (hk : k = n) : OwnO X base (.slice a 0 0) (l.drop k) w := by
  have hl : l.drop k = [] := by
    obtain ⟨a', c', hv, _⟩ := h.form
    injection hv with _ h2 _
    exact List.drop_of_length_le (by omega)
  exact ⟨.inl ⟨a, rfl, hl, fun j hj => h.rowlt j (by cases a <;> exact hj)⟩⟩
end
/-- one element more -/
theorem OwnO.append {α : Type} [Rep α] {P : Program} {X : Nat → Prop} {base : Nat} {v : Value} {l : List α} {w : World} (h : OwnO X base v l w) (hbase : base ≤ w.heap.size)
    (t ty e : TypeId) (i : TypeInfo) (z : Value) (bytes : Nat) (ht : P.underlying t = some (.slice e)) (hi : P.info? e = some i) (hz : i.zero = some z) (hsize : i.size = Rep.n α) (hby : i.bytes = bytes) (hzs : z.cells.size = Rep.n α)
    (ad : Addr) (c : Nat) (ys : List Value) (y : α) (hnews : ∀ j u, ys[j]? = some u → w.cell? (ad.add j) = some u) (hy : Rep.rd (fun b => b < w.heap.size ∧ ¬ X b ∧ v.ownBlock ≠ some b) w y ys)
    (h63 : l.length + 1 ≤ maxLen) (hbytes : (l.length + 1) * bytes ≤ 140737488355328) :
    ∃ g off cap w', (Builtin.append_ #[t, t] ty #[v, .slice (some ad) 1 c]).run P w = .ok (.slice (some ⟨g, off, none⟩) (l.length + 1) cap) w' ∧ OwnO X base (.slice (some ⟨g, off, none⟩) (l.length + 1) cap) (l ++ [y]) w' ∧ w.grownBy w' v.ownBlock ∧ (v.ownBlock = some g ∨ w.heap.size ≤ g) ∧ l.length + 1 ≤ cap ∧ cap ≤ maxLen ∧ g < w'.heap.size := by
  have hyl := Rep.len hy
  have hyo := Rep.one hy
  have hl1 : (l ++ [y]).length = l.length + 1 := by simp
  -- a row of its own, new
  have key : ∀ v' w' (xs : List Value), w'.ownsRow w.heap.size e (Rep.n α) v' (l.length + 1) (xs ++ ys) → w.grownBy w' none → xs.length = l.length * Rep.n α →
      (∀ i x, l[i]? = some x → ∃ zs, Rep.rd (fun b => b < w.heap.size ∧ ¬ X b) w x zs ∧ ∀ j u, zs[j]? = some u → xs[i * Rep.n α + j]? = some u) →
      ∃ g off cap, v' = .slice (some ⟨g, off, none⟩) (l.length + 1) cap ∧ OwnO X base v' (l ++ [y]) w' ∧ w.heap.size ≤ g ∧ l.length + 1 ≤ cap ∧ cap ≤ maxLen ∧ g < w'.heap.size := by
    intro v' w' xs ho hg hxl hx
    rcases ho.2 with ⟨_, h0⟩ | ⟨g, cap, cur, hv, hb, hh, hnc, hcm, hsz, htk⟩
    · omega
    · have hblk : Blk g (.cells cur e (0, 0)) w' := hh
      have hcs := fun j u hu => ho.cells (g := g) (by rw [hv]; rfl) j u hu
      refine ⟨g, 0, cap, hv, ⟨.inr ⟨g, 0, cap, by rw [hl1]; exact hv, by omega, hblk.lt, by rw [hl1]; exact hnc, hcm, fun j hj => ⟨?_, hblk.frozen _⟩, fun i x hi => ?_⟩⟩, hb, hnc, hcm, hblk.lt⟩
      · rw [hblk.cell, Array.getElem?_eq_getElem (by omega)]; rfl
      · have hgo : ∀ b, (b < w.heap.size ∧ ¬ X b) → (b < w'.heap.size ∧ ¬ X b ∧ b ≠ g) ∧ w'.heap[b]? = w.heap[b]? := fun b hb2 =>
          ⟨⟨Nat.lt_of_lt_of_le hb2.1 hg.size, hb2.2, by omega⟩, hg.block b hb2.1 (by simp)⟩
        by_cases hil : i < l.length
        · rw [List.getElem?_append_left hil] at hi
          obtain ⟨zs, r1, r2⟩ := hx i x hi
          refine ⟨zs, Rep.mono hgo r1, fun j u hu => ?_⟩
          have h3 := r2 j u hu
          have := hcs (i * Rep.n α + j) u (by rw [List.getElem?_append_left (List.getElem?_eq_some_iff.1 h3).1]; exact h3)
          rw [Addr.add_lit, Nat.zero_add] at this
          rw [Nat.zero_add]; exact this
        · rw [List.getElem?_append_right (by omega)] at hi
          have hi0 : i = l.length := by
            have := (List.getElem?_eq_some_iff.1 hi).1
            simp at this; omega
          subst hi0
          simp at hi
          subst hi
          refine ⟨ys, Rep.mono (fun b hb2 => hgo b ⟨hb2.1, hb2.2.1⟩) hy, fun j u hu => ?_⟩
          have := hcs (l.length * Rep.n α + j) u (by rw [List.getElem?_append_right (by omega), hxl, Nat.add_sub_cancel_left]; exact hu)
          rw [Addr.add_lit, Nat.zero_add] at this
          rw [Nat.zero_add]; exact this
  rcases h.row with ⟨a, hv, hl, h2⟩ | ⟨g, off, cap, hv, h1, h2, h3, h4, h5, h6⟩
  · subst hl hv
    cases a with
    | none =>
      obtain ⟨v', w', hrun, r1, r2, _⟩ := run_append_own (P := P) w w.heap.size t ty e i z (Rep.n α) bytes ht hi hz hsize hby hzs Rep.pos (.slice none 0 0) 0 [] (World.ownsRow_nil _ _ _ _) ad 1 c ys (by omega) hnews hyo (by simpa using h63) (by simpa using hbytes) (Nat.le_refl _)
      have r2' : w.grownBy w' none := r2
      obtain ⟨g, off, cap, rfl, k1, k2, k3, k4, k5⟩ := key v' w' [] (by simpa using r1) r2' (by simp) (fun i x hi => by simp at hi)
      exact ⟨g, off, cap, w', hrun, k1, r2, .inr k2, k3, k4, k5⟩
    | some a' =>
      obtain ⟨v', w', hrun, r1, r2⟩ := run_append_arg_grows (P := P) (w := w) t ty e i z (Rep.n α) bytes ht hi hz hsize hby hzs Rep.pos a' 0 0 [] (by simp) (by intro _ _ h'; simp at h') ad 1 c ys (by omega) hnews (by omega) (by simpa using h63) (by simpa using hbytes)
      obtain ⟨g, off, cap, rfl, k1, k2, k3, k4, k5⟩ := key v' w' [] (by simpa using r1) r2 (by simp) (fun i x hi => by simp at hi)
      exact ⟨g, off, cap, w', hrun, k1, ⟨r2.os, r2.tape, r2.output, r2.size, fun k hk _ => r2.block k hk (by simp)⟩, .inr k2, k3, k4, k5⟩
  · subst hv
    by_cases hr : l.length + 1 ≤ cap
    · have hmul : l.length * Rep.n α + Rep.n α ≤ cap * Rep.n α := by
        have := Nat.mul_le_mul_right (Rep.n α) hr
        rwa [Nat.add_mul, Nat.one_mul] at this
      have hrun := run_append_room_cells (P := P) (w := w) t ty e i ht hi g off l.length cap ad 1 c ys (by rw [hsize]; omega) hnews hyo hr
        (fun j hj => by rw [hsize, Nat.add_assoc]; exact (h5 _ (by omega)).1) (fun j hj => by rw [hsize, Nat.add_assoc]; exact (h5 _ (by omega)).2)
      rw [hsize] at hrun
      have hgr := grownBy_setCells w g (off + l.length * Rep.n α) ys
      have hsome : ∀ j, j < ys.length → (w.cell? ⟨g, off + l.length * Rep.n α + j, none⟩).isSome = true := fun j hj => by rw [Nat.add_assoc]; exact (h5 _ (by omega)).1
      refine ⟨g, off, cap, _, hrun, ⟨.inr ⟨g, off, cap, by rw [hl1], h1, by rw [size_setCells']; exact h2, by rw [hl1]; exact hr, h4, fun j hj => ?_, fun i' x hi' => ?_⟩⟩, hgr, .inl rfl, hr, h4, by rw [size_setCells']; exact h2⟩
      · refine ⟨?_, by rw [World.frozen?_setCells]; exact (h5 j hj).2⟩
        by_cases hin : l.length * Rep.n α ≤ j ∧ j < l.length * Rep.n α + ys.length
        · have := World.cell?_setCells_in g ys (off + l.length * Rep.n α) w hsome (j - l.length * Rep.n α) (by omega)
          rw [show off + l.length * Rep.n α + (j - l.length * Rep.n α) = off + j from by omega] at this
          rw [this]; rfl
        · rw [World.cell?_setCells_out g ys _ w ⟨g, off + j, none⟩ (fun _ _ => by show off + j < _ ∨ _ ≤ off + j; omega)]
          exact (h5 j hj).1
      · have hgo : ∀ b, (b < w.heap.size ∧ ¬ X b ∧ b ≠ g) → (b < (w.setCells g (off + l.length * Rep.n α) ys).heap.size ∧ ¬ X b ∧ b ≠ g) ∧ (w.setCells g (off + l.length * Rep.n α) ys).heap[b]? = w.heap[b]? := fun b hb2 =>
          ⟨⟨by rw [size_setCells']; exact hb2.1, hb2.2⟩, World.heap_setCells_other w g _ ys hb2.1 hb2.2.2⟩
        by_cases hil : i' < l.length
        · rw [List.getElem?_append_left hil] at hi'
          obtain ⟨zs, r1, r2⟩ := h6 i' x hi'
          refine ⟨zs, Rep.mono hgo r1, fun j u hu => ?_⟩
          have hjl : j < Rep.n α := by have := (List.getElem?_eq_some_iff.1 hu).1; have := Rep.len r1; omega
          have hmm : i' * Rep.n α + Rep.n α ≤ l.length * Rep.n α := by
            have := Nat.mul_le_mul_right (Rep.n α) (show i' + 1 ≤ l.length from hil)
            rwa [Nat.add_mul, Nat.one_mul] at this
          rw [World.cell?_setCells_out g ys _ w ⟨g, off + i' * Rep.n α + j, none⟩ (fun _ _ => .inl (by show off + i' * Rep.n α + j < _; omega))]
          exact r2 j u hu
        · rw [List.getElem?_append_right (by omega)] at hi'
          have hi0 : i' = l.length := by
            have := (List.getElem?_eq_some_iff.1 hi').1
            simp at this; omega
          subst hi0
          simp at hi'
          subst hi'
          refine ⟨ys, Rep.mono (fun b hb2 => hgo b ⟨hb2.1, hb2.2.1, fun e' => hb2.2.2 (by rw [e']; rfl)⟩) hy, fun j u hu => ?_⟩
          have hj := (List.getElem?_eq_some_iff.1 hu).1
          have := World.cell?_setCells_in g ys (off + l.length * Rep.n α) w hsome j hj
          rw [this, ← hu, List.getElem?_eq_getElem hj]
    · -- all cells of the slice as it stands
      have hcell : ∀ j, j < l.length * Rep.n α → ∃ u, w.cell? ⟨g, off + j, none⟩ = some u := fun j hj => by
        have hle : l.length * Rep.n α ≤ cap * Rep.n α := Nat.mul_le_mul_right _ h3
        have := (h5 j (by omega)).1
        exact Option.isSome_iff_exists.1 this
      have hlist : ∃ olds : List Value, olds.length = l.length * Rep.n α ∧ ∀ j, j < l.length * Rep.n α → w.cell? ⟨g, off + j, none⟩ = olds[j]? := by
        refine ⟨(List.range (l.length * Rep.n α)).map fun j => (w.cell? ⟨g, off + j, none⟩).getD undef, by simp, fun j hj => ?_⟩
        obtain ⟨u, hu⟩ := hcell j hj
        rw [List.getElem?_map, List.getElem?_range hj]
        simp [hu]
      obtain ⟨olds, ho1, ho2⟩ := hlist
      obtain ⟨v', w', hrun, r1, r2⟩ := run_append_arg_grows (P := P) (w := w) t ty e i z (Rep.n α) bytes ht hi hz hsize hby hzs Rep.pos ⟨g, off, none⟩ l.length cap olds ho1 (fun j u hu => by rw [Addr.add_lit, ho2 j (by have := (List.getElem?_eq_some_iff.1 hu).1; omega)]; exact hu) ad 1 c ys (by omega) hnews (by omega) h63 hbytes
      obtain ⟨g2, off2, cap2, rfl, k1, k2, k3, k4, k5⟩ := key v' w' olds r1 r2 ho1 (fun i x hi' => by
        obtain ⟨zs, q1, q2⟩ := h6 i x hi'
        refine ⟨zs, Rep.mono (fun b hb2 => ⟨⟨hb2.1, hb2.2.1⟩, rfl⟩) q1, fun j u hu => ?_⟩
        have hjl : j < Rep.n α := by have := (List.getElem?_eq_some_iff.1 hu).1; have := Rep.len q1; omega
        have hil := (List.getElem?_eq_some_iff.1 hi').1
        have hmm : i * Rep.n α + Rep.n α ≤ l.length * Rep.n α := by
          have := Nat.mul_le_mul_right (Rep.n α) (show i + 1 ≤ l.length from hil)
          rwa [Nat.add_mul, Nat.one_mul] at this
        rw [← ho2 _ (by omega), ← Nat.add_assoc]
        exact q2 j u hu)
      exact ⟨g2, off2, cap2, w', hrun, k1, ⟨r2.os, r2.tape, r2.output, r2.size, fun k hk _ => r2.block k hk (by simp)⟩, .inr k2, k3, k4, k5⟩
theorem wpList_append_oneO {α : Type} [Rep α] {P : Program} {X : Nat → Prop} {w : World} {ops : Array Oper} {rest : List Oper} {o : Oper} {a : Act} {Q : Exit → Act → World → Prop} (hgd : o.guard = none) (s x : Operand) (t : TypeId)
    (ho : o.op = .call { callee := .builtin .append, args := #[s, x], argTypes := #[t, t] })
    (base : Nat) (e : TypeId) (i : TypeInfo) (z : Value) (bytes : Nat) (ht : P.underlying t = some (.slice e)) (hi : P.info? e = some i) (hz : i.zero = some z)
    (hsize : i.size = Rep.n α) (hby : i.bytes = bytes) (hzs : z.cells.size = Rep.n α)
    (v : Value) (l : List α) (hs : a.eval s = v) (hown : OwnO X base v l w)
    (gb c tb : Nat) (ys : List Value) (y : α) (hx : a.eval x = .slice (some ⟨gb, 0, none⟩) 1 c) (hblk : Blk gb (.cells ys.toArray tb (0, 0)) w) (hy : Rep.rd (fun b => b < w.heap.size ∧ ¬ X b ∧ v.ownBlock ≠ some b) w y ys)
    (h63 : l.length + 1 ≤ maxLen) (hbytes : (l.length + 1) * bytes ≤ 140737488355328) (hbase : base ≤ w.heap.size)
    (h : ∀ g off cap w', OwnO X base (.slice (some ⟨g, off, none⟩) (l.length + 1) cap) (l ++ [y]) w' → w.grownBy w' v.ownBlock → (v.ownBlock = some g ∨ w.heap.size ≤ g) → g < w'.heap.size → wpList P ops Q rest (a.put o.dst (.slice (some ⟨g, off, none⟩) (l.length + 1) cap)) w') : wpList P ops Q (o :: rest) a w := by
  refine wpList_plain hgd fun K hK' => ?_
  obtain ⟨g, off, cap, w', hrun, r1, r2, r3, _, _, r4⟩ := hown.append (P := P) hbase t o.type e i z bytes ht hi hz hsize hby hzs ⟨gb, 0, none⟩ c ys y (news_at hblk) hy h63 hbytes
  unfold Oper.wp
  simp [execOp, ho, resolve, invoke, builtin, hs, hx, hrun, Result.andThen]
  exact hK' _ _ (h g off cap w' r1 r2 r3 r4)
end Go.Proofs.YtkbfhgcjimfgkaaDoor

set_option linter.unusedVariables false
set_option linter.unusedSimpArgs false
namespace Go.Proofs.YtkbfhgcjimfgkaaDoor
open Go.RowKit

/-- the children of a node, among the first k -/
def kidsTo (t : List Int) (me : Int) (k : Nat) : List Int := ((List.range k).filter (fun i => t.getD i 0 == me)).map Int.ofNat
def nbsAhead (t : List Int) (me : Int) : List Int := if 0 < me then [t.getD me.toNat 0] else []
def nbs (t : List Int) (me : Int) : List Int := nbsAhead t me ++ kidsTo t me t.length
theorem kidsTo_succ (t : List Int) (me : Int) (k : Nat) : kidsTo t me (k + 1) = kidsTo t me k ++ (if t.getD k 0 == me then [(k : Int)] else []) := by
  unfold kidsTo
  rw [List.range_succ, List.filter_append, List.map_append]
  by_cases h : t.getD k 0 == me
  · rw [if_pos h, List.filter_cons, if_pos h]; rfl
  · rw [if_neg h, List.filter_cons, if_neg h]; rfl
theorem kidsTo_len (t : List Int) (me : Int) (k : Nat) : (kidsTo t me k).length ≤ k := by
  unfold kidsTo
  rw [List.length_map]
  have := List.length_filter_le (fun i => t.getD i 0 == me) (List.range k)
  simpa using this
theorem nbsAhead_len (t : List Int) (me : Int) : (nbsAhead t me).length ≤ 1 := by unfold nbsAhead; split <;> simp
theorem ints_app {w : World} {base : Nat} {v : Value} {l : List Int} (h : OwnO (fun _ => False) base v l w) : ∃ a c, v = .slice a l.length c := by
  obtain ⟨a, c, hv, -⟩ := h.form
  exact ⟨a, c, hv⟩
theorem OwnO.rdI {w : World} {base : Nat} {v : Value} {l : List Int} (h : OwnO (fun _ => False) base v l w) : ∃ a c, v = .slice a l.length c ∧ RdS (· < w.heap.size) w l a l.length c := h.rd (fun b hb _ => hb) (fun k hk => (h.rowlt k hk).2)
theorem rd_int {A : Nat → Prop} {w : World} {x : Int} (h : I64 x) : Rep.rd A w x [.int .i64 x] := ⟨rfl, h⟩
set_option maxRecDepth 100000 in
set_option maxHeartbeats 1000000 in
theorem nbs_any (t : List Int) (a : Option Addr) (n c : Nat) (m : Nat) (w : World) (hr : RdS (· < w.heap.size) w t a n c) (h1 : m < n) (hn : n ≤ 1000) :
    Calls Tryd.prog 26 #[.slice a n c, .int .i64 (m : Int)] w fun e w' => ∃ v, e = .returned v ∧ OwnO (fun _ => False) w.heap.size v (nbs t (m : Int)) w' ∧ Below w.heap.size w w' := by
  obtain ⟨g, off, rfl, hg, hgs, hcl⟩ := hr.int (by omega)
  have hnl := hr.1
  have hnc := hr.2.1
  have hcm := hr.2.2.1
  unfold maxLen at hcm
  obtain ⟨i0, hi, hz0, hz1, hz2⟩ := info_parts info3
  have Hcl := Lib.hid hcl
  have Hi := Lib.hid hi
  have Hz0 := Lib.hid hz0
  have Hz1 := Lib.hid hz1
  have Hz2 := Lib.hid hz2
  have Hnl := Lib.hid hnl
  have hn' : (n : Int) ≤ 1000 := by omega
  have hm' : (m : Int) < (n : Int) := by omega
  have hm0 : (0 : Int) ≤ (m : Int) := by omega
  clear hr hcl hi hz0 hz1 hz2 hnl
  go_enter Tryd.func26, Tryd.ntmps26
  go_upto_if 9 with fail
  obtain ⟨z0, hz0⟩ : ∃ z, z = Value.slice none 0 0 := ⟨_, rfl⟩
  rw [← hz0]
  have Z0 : Hid (∀ W, OwnO (fun _ => False) w.heap.size z0 ([] : List Int) W) := fun W => by rw [hz0]; exact OwnO.nil
  have Z1 : Hid (z0.ownBlock = none) := by rw [hz0]; rfl
  clear hz0
  generalize hB : decide (0 < m) = B
  have HB := Lib.hid hB
  clear hB
  go_cut [5] from 10 to 16 (fun out W => OwnO (fun _ => False) w.heap.size out (nbsAhead t (m : Int)) W ∧ Below w.heap.size w W)
  case first =>
    cases B with
    | true =>
      have h0 : 0 < m := by simpa using HB.out
      have h0' : (0 : Int) < (m : Int) := by omega
      obtain ⟨ht64, hc⟩ := Hcl.out m (by have := Hnl.out; omega)
      have hE : nbsAhead t (m : Int) = [t[m]'(by have := Hnl.out; omega)] := by
        unfold nbsAhead
        rw [if_pos h0']
        have : m < t.length := by have := Hnl.out; omega
        simp [List.getD_eq_getElem?_getD, this]
      generalize t[m]'(by have := Hnl.out; omega) = x at *
      have Hx := Lib.hid ht64
      have HE := Lib.hid hE
      clear hE ht64
      go_wp2_with (at_builtin; refine wpList_append_oneO rfl _ _ _ (by rfl) w.heap.size 3 i0 _ 8 Tryd.underlying22 Hi.out Hz0.out Hz1.out Hz2.out rfl z0 ([] : List Int) (by rfl) (Z0.out _) w.heap.size 1 _ [.int .i64 x] x (by rfl) (Blk.new w _) (rd_int Hx.out) (by unfold maxLen; simp) (by simp) (by simp) ?_)
      intro g2 o2 cap w2 hown hgrow hat hlt
      have HO := Lib.hid hown
      have HB := Lib.hid (((Below.refl w.heap.size w).alloc (Nat.le_refl _) (.cells #[.int .i64 x] 3)).grown hgrow (by simp) (fun k hk => by rw [Z1.out] at hk; cases hk))
      clear hown hgrow
      go_wp2_with fail
      go_meet
      case rel => rw [HE.out]; exact ⟨HO.out, HB.out⟩
    | false =>
      have h0' : ¬ (0 : Int) < (m : Int) := by have := HB.out; simp at this; omega
      have hE : nbsAhead t (m : Int) = [] := by unfold nbsAhead; rw [if_neg h0']
      have HE := Lib.hid hE
      clear hE
      go_wp2_with fail
      go_meet
      case rel => rw [HE.out]; exact ⟨Z0.out _, Below.refl _ _⟩
  case rest =>
    obtain ⟨ho, hb⟩ := hcut
    have HO := Lib.hid ho
    have HB := Lib.hid hb
    clear ho hb
    obtain ⟨oa, oc, hov⟩ := ints_app HO.out
    have hk0 : kidsTo t (m : Int) 0 = [] := rfl
    have Hk0 := Lib.hid hk0
    have Hov := Lib.hid hov
    clear hov hk0
    go_wp2_with fail
    go_loopw [5, 19] (fun out vi wr => ∃ k : Nat, k ≤ n ∧ vi = .int .i64 (k : Int) ∧ OwnO (fun _ => False) w.heap.size out (nbsAhead t (m : Int) ++ kidsTo t (m : Int) k) wr ∧ Below w.heap.size w wr) (fun _ vi _ => n - (intOf vi).toNat)
    case atStart => exact ⟨0, by omega, rfl, by rw [Hk0.out, List.append_nil]; exact HO.out, HB.out⟩
    case round =>
      obtain ⟨k, hk, rfl, ho, hb⟩ := hrel
      have HO2 := Lib.hid ho
      have HB2 := Lib.hid hb
      have hks := kidsTo_succ t (m : Int) k
      have hkl := kidsTo_len t (m : Int) k
      have hal := nbsAhead_len t (m : Int)
      obtain ⟨xa, xc, rfl⟩ := ints_app HO2.out
      have Hkl : Hid ((nbsAhead t (m : Int) ++ kidsTo t (m : Int) k).length ≤ k + 1) := by unfold Hid; rw [List.length_append]; omega
      have Hks : Hid (nbsAhead t (m : Int) ++ kidsTo t (m : Int) (k + 1) = (nbsAhead t (m : Int) ++ kidsTo t (m : Int) k) ++ (if t.getD k 0 == (m : Int) then [(k : Int)] else [])) := by unfold Hid; rw [hks, List.append_assoc]
      have Hend : Hid (k = n → nbsAhead t (m : Int) ++ kidsTo t (m : Int) k = nbs t (m : Int)) := by
        intro e
        unfold nbs
        rw [e, Hnl.out]
      generalize nbsAhead t (m : Int) ++ kidsTo t (m : Int) k = L at *
      clear ho hb hkl hal HO HB hks
      by_cases hlt : k < n
      · have hlt' : (k : Int) < (n : Int) := by omega
        have hkt : k < t.length := by have := Hnl.out; omega
        obtain ⟨hp64, hpc⟩ := Hcl.out k hkt
        have hgd : t.getD k 0 = t[k] := by simp [List.getD_eq_getElem?_getD, hkt]
        rw [hgd] at Hks
        generalize t[k] = p at *
        have hpc2 := (bcell HB2.out).1 g (off + k) hgs
        rw [hpc] at hpc2
        have hbz := HB2.out.size
        have hk64 : I64 (k : Int) := by unfold I64; omega
        have Hk64 := Lib.hid hk64
        clear hpc hgd hp64 hk64
        by_cases hpm : p = (m : Int)
        · have hb : (p == (m : Int)) = true := by simpa using hpm
          have HKS : Hid (nbsAhead t (m : Int) ++ kidsTo t (m : Int) (k + 1) = L ++ [(k : Int)]) := by unfold Hid; rw [Hks.out, if_pos hb]
          subst hpm
          go_wp2_with (at_builtin; refine wpList_append_oneO rfl _ _ _ (by rfl) w.heap.size 3 i0 _ 8 Tryd.underlying22 Hi.out Hz0.out Hz1.out Hz2.out rfl (.slice xa L.length xc) L (by rfl) (HO2.out.go ((Below.refl _ wr).alloc (Nat.le_refl _) _)) wr.heap.size 1 _ [.int .i64 (k : Int)] (k : Int) (by rfl) (Blk.new wr _) (rd_int Hk64.out) (by have := Hkl.out; unfold maxLen; omega) (by have := Hkl.out; omega) (by simp; omega) ?_)
          intro g2 o2 cap w2 hown hgrow hat hlt2
          have HO3 := Lib.hid hown
          have HB3 := Lib.hid ((HB2.out.alloc hbz (.cells #[.int .i64 (k : Int)] 3)).grown hgrow (by simp; omega) (fun k hk => (HO2.out.rowlt k hk).1))
          have Hat := Lib.hid hat
          clear hown hgrow hat
          go_wp2_with fail
          go_roundw
          case rel => exact ⟨k + 1, by omega, by push_cast; rfl, by rw [HKS.out]; exact HO3.out, HB3.out⟩
          case measure => simp [intOf]; omega
        · have hb : (p == (m : Int)) = false := by simpa using hpm
          have HKS : Hid (nbsAhead t (m : Int) ++ kidsTo t (m : Int) (k + 1) = L) := by unfold Hid; rw [Hks.out, if_neg (by rw [hb]; simp), List.append_nil]
          go_wp2_with fail
          go_roundw
          case rel => exact ⟨k + 1, by omega, by push_cast; rfl, by rw [HKS.out]; exact HO2.out, HB2.out⟩
          case measure => simp [intOf]; omega
      · have hkn : k = n := by omega
        have HE : Hid (L = nbs t (m : Int)) := Hend.out hkn
        have hlt' : ¬ ((k : Int) < (n : Int)) := by omega
        go_wp2_with fail
        go_ret
        exact ⟨_, rfl, by rw [← HE.out]; exact HO2.out, HB2.out⟩
end Go.Proofs.YtkbfhgcjimfgkaaDoor

set_option linter.unusedVariables false
set_option linter.unusedSimpArgs false
namespace Go.Proofs.YtkbfhgcjimfgkaaDoor
open Go.RowKit

def num (x : Int) : Bool := decide (0 ≤ x) && decide (x ≤ 1048576)
theorem number_any (x : Int) (w : World) (_ : I64 x) :
    Calls Tryd.prog 63 #[.int .i64 x] w fun e w' => e = .returned (.bool (num x)) ∧ w = w' := by
  unfold num
  by_cases h0 : 0 ≤ x
  · by_cases h1 : x ≤ 1048576
    · have d0 : decide (0 ≤ x) = true := by simpa using h0
      have d1 : decide (x ≤ 1048576) = true := by simpa using h1
      go_enter Tryd.func63, Tryd.ntmps63
      go_wp2_with fail
      go_ret
      exact ⟨by simp [d0, d1], rfl⟩
    · have d0 : decide (0 ≤ x) = true := by simpa using h0
      have d1 : decide (x ≤ 1048576) = false := by simpa using h1
      go_enter Tryd.func63, Tryd.ntmps63
      go_wp2_with fail
      go_ret
      exact ⟨by simp [d0, d1], rfl⟩
  · have d0 : decide (0 ≤ x) = false := by simpa using h0
    go_enter Tryd.func63, Tryd.ntmps63
    go_wp2_with fail
    go_ret
    exact ⟨by simp [d0], rfl⟩

def frameOdd (k h e : Int) (n : Nat) (t : Str) : Bool := ((k == 1) == decide (0 < e)) || (!(k == 1) && decide (0 < n)) || ((k == 3) && decide (0 < h)) || (!(k == 3) && !(emptyS t))
def checkFrame (k h e : Int) (o : Op) (t : Str) : Int :=
  if k < 1 ∨ 3 < k then 3 else if num h = false ∨ num e = false then 2 else if check o ≠ 0 then check o else if checkText t ≠ 0 then checkText t else if frameOdd k h e o.length t = true then 4 else 0

set_option maxRecDepth 100000 in
set_option maxHeartbeats 2000000 in
theorem checkFrame_any (A : Nat → Prop) (k h e : Int) (o : Op) (t : Str) (a : Option Addr) (n c : Nat) (w : World) (hg : Good w) (hA : ∀ b, A b → b < w.heap.size) (hr : RdS A w o a n c) (hk : I64 k) (hh : I64 h) (he : I64 e) (ht : t.size ≤ strMax) :
    Calls Tryd.prog 65 #[.agg #[.int .i64 k, .int .i64 h, .int .i64 e, .slice a n c, .string t]] w fun ee w' => ee = .returned (.int .i64 (checkFrame k h e o t)) ∧ Below w.heap.size w w' := by
  have hn : o.length = n := hr.1.symm
  have hn2 : n ≤ maxLen := Nat.le_trans hr.2.1 hr.2.2.1
  unfold maxLen at hn2
  generalize hu : checkFrame k h e o t = u
  unfold checkFrame at hu
  rw [hn] at hu
  have HC := Lib.hid (fun W (hb : Below w.heap.size w W) => check_any A o a n c W (hg.below' hb) (fun b hb' => Nat.lt_of_lt_of_le (hA b hb') hb.size) (hr.below hA hb))
  have HT := Lib.hid (fun W (hb : Below w.heap.size w W) => checkText_any t W (hg.below' hb) ht)
  have HH := Lib.hid (fun W => number_any h W hh)
  have HE := Lib.hid (fun W => number_any e W he)
  clear hr hn ht
  unfold I64 at hk hh he
  generalize check o = co at *
  generalize checkText t = ct at *
  generalize num h = nh at *
  generalize num e = ne at *
  have Hu := Lib.hid hu
  clear hu
  by_cases k1 : k < 1
  · have d : decide (k < 1) = true := by simpa using k1
    have hu := Hu.out
    rw [if_pos (.inl k1)] at hu
    subst hu
    clear Hu
    go_enter Tryd.func65, Tryd.ntmps65
    go_wp2_with fail
    go_ret
    exact ⟨rfl, by (repeat (first | exact Below.refl _ _ | assumption | (refine Below.drew ?_) | (refine below_drewN ?_ _) | (refine Below.alloc ?_ (by first | (simp; done) | (simp; omega) | omega) _) | (refine Below.setCell ?_ (by first | (simp; done) | (simp; omega) | omega) _) | (refine Below.trans ?_ (Below.mono (by assumption) (by first | (simp; done) | (simp; omega) | omega)))))⟩
  by_cases k3 : 3 < k
  · have d : decide (k < 1) = false := by simpa using k1
    have d3 : decide (3 < k) = true := by simpa using k3
    have hu := Hu.out
    rw [if_pos (.inr k3)] at hu
    subst hu
    clear Hu
    go_enter Tryd.func65, Tryd.ntmps65
    go_wp2_with fail
    go_ret
    exact ⟨rfl, by (repeat (first | exact Below.refl _ _ | assumption | (refine Below.drew ?_) | (refine below_drewN ?_ _) | (refine Below.alloc ?_ (by first | (simp; done) | (simp; omega) | omega) _) | (refine Below.setCell ?_ (by first | (simp; done) | (simp; omega) | omega) _) | (refine Below.trans ?_ (Below.mono (by assumption) (by first | (simp; done) | (simp; omega) | omega)))))⟩
  have d : decide (k < 1) = false := by simpa using k1
  have d3 : decide (3 < k) = false := by simpa using k3
  have hu := Hu.out
  rw [if_neg (by omega)] at hu
  clear Hu
  have Hu := Lib.hid hu
  clear hu
  go_enter Tryd.func65, Tryd.ntmps65
  go_wp2_with fail
  refine (HH.out _).mono ?_
  rintro ee w1 ⟨rfl, rfl⟩
  cases nh with
  | false =>
    have hu := Hu.out
    rw [if_pos (.inl rfl)] at hu
    subst hu
    clear Hu
    go_wp2_with fail
    go_ret
    exact ⟨rfl, by (repeat (first | exact Below.refl _ _ | assumption | (refine Below.drew ?_) | (refine below_drewN ?_ _) | (refine Below.alloc ?_ (by first | (simp; done) | (simp; omega) | omega) _) | (refine Below.setCell ?_ (by first | (simp; done) | (simp; omega) | omega) _) | (refine Below.trans ?_ (Below.mono (by assumption) (by first | (simp; done) | (simp; omega) | omega)))))⟩
  | true =>
  go_wp2_with fail
  refine (HE.out _).mono ?_
  rintro ee w1 ⟨rfl, rfl⟩
  cases ne with
  | false =>
    have hu := Hu.out
    rw [if_pos (.inr rfl)] at hu
    subst hu
    clear Hu
    go_wp2_with fail
    go_ret
    exact ⟨rfl, by (repeat (first | exact Below.refl _ _ | assumption | (refine Below.drew ?_) | (refine below_drewN ?_ _) | (refine Below.alloc ?_ (by first | (simp; done) | (simp; omega) | omega) _) | (refine Below.setCell ?_ (by first | (simp; done) | (simp; omega) | omega) _) | (refine Below.trans ?_ (Below.mono (by assumption) (by first | (simp; done) | (simp; omega) | omega)))))⟩
  | true =>
  have hu := Hu.out
  rw [if_neg (by simp)] at hu
  clear Hu
  go_wp2_with fail
  refine (HC.out _ (by (repeat (first | exact Below.refl _ _ | assumption | (refine Below.drew ?_) | (refine below_drewN ?_ _) | (refine Below.alloc ?_ (by first | (simp; done) | (simp; omega) | omega) _) | (refine Below.setCell ?_ (by first | (simp; done) | (simp; omega) | omega) _) | (refine Below.trans ?_ (Below.mono (by assumption) (by first | (simp; done) | (simp; omega) | omega))))))).mono ?_
  rintro ee w1 ⟨rfl, hb1⟩
  obtain ⟨hc1, hf1⟩ := bcell hb1
  have hB1 : Below w.heap.size w w1 := by (repeat (first | exact Below.refl _ _ | assumption | (refine Below.drew ?_) | (refine below_drewN ?_ _) | (refine Below.alloc ?_ (by first | (simp; done) | (simp; omega) | omega) _) | (refine Below.setCell ?_ (by first | (simp; done) | (simp; omega) | omega) _) | (refine Below.trans ?_ (Below.mono (by assumption) (by first | (simp; done) | (simp; omega) | omega)))))
  have hz1 : w.heap.size + 1 ≤ w1.heap.size := by have := hb1.size; simpa using this
  by_cases hco : co = 0
  case neg =>
    rw [if_pos hco] at hu
    subst hu
    have d4 : (co != 0) = true := by simpa using hco
    clear hco
    go_wp2_with fail
    go_ret
    exact ⟨rfl, by (repeat (first | exact Below.refl _ _ | assumption | (refine Below.drew ?_) | (refine below_drewN ?_ _) | (refine Below.alloc ?_ (by first | (simp; done) | (simp; omega) | omega) _) | (refine Below.setCell ?_ (by first | (simp; done) | (simp; omega) | omega) _) | (refine Below.trans ?_ (Below.mono (by assumption) (by first | (simp; done) | (simp; omega) | omega)))))⟩
  subst hco
  rw [if_neg (by simp)] at hu
  go_wp2_with fail
  refine (HT.out _ (by (repeat (first | exact Below.refl _ _ | assumption | (refine Below.drew ?_) | (refine below_drewN ?_ _) | (refine Below.alloc ?_ (by first | (simp; done) | (simp; omega) | omega) _) | (refine Below.setCell ?_ (by first | (simp; done) | (simp; omega) | omega) _) | (refine Below.trans ?_ (Below.mono (by assumption) (by first | (simp; done) | (simp; omega) | omega))))))).mono ?_
  rintro ee w2 ⟨rfl, hb2⟩
  obtain ⟨hc2, hf2⟩ := bcell hb2
  have hB2 := hB1.trans (hb2.mono hB1.size)
  by_cases hct : ct = 0
  case neg =>
    rw [if_pos hct] at hu
    subst hu
    have d4 : (ct != 0) = true := by simpa using hct
    clear hct
    go_wp2_with fail
    go_ret
    exact ⟨rfl, hB2⟩
  subst hct
  rw [if_neg (by simp)] at hu
  have Hu := Lib.hid hu
  clear hu
  have hrow : w2.heap[w.heap.size]? = some (.cells #[.int .i64 k, .int .i64 h, .int .i64 e, .slice a n c, .string t] 44 (0, 0)) :=
    (hb2.block _ (by omega)).trans ((hb1.block _ (by simp)).trans (heap_new_at _ _ _ rfl))
  have q0 : w2.cell? ⟨w.heap.size, 0, none⟩ = some (.int .i64 k) := by rw [cell_of_row _ _ _ _ _ _ hrow]; rfl
  have q1 : w2.cell? ⟨w.heap.size, 1, none⟩ = some (.int .i64 h) := by rw [cell_of_row _ _ _ _ _ _ hrow]; rfl
  have q2 : w2.cell? ⟨w.heap.size, 2, none⟩ = some (.int .i64 e) := by rw [cell_of_row _ _ _ _ _ _ hrow]; rfl
  have q3 : w2.cell? ⟨w.heap.size, 3, none⟩ = some (.slice a n c) := by rw [cell_of_row _ _ _ _ _ _ hrow]; rfl
  have q4 : w2.cell? ⟨w.heap.size, 4, none⟩ = some (.string t) := by rw [cell_of_row _ _ _ _ _ _ hrow]; rfl
  clear hrow hc1 hf1 hc2 hf2 hb1
  have Hb2 := Lib.hid hB2
  clear hb2
  clear hB2 hB1 HC HT HH HE hk hh he
  have hk3 : k = 1 ∨ k = 2 ∨ k = 3 := by omega
  clear k1 k3 d d3

  rcases hk3 with rfl | rfl | rfl
  · by_cases de : 0 < e
    · have d5 : decide (0 < e) = true := by simpa using de
      have hu := Hu.out
      rw [show frameOdd 1 h e n t = true by simp [frameOdd, *]] at hu
      rw [if_pos rfl] at hu
      subst hu
      clear Hu
      go_wp2_with fail
      go_ret
      exact ⟨rfl, Hb2.out⟩
    · have d5 : decide (0 < e) = false := by simpa using de
      cases em : emptyS t with
      | true =>
        have d6 : t.toList.isEmpty = true := em
        have hu := Hu.out
        rw [show frameOdd 1 h e n t = false by simp [frameOdd, *]] at hu
        rw [if_neg (by decide)] at hu
        subst hu
        clear Hu
        go_wp2_with fail
        go_ret
        exact ⟨rfl, Hb2.out⟩
      | false =>
        have d6 : t.toList.isEmpty = false := em
        have hu := Hu.out
        rw [show frameOdd 1 h e n t = true by simp [frameOdd, *]] at hu
        rw [if_pos rfl] at hu
        subst hu
        clear Hu
        go_wp2_with fail
        go_ret
        exact ⟨rfl, Hb2.out⟩
  · by_cases de : 0 < e
    · have d5 : decide (0 < e) = true := by simpa using de
      by_cases dn : 0 < n
      · have d7 : decide (0 < n) = true := by simpa using dn
        have hu := Hu.out
        rw [show frameOdd 2 h e n t = true by simp [frameOdd, *]] at hu
        rw [if_pos rfl] at hu
        subst hu
        clear Hu
        go_wp2_with fail
        go_ret
        exact ⟨rfl, Hb2.out⟩
      · have d7 : decide (0 < n) = false := by simpa using dn
        cases em : emptyS t with
        | true =>
          have d6 : t.toList.isEmpty = true := em
          have hu := Hu.out
          rw [show frameOdd 2 h e n t = false by simp [frameOdd, *]] at hu
          rw [if_neg (by decide)] at hu
          subst hu
          clear Hu
          go_wp2_with fail
          go_ret
          exact ⟨rfl, Hb2.out⟩
        | false =>
          have d6 : t.toList.isEmpty = false := em
          have hu := Hu.out
          rw [show frameOdd 2 h e n t = true by simp [frameOdd, *]] at hu
          rw [if_pos rfl] at hu
          subst hu
          clear Hu
          go_wp2_with fail
          go_ret
          exact ⟨rfl, Hb2.out⟩
    · have d5 : decide (0 < e) = false := by simpa using de
      have hu := Hu.out
      rw [show frameOdd 2 h e n t = true by simp [frameOdd, *]] at hu
      rw [if_pos rfl] at hu
      subst hu
      clear Hu
      go_wp2_with fail
      go_ret
      exact ⟨rfl, Hb2.out⟩
  · by_cases de : 0 < e
    · have d5 : decide (0 < e) = true := by simpa using de
      by_cases dn : 0 < n
      · have d7 : decide (0 < n) = true := by simpa using dn
        have hu := Hu.out
        rw [show frameOdd 3 h e n t = true by simp [frameOdd, *]] at hu
        rw [if_pos rfl] at hu
        subst hu
        clear Hu
        go_wp2_with fail
        go_ret
        exact ⟨rfl, Hb2.out⟩
      · have d7 : decide (0 < n) = false := by simpa using dn
        by_cases dh : 0 < h
        · have d8 : decide (0 < h) = true := by simpa using dh
          have hu := Hu.out
          rw [show frameOdd 3 h e n t = true by simp [frameOdd, *]] at hu
          rw [if_pos rfl] at hu
          subst hu
          clear Hu
          go_wp2_with fail
          go_ret
          exact ⟨rfl, Hb2.out⟩
        · have d8 : decide (0 < h) = false := by simpa using dh
          have hu := Hu.out
          rw [show frameOdd 3 h e n t = false by simp [frameOdd, *]] at hu
          rw [if_neg (by decide)] at hu
          subst hu
          clear Hu
          go_wp2_with fail
          go_ret
          exact ⟨rfl, Hb2.out⟩
    · have d5 : decide (0 < e) = false := by simpa using de
      have hu := Hu.out
      rw [show frameOdd 3 h e n t = true by simp [frameOdd, *]] at hu
      rw [if_pos rfl] at hu
      subst hu
      clear Hu
      go_wp2_with fail
      go_ret
      exact ⟨rfl, Hb2.out⟩
end Go.Proofs.YtkbfhgcjimfgkaaDoor

set_option linter.unusedVariables false
set_option linter.unusedSimpArgs false
namespace Go.Proofs.YtkbfhgcjimfgkaaDoor
open Go.RowKit

structure Fr where
  kind : Int
  heard : Int
  epoch : Int
  op : Op
  text : Str
instance : Rep Fr where
  n := 5
  rd := fun A w f cs => ∃ a n c, cs = [.int .i64 f.kind, .int .i64 f.heard, .int .i64 f.epoch, .slice a n c, .string f.text] ∧ RdS A w f.op a n c ∧ I64 f.kind ∧ I64 f.heard ∧ I64 f.epoch ∧ f.text.size ≤ strMax
  len := fun ⟨_, _, _, h, _⟩ => by rw [h]; rfl
  mono := fun h ⟨a, n, c, e, hr, h2⟩ => ⟨a, n, c, e, hr.mono h, h2⟩
  one := fun ⟨_, _, _, h, _⟩ => by rw [h]; simp [Value.oneCell']
  pos := by decide
def Fr.check (f : Fr) : Int := checkFrame f.kind f.heard f.epoch f.op f.text
/-- a frame whose numbers fit -/
def Fr.fits (f : Fr) : Prop := I64 f.kind ∧ I64 f.heard ∧ I64 f.epoch ∧ f.text.size ≤ strMax
structure Pkt where
  epoch : Int
  number : Int
  bare : Bool
  ack : Int
  f : Fr
def bareFr : Fr := ⟨0, 0, 0, [], noText⟩
instance : Rep Pkt where
  n := 9
  rd := fun A w p cs => ∃ a n c, cs = [.int .i64 p.epoch, .int .i64 p.number, .bool p.bare, .int .i64 p.ack, .int .i64 p.f.kind, .int .i64 p.f.heard, .int .i64 p.f.epoch, .slice a n c, .string p.f.text] ∧ RdS A w p.f.op a n c ∧ I64 p.epoch ∧ I64 p.number ∧ I64 p.ack ∧ p.f.fits
  len := fun ⟨_, _, _, h, _⟩ => by rw [h]; rfl
  mono := fun h ⟨a, n, c, e, hr, h2⟩ => ⟨a, n, c, e, hr.mono h, h2⟩
  one := fun ⟨_, _, _, h, _⟩ => by rw [h]; simp [Value.oneCell']
  pos := by decide
/-- one side of a session -/
structure Lk where
  epoch : Int
  next : Int
  sent : List Fr
  queue : List Fr
  heard : Int
/-- one of two sides that keep a text together -/
structure Ed where
  sent : Int
  heard : Int
  pending : List Op
/-- one frame of a slice of frames -/
theorem RdS.frame {A : Nat → Prop} {w : World} {l : List Fr} {a : Option Addr} {n c : Nat} (hr : RdS A w l a n c) (hn : 0 < n) :
    ∃ b off, a = some ⟨b, off, none⟩ ∧ A b ∧ b < w.heap.size ∧ ∀ i (h : i < l.length), ∃ a' n' c', RdS A w l[i].op a' n' c' ∧ l[i].fits ∧ w.cell? ⟨b, off + i * 5, none⟩ = some (.int .i64 l[i].kind) ∧ w.cell? ⟨b, off + i * 5 + 1, none⟩ = some (.int .i64 l[i].heard) ∧
      w.cell? ⟨b, off + i * 5 + 1 + 1, none⟩ = some (.int .i64 l[i].epoch) ∧ w.cell? ⟨b, off + i * 5 + 1 + 1 + 1, none⟩ = some (.slice a' n' c') ∧ w.cell? ⟨b, off + i * 5 + 1 + 1 + 1 + 1, none⟩ = some (.string l[i].text) := by
  obtain ⟨b, off, e, hA, hb, he⟩ := hr.2.2.2.2 hn
  refine ⟨b, off, e, hA, hb, fun i h => ?_⟩
  obtain ⟨xs, ⟨a', n', c', rfl, h1, h2⟩, h4⟩ := he i l[i] (List.getElem?_eq_getElem h)
  exact ⟨a', n', c', h1, h2, h4 0 _ rfl, h4 1 _ rfl, h4 2 _ rfl, h4 3 _ rfl, h4 4 _ rfl⟩
theorem RdS.rowO {α : Type} [Rep α] {A : Nat → Prop} {w : World} {ls : List (List α)} {a : Option Addr} {n c : Nat} (hr : RdS A w ls a n c) (hn : 0 < n) :
    ∃ b off, a = some ⟨b, off, none⟩ ∧ A b ∧ b < w.heap.size ∧ ∀ i (h : i < ls.length), ∃ a' n' c', RdS A w ls[i] a' n' c' ∧ w.cell? ⟨b, off + i, none⟩ = some (.slice a' n' c') := by
  obtain ⟨b, off, e, hA, hb, he⟩ := hr.2.2.2.2 hn
  refine ⟨b, off, e, hA, hb, fun i h => ?_⟩
  obtain ⟨xs, ⟨a', n', c', rfl, h1⟩, h4⟩ := he i ls[i] (List.getElem?_eq_getElem h)
  have h5 := h4 0 _ rfl
  refine ⟨a', n', c', h1, ?_⟩
  have e1 : off + i * Rep.n (List α) + 0 = off + i := by show off + i * 1 + 0 = off + i; omega
  rw [e1] at h5
  exact h5
end Go.Proofs.YtkbfhgcjimfgkaaDoor

set_option linter.unusedVariables false
set_option linter.unusedSimpArgs false
namespace Go.Proofs.YtkbfhgcjimfgkaaDoor
open Go.RowKit

/-- a record of a tape -/
structure Rec where
  epoch : Int
  op : Op
instance : Rep Rec where
  n := 2
  rd := fun A w x cs => ∃ (a : Option Addr) (n c : Nat), cs = [.int .i64 x.epoch, .slice a n c] ∧ I64 x.epoch ∧ RdS A w x.op a n c
  len := fun ⟨_, _, _, h, _⟩ => by rw [h]; rfl
  mono := fun h ⟨a, n, c, e, hi, hr⟩ => ⟨a, n, c, e, hi, hr.mono h⟩
  one := fun ⟨_, _, _, h, _⟩ => by rw [h]; simp [Value.oneCell']
  pos := by decide
end Go.Proofs.YtkbfhgcjimfgkaaDoor

set_option linter.unusedVariables false
set_option linter.unusedSimpArgs false
namespace Go.Proofs.YtkbfhgcjimfgkaaDoor
open Go.RowKit

theorem isBad_any (f : Fr) (a : Option Addr) (n c : Nat) (w : World) (hg : Good w) (hr : RdS (· < w.heap.size) w f.op a n c) (hf : f.fits) :
    Calls Tryd.prog 91 #[.agg #[.int .i64 f.kind, .int .i64 f.heard, .int .i64 f.epoch, .slice a n c, .string f.text]] w fun e w' => e = .returned (.bool (f.check != 0)) ∧ Below w.heap.size w w' := by
  have HC := Lib.hid (fun W (hW : Below w.heap.size w W) => checkFrame_any (· < W.heap.size) f.kind f.heard f.epoch f.op f.text a n c W (hg.go hW) (fun _ h => h) (hr.go hW) hf.1 hf.2.1 hf.2.2.1 hf.2.2.2)
  rw [show checkFrame f.kind f.heard f.epoch f.op f.text = f.check from rfl] at HC
  generalize f.check = F at *
  clear hr hg hf
  obtain ⟨k, h, e, o, t⟩ := f
  simp only at *
  obtain ⟨q, hq⟩ : ∃ q, (F != 0) = q := ⟨_, rfl⟩
  rw [hq]
  go_enter Tryd.func91, Tryd.ntmps91
  go_wp2_with fail
  refine abs_run (fun W => Below w.heap.size w W) (by (repeat (first | exact Below.refl _ _ | assumption | (refine Below.drew ?_) | (refine below_drewN ?_ _) | (refine Below.alloc ?_ (by first | (simp; done) | (simp; omega) | omega) _) | (refine Below.setCell ?_ (by first | (simp; done) | (simp; omega) | omega) _) | (refine Below.trans ?_ (Below.mono (by assumption) (by first | (simp; done) | (simp; omega) | omega)))))) ?_
  intro W hW
  refine (HC.out W hW).mono ?_
  rintro e w2 ⟨rfl, u2⟩
  have U2 := Lib.hid (up hW u2)
  clear hW u2 HC
  cases q
  · go_wp2_with fail
    go_ret
    exact ⟨rfl, U2.out⟩
  · go_wp2_with fail
    go_ret
    exact ⟨rfl, U2.out⟩
def frsOk (l : List Fr) : Bool := l.all fun f => f.check == 0
/-- the first that may not be -/
def firstBad : List Fr → Option Nat
  | [] => none
  | f :: l => if f.check = 0 then (firstBad l).map (· + 1) else some 0
theorem firstBad_ok : ∀ l, (firstBad l).isNone = frsOk l
  | [] => rfl
  | f :: l => by
    unfold firstBad frsOk
    by_cases h : f.check = 0
    · rw [if_pos h, List.all_cons, h]
      have := firstBad_ok l
      unfold frsOk at this
      rw [← this]
      cases firstBad l <;> rfl
    · rw [if_neg h, List.all_cons]
      simp [h]
theorem firstBad_drop : ∀ (l : List Fr) (k : Nat), (∀ f ∈ l.take k, f.check = 0) → firstBad l = (firstBad (l.drop k)).map (· + k)
  | l, 0, _ => by simp
  | [], k + 1, _ => by simp [firstBad]
  | f :: l, k + 1, h => by
    have h1 := firstBad_drop l k (fun g hg => h g (by rw [List.take_succ_cons]; exact List.mem_cons_of_mem _ hg))
    have h0 : f.check = 0 := h f (by rw [List.take_succ_cons]; exact List.mem_cons_self ..)
    rw [List.drop_succ_cons, show firstBad (f :: l) = (firstBad l).map (· + 1) from by rw [firstBad, if_pos h0], h1, Option.map_map]
    congr 1
def badIx (l : List Fr) : Int := match firstBad l with | some i => i | none => -1
set_option maxRecDepth 100000 in
set_option maxHeartbeats 2000000 in
theorem indexBad_any (l : List Fr) (a : Option Addr) (n c : Nat) (w : World) (hg : Good w) (hr : RdS (· < w.heap.size) w l a n c) :
    Calls Tryd.prog 98 #[.slice a n c, .func (.func 91) #[] #[]] w fun e w' => e = .returned (.int .i64 (badIx l)) ∧ Below w.heap.size w w' := by
  have hnl := hr.1
  have hnm : n ≤ maxLen := Nat.le_trans hr.2.1 hr.2.2.1
  unfold maxLen at hnm
  obtain ⟨R, hR⟩ : ∃ R, R = badIx l := ⟨_, rfl⟩
  rw [← hR]
  have HR := Lib.hid hR
  have Hg := Lib.hid hg
  have Hr := Lib.hid hr
  have Hl := Lib.hid hnl
  clear hR hg hr hnl
  go_enter Tryd.func98, Tryd.ntmps98
  go_wp2_with fail
  go_loopw [8] (fun i wr => ∃ k : Nat, k ≤ n ∧ i = .int .i64 k ∧ (∀ f ∈ l.take k, f.check = 0) ∧ Below w.heap.size w wr) (fun i _ => n - (intOf i).toNat)
  case atStart => exact ⟨0, by omega, rfl, by simp, Below.refl _ _⟩
  case round =>
    obtain ⟨k, hk, rfl, hok, hb⟩ := hrel
    have Hok := Lib.hid hok
    have HB := Lib.hid hb
    clear hok hb
    by_cases hlt : k < n
    · obtain ⟨b, off, rfl, hAb, hbs, hcs⟩ := Hr.out.frame (by omega)
      have hkl : k < l.length := by have := Hl.out; omega
      obtain ⟨ak, nk, ck, hrk, hfk, d0, d1, d2, d3, d4⟩ := hcs k hkl
      have e0 := (HB.out.cell (p := ⟨b, off + k * 5, none⟩) hbs).trans d0
      have e1 := (HB.out.cell (p := ⟨b, off + k * 5 + 1, none⟩) hbs).trans d1
      have e2 := (HB.out.cell (p := ⟨b, off + k * 5 + 1 + 1, none⟩) hbs).trans d2
      have e3 := (HB.out.cell (p := ⟨b, off + k * 5 + 1 + 1 + 1, none⟩) hbs).trans d3
      have e4 := (HB.out.cell (p := ⟨b, off + k * 5 + 1 + 1 + 1 + 1, none⟩) hbs).trans d4
      have HC := Lib.hid (isBad_any l[k] ak nk ck wr (Hg.out.go HB.out) (hrk.go HB.out) hfk)
      have Htk := Lib.hid (take_next l k hkl)
      have Hdr := Lib.hid (List.drop_eq_getElem_cons hkl)
      generalize hfk' : l[k] = f at *
      clear d0 d1 d2 d3 d4 hrk hcs hfk hfk'
      obtain ⟨fk, fh, fe, fo, ft⟩ := f
      simp only at *
      by_cases hc : (Fr.mk fk fh fe fo ft).check = 0
      · have hb0 : ((Fr.mk fk fh fe fo ft).check != 0) = false := by simpa using hc
        rw [hb0] at HC
        have Hc := Lib.hid hc
        clear hc hb0
        go_wp2_with fail
        refine HC.out.mono ?_
        rintro e w2 ⟨rfl, u2⟩
        have HB2 := Lib.hid (HB.out.trans (u2.mono HB.out.size))
        clear u2
        go_wp2_with fail
        go_roundw
        case rel => exact ⟨k + 1, by omega, by go_num, fun f hf => by
          rw [Htk.out] at hf
          rcases List.mem_append.1 hf with hf | hf
          · exact Hok.out f hf
          · simp at hf; subst hf; exact Hc.out, HB2.out⟩
        case measure => simp [intOf]; omega
      · have hb0 : ((Fr.mk fk fh fe fo ft).check != 0) = true := by simpa using hc
        rw [hb0] at HC
        have hRk : R = (k : Int) := by
          rw [HR.out]
          unfold badIx
          rw [firstBad_drop l k Hok.out, Hdr.out]
          unfold firstBad
          rw [if_neg hc]
          simp
        subst hRk
        clear hc hb0 HR
        go_wp2_with fail
        refine HC.out.mono ?_
        rintro e w2 ⟨rfl, u2⟩
        have HB2 := Lib.hid (HB.out.trans (u2.mono HB.out.size))
        clear u2
        go_wp2_with fail
        go_ret
        exact ⟨rfl, HB2.out⟩
    · have hkn : k = n := by omega
      have hRk : R = -1 := by
        rw [HR.out]
        unfold badIx
        rw [firstBad_drop l k Hok.out, List.drop_of_length_le (by have := Hl.out; omega)]
        rfl
      subst hRk
      clear HR hkn
      go_wp2_with fail
      go_ret
      exact ⟨rfl, HB.out⟩
theorem badIx_ok (l : List Fr) : (decide (0 ≤ badIx l)) = !frsOk l := by
  rw [← firstBad_ok]
  unfold badIx
  cases firstBad l <;> simp
theorem containsBad_any (l : List Fr) (a : Option Addr) (n c : Nat) (w : World) (hg : Good w) (hr : RdS (· < w.heap.size) w l a n c) :
    Calls Tryd.prog 90 #[.slice a n c, .func (.func 91) #[] #[]] w fun e w' => e = .returned (.bool (!frsOk l)) ∧ Below w.heap.size w w' := by
  have HC := Lib.hid (indexBad_any l a n c w hg hr)
  have hb := badIx_ok l
  generalize badIx l = z at *
  generalize (!frsOk l) = q at *
  clear hg hr
  cases q
  · go_enter Tryd.func90, Tryd.ntmps90
    go_wp2_with fail
    refine HC.out.mono ?_
    rintro e w2 ⟨rfl, u2⟩
    have U2 := Lib.hid u2
    clear u2
    go_wp2_with fail
    go_ret
    exact ⟨rfl, U2.out⟩
  · go_enter Tryd.func90, Tryd.ntmps90
    go_wp2_with fail
    refine HC.out.mono ?_
    rintro e w2 ⟨rfl, u2⟩
    have U2 := Lib.hid u2
    clear u2
    go_wp2_with fail
    go_ret
    exact ⟨rfl, U2.out⟩
theorem frames_any (l : List Fr) (a : Option Addr) (n c : Nat) (w : World) (hg : Good w) (hr : RdS (· < w.heap.size) w l a n c) :
    Calls Tryd.prog 73 #[.slice a n c] w fun e w' => e = .returned (.bool (frsOk l)) ∧ Below w.heap.size w w' := by
  have HC := Lib.hid (containsBad_any l a n c w hg hr)
  generalize frsOk l = q at *
  clear hg hr
  cases q
  · go_enter Tryd.func73, Tryd.ntmps73
    go_wp2_with fail
    refine HC.out.mono ?_
    rintro e w2 ⟨rfl, u2⟩
    have U2 := Lib.hid u2
    clear u2
    go_wp2_with fail
    go_ret
    exact ⟨rfl, U2.out⟩
  · go_enter Tryd.func73, Tryd.ntmps73
    go_wp2_with fail
    refine HC.out.mono ?_
    rintro e w2 ⟨rfl, u2⟩
    have U2 := Lib.hid u2
    clear u2
    go_wp2_with fail
    go_ret
    exact ⟨rfl, U2.out⟩
def Lk.odd1 (l : Lk) : Prop := l.epoch < 0 ∨ 1048576 < l.epoch ∨ l.next < 1 ∨ 1048576 < l.next ∨ l.heard < 0 ∨ 1048576 < l.heard
instance (l : Lk) : Decidable l.odd1 := by unfold Lk.odd1; infer_instance
def Lk.odd2 (l : Lk) : Prop := 8 < l.sent.length ∨ l.next ≤ (l.sent.length : Int) ∨ (0 < l.queue.length ∧ l.sent.length < 8) ∨ frsOk l.sent = false ∨ frsOk l.queue = false
instance (l : Lk) : Decidable l.odd2 := by unfold Lk.odd2; infer_instance
/-- what link.Check answers -/
def Lk.check (l : Lk) : Int := if l.odd1 then 9 else if l.odd2 then 9 else if l.epoch = 0 ∧ 0 < (l.sent.length : Int) + l.heard then 9 else 0
def Lk.fits (l : Lk) : Prop := I64 l.epoch ∧ I64 l.next ∧ I64 l.heard
/-- a link as a value -/
def lkV (l : Lk) (s q : Value) : Value := .agg #[.int .i64 l.epoch, .int .i64 l.next, s, q, .int .i64 l.heard]
theorem lk_odd1 (l : Lk) (a b : Option Addr) (n c m d : Nat) (w : World) (hf : l.fits) (ho : l.odd1) :
    Calls Tryd.prog 54 #[lkV l (.slice a n c) (.slice b m d)] w fun e w' => e = .returned (.int .i64 9) ∧ Below w.heap.size w w' := by
  unfold lkV
  obtain ⟨h1, h2, h3⟩ := hf
  unfold I64 at h1 h2 h3
  unfold Lk.odd1 at ho
  obtain ⟨ep, nx, se, qu, he⟩ := l
  simp only at *
  by_cases k1 : ep < 0
  · clear ho
    go_enter Tryd.func54, Tryd.ntmps54
    go_wp2_with fail
    go_ret
    exact ⟨rfl, by (repeat (first | exact Below.refl _ _ | assumption | (refine Below.drew ?_) | (refine below_drewN ?_ _) | (refine Below.alloc ?_ (by first | (simp; done) | (simp; omega) | omega) _) | (refine Below.setCell ?_ (by first | (simp; done) | (simp; omega) | omega) _) | (refine Below.trans ?_ (Below.mono (by assumption) (by first | (simp; done) | (simp; omega) | omega)))))⟩
  by_cases k2 : 1048576 < ep
  · clear ho
    go_enter Tryd.func54, Tryd.ntmps54
    go_wp2_with fail
    go_ret
    exact ⟨rfl, by (repeat (first | exact Below.refl _ _ | assumption | (refine Below.drew ?_) | (refine below_drewN ?_ _) | (refine Below.alloc ?_ (by first | (simp; done) | (simp; omega) | omega) _) | (refine Below.setCell ?_ (by first | (simp; done) | (simp; omega) | omega) _) | (refine Below.trans ?_ (Below.mono (by assumption) (by first | (simp; done) | (simp; omega) | omega)))))⟩
  by_cases k3 : nx < 1
  · clear ho
    go_enter Tryd.func54, Tryd.ntmps54
    go_wp2_with fail
    go_ret
    exact ⟨rfl, by (repeat (first | exact Below.refl _ _ | assumption | (refine Below.drew ?_) | (refine below_drewN ?_ _) | (refine Below.alloc ?_ (by first | (simp; done) | (simp; omega) | omega) _) | (refine Below.setCell ?_ (by first | (simp; done) | (simp; omega) | omega) _) | (refine Below.trans ?_ (Below.mono (by assumption) (by first | (simp; done) | (simp; omega) | omega)))))⟩
  by_cases k4 : 1048576 < nx
  · clear ho
    go_enter Tryd.func54, Tryd.ntmps54
    go_wp2_with fail
    go_ret
    exact ⟨rfl, by (repeat (first | exact Below.refl _ _ | assumption | (refine Below.drew ?_) | (refine below_drewN ?_ _) | (refine Below.alloc ?_ (by first | (simp; done) | (simp; omega) | omega) _) | (refine Below.setCell ?_ (by first | (simp; done) | (simp; omega) | omega) _) | (refine Below.trans ?_ (Below.mono (by assumption) (by first | (simp; done) | (simp; omega) | omega)))))⟩
  by_cases k5 : he < 0
  · clear ho
    go_enter Tryd.func54, Tryd.ntmps54
    go_wp2_with fail
    go_ret
    exact ⟨rfl, by (repeat (first | exact Below.refl _ _ | assumption | (refine Below.drew ?_) | (refine below_drewN ?_ _) | (refine Below.alloc ?_ (by first | (simp; done) | (simp; omega) | omega) _) | (refine Below.setCell ?_ (by first | (simp; done) | (simp; omega) | omega) _) | (refine Below.trans ?_ (Below.mono (by assumption) (by first | (simp; done) | (simp; omega) | omega)))))⟩
  · have k6 : 1048576 < he := by omega
    clear ho
    go_enter Tryd.func54, Tryd.ntmps54
    go_wp2_with fail
    go_ret
    exact ⟨rfl, by (repeat (first | exact Below.refl _ _ | assumption | (refine Below.drew ?_) | (refine below_drewN ?_ _) | (refine Below.alloc ?_ (by first | (simp; done) | (simp; omega) | omega) _) | (refine Below.setCell ?_ (by first | (simp; done) | (simp; omega) | omega) _) | (refine Below.trans ?_ (Below.mono (by assumption) (by first | (simp; done) | (simp; omega) | omega)))))⟩
set_option maxRecDepth 100000 in
set_option maxHeartbeats 2000000 in
theorem lk_odd2 (l : Lk) (a b : Option Addr) (n c m d : Nat) (w : World) (hg : Good w) (hr : RdS (· < w.heap.size) w l.sent a n c) (hq : RdS (· < w.heap.size) w l.queue b m d) (hf : l.fits) (h1 : ¬ l.odd1) (ho : l.odd2) :
    Calls Tryd.prog 54 #[lkV l (.slice a n c) (.slice b m d)] w fun e w' => e = .returned (.int .i64 9) ∧ Below w.heap.size w w' := by
  unfold lkV
  have HS := Lib.hid (fun W (hW : Below w.heap.size w W) => frames_any l.sent a n c W (hg.go hW) (hr.go hW))
  have HQ := Lib.hid (fun W (hW : Below w.heap.size w W) => frames_any l.queue b m d W (hg.go hW) (hq.go hW))
  have hn := hr.1
  have hm := hq.1
  have hn2 : n ≤ maxLen := Nat.le_trans hr.2.1 hr.2.2.1
  have hm2 : m ≤ maxLen := Nat.le_trans hq.2.1 hq.2.2.1
  unfold maxLen at hn2 hm2
  unfold Lk.odd1 at h1
  unfold Lk.odd2 at ho
  rw [← hn, ← hm] at ho
  obtain ⟨ep, nx, se, qu, he⟩ := l
  simp only at *
  generalize frsOk se = bs at *
  generalize frsOk qu = bq at *
  have k1 : 0 ≤ ep := by omega
  have k2 : ep ≤ 1048576 := by omega
  have k3 : 1 ≤ nx := by omega
  have k4 : nx ≤ 1048576 := by omega
  have k5 : 0 ≤ he := by omega
  have k6 : he ≤ 1048576 := by omega
  clear hf h1 hg hr hq hn hm
  by_cases j1 : 8 < n
  · have d1 : decide ((8 : Int) < (n : Int)) = true := by simp; omega
    clear ho
    go_enter Tryd.func54, Tryd.ntmps54
    go_wp2_with fail
    go_ret
    exact ⟨rfl, by (repeat (first | exact Below.refl _ _ | assumption | (refine Below.drew ?_) | (refine below_drewN ?_ _) | (refine Below.alloc ?_ (by first | (simp; done) | (simp; omega) | omega) _) | (refine Below.setCell ?_ (by first | (simp; done) | (simp; omega) | omega) _) | (refine Below.trans ?_ (Below.mono (by assumption) (by first | (simp; done) | (simp; omega) | omega)))))⟩
  have d1 : decide ((8 : Int) < (n : Int)) = false := by simp; omega
  by_cases j2 : nx ≤ (n : Int)
  · clear ho
    go_enter Tryd.func54, Tryd.ntmps54
    go_wp2_with fail
    go_ret
    exact ⟨rfl, by (repeat (first | exact Below.refl _ _ | assumption | (refine Below.drew ?_) | (refine below_drewN ?_ _) | (refine Below.alloc ?_ (by first | (simp; done) | (simp; omega) | omega) _) | (refine Below.setCell ?_ (by first | (simp; done) | (simp; omega) | omega) _) | (refine Below.trans ?_ (Below.mono (by assumption) (by first | (simp; done) | (simp; omega) | omega)))))⟩
  by_cases j3 : 0 < m
  · have d3 : decide ((0 : Int) < (m : Int)) = true := by simp; omega
    by_cases j4 : n < 8
    · have d4 : decide ((n : Int) < 8) = true := by simp; omega
      clear ho
      go_enter Tryd.func54, Tryd.ntmps54
      go_wp2_with fail
      go_ret
      exact ⟨rfl, by (repeat (first | exact Below.refl _ _ | assumption | (refine Below.drew ?_) | (refine below_drewN ?_ _) | (refine Below.alloc ?_ (by first | (simp; done) | (simp; omega) | omega) _) | (refine Below.setCell ?_ (by first | (simp; done) | (simp; omega) | omega) _) | (refine Below.trans ?_ (Below.mono (by assumption) (by first | (simp; done) | (simp; omega) | omega)))))⟩
    · have d4 : decide ((n : Int) < 8) = false := by simp; omega
      have ho2 : bs = false ∨ bq = false := by
        rcases ho with h | h | h | h | h
        · omega
        · omega
        · omega
        · exact .inl h
        · exact .inr h
      clear ho
      cases bs with
      | false =>
        clear ho2
        go_enter Tryd.func54, Tryd.ntmps54
        go_wp2_with fail
        refine (HS.out _ ((Below.refl _ _).alloc (Nat.le_refl _) _)).mono ?_
        rintro e w2 ⟨rfl, u2⟩
        have U2 := Lib.hid (up ((Below.refl _ _).alloc (Nat.le_refl _) _) u2)
        clear u2 HS HQ
        go_wp2_with fail
        go_ret
        exact ⟨rfl, U2.out⟩
      | true =>
        have hbq : bq = false := by simpa using ho2
        subst hbq
        clear ho2
        go_enter Tryd.func54, Tryd.ntmps54
        go_wp2_with fail
        refine (HS.out _ ((Below.refl _ _).alloc (Nat.le_refl _) _)).mono ?_
        rintro e w2 ⟨rfl, u2⟩
        have x2 := (Blk.new w _).go u2
        have c3 : w2.cell? ⟨w.heap.size, 3, none⟩ = some (.slice b m d) := x2.cell 3
        have U2 := Lib.hid (up ((Below.refl _ _).alloc (Nat.le_refl _) _) u2)
        clear u2 HS x2
        go_wp2_with fail
        refine (HQ.out _ U2.out).mono ?_
        rintro e w3 ⟨rfl, u3⟩
        have U3 := Lib.hid (up U2.out u3)
        clear u3 HQ
        go_wp2_with fail
        go_ret
        exact ⟨rfl, U3.out⟩
  · have hm0 : m = 0 := by omega
    subst hm0
    have ho2 : bs = false ∨ bq = false := by
      rcases ho with h | h | h | h | h
      · omega
      · omega
      · omega
      · exact .inl h
      · exact .inr h
    clear ho j3
    cases bs with
    | false =>
      clear ho2
      go_enter Tryd.func54, Tryd.ntmps54
      go_wp2_with fail
      refine (HS.out _ ((Below.refl _ _).alloc (Nat.le_refl _) _)).mono ?_
      rintro e w2 ⟨rfl, u2⟩
      have U2 := Lib.hid (up ((Below.refl _ _).alloc (Nat.le_refl _) _) u2)
      clear u2 HS HQ
      go_wp2_with fail
      go_ret
      exact ⟨rfl, U2.out⟩
    | true =>
      have hbq : bq = false := by simpa using ho2
      subst hbq
      clear ho2
      go_enter Tryd.func54, Tryd.ntmps54
      go_wp2_with fail
      refine (HS.out _ ((Below.refl _ _).alloc (Nat.le_refl _) _)).mono ?_
      rintro e w2 ⟨rfl, u2⟩
      have x2 := (Blk.new w _).go u2
      have c3 : w2.cell? ⟨w.heap.size, 3, none⟩ = some (.slice b 0 d) := x2.cell 3
      have U2 := Lib.hid (up ((Below.refl _ _).alloc (Nat.le_refl _) _) u2)
      clear u2 HS x2
      go_wp2_with fail
      refine (HQ.out _ U2.out).mono ?_
      rintro e w3 ⟨rfl, u3⟩
      have U3 := Lib.hid (up U2.out u3)
      clear u3 HQ
      go_wp2_with fail
      go_ret
      exact ⟨rfl, U3.out⟩
end Go.Proofs.YtkbfhgcjimfgkaaDoor

set_option linter.unusedVariables false
set_option linter.unusedSimpArgs false
namespace Go.Proofs.YtkbfhgcjimfgkaaDoor
open Go.RowKit

set_option maxRecDepth 100000 in
set_option maxHeartbeats 2000000 in
theorem lk_end (l : Lk) (a b : Option Addr) (n c m d : Nat) (w : World) (hg : Good w) (hr : RdS (· < w.heap.size) w l.sent a n c) (hq : RdS (· < w.heap.size) w l.queue b m d) (hf : l.fits) (h1 : ¬ l.odd1) (ho : ¬ l.odd2) :
    Calls Tryd.prog 54 #[lkV l (.slice a n c) (.slice b m d)] w fun e w' => e = .returned (.int .i64 l.check) ∧ Below w.heap.size w w' := by
  unfold lkV
  have HS := Lib.hid (fun W (hW : Below w.heap.size w W) => frames_any l.sent a n c W (hg.go hW) (hr.go hW))
  have HQ := Lib.hid (fun W (hW : Below w.heap.size w W) => frames_any l.queue b m d W (hg.go hW) (hq.go hW))
  have hn := hr.1
  have hm := hq.1
  have hn2 : n ≤ maxLen := Nat.le_trans hr.2.1 hr.2.2.1
  have hm2 : m ≤ maxLen := Nat.le_trans hq.2.1 hq.2.2.1
  unfold maxLen at hn2 hm2
  obtain ⟨R, hR⟩ : ∃ R, R = l.check := ⟨_, rfl⟩
  rw [← hR]
  unfold Lk.check at hR
  rw [if_neg h1, if_neg ho, ← hn] at hR
  unfold Lk.odd1 at h1
  unfold Lk.odd2 at ho
  rw [← hn, ← hm] at ho
  obtain ⟨ep, nx, se, qu, he⟩ := l
  simp only at *
  have hbs : frsOk se = true := by
    cases hh : frsOk se with
    | true => rfl
    | false => exact absurd (.inr (.inr (.inr (.inl hh)))) ho
  have hbq : frsOk qu = true := by
    cases hh : frsOk qu with
    | true => rfl
    | false => exact absurd (.inr (.inr (.inr (.inr hh)))) ho
  rw [hbs] at HS
  rw [hbq] at HQ
  have k1 : 0 ≤ ep := by omega
  have k2 : ep ≤ 1048576 := by omega
  have k3 : 1 ≤ nx := by omega
  have k4 : nx ≤ 1048576 := by omega
  have k5 : 0 ≤ he := by omega
  have k6 : he ≤ 1048576 := by omega
  have j1 : n ≤ 8 := by omega
  have d1 : decide ((8 : Int) < (n : Int)) = false := by simp; omega
  have j2 : (n : Int) < nx := by omega
  have HR := Lib.hid hR
  clear hf h1 hg hr hq hn hm hbs hbq hR
  by_cases j3 : 0 < m
  · have d3 : decide ((0 : Int) < (m : Int)) = true := by simp; omega
    have d4 : decide ((n : Int) < 8) = false := by simp; omega
    have hn8 : n = 8 := by omega
    clear ho
    have hsum : decide (0 < (n : Int) + he) = true := by simp; omega
    by_cases he0 : ep = 0
    · have b0 : (ep == 0) = true := by simpa using he0
      have hR2 : R = 9 := HR.out.trans (if_pos ⟨he0, by omega⟩)
      subst hR2
      clear HR he0 hn8
      go_enter Tryd.func54, Tryd.ntmps54
      go_wp2_with fail
      refine (HS.out _ ((Below.refl _ _).alloc (Nat.le_refl _) _)).mono ?_
      rintro e w2 ⟨rfl, u2⟩
      have x2 := Lib.hid ((Blk.new w _).go u2)
      have c3 : w2.cell? ⟨w.heap.size, 3, none⟩ = some (.slice b m d) := x2.out.cell 3
      have U2 := Lib.hid (up ((Below.refl _ _).alloc (Nat.le_refl _) _) u2)
      clear u2 HS
      go_wp2_with fail
      refine (HQ.out _ U2.out).mono ?_
      rintro e w3 ⟨rfl, u3⟩
      have x3 := x2.out.go u3
      have e0 : w3.cell? ⟨w.heap.size, 0, none⟩ = some (.int .i64 ep) := x3.cell 0
      have e2 : w3.cell? ⟨w.heap.size, 2, none⟩ = some (.slice a n c) := x3.cell 2
      have e4 : w3.cell? ⟨w.heap.size, 4, none⟩ = some (.int .i64 he) := x3.cell 4
      have U3 := Lib.hid (up U2.out u3)
      clear u3 HQ x2 x3 c3
      go_wp2_with fail
      go_ret
      exact ⟨rfl, U3.out⟩
    · have b0 : (ep == 0) = false := by simpa using he0
      have hR2 : R = 0 := HR.out.trans (if_neg (fun h => he0 h.1))
      subst hR2
      clear HR he0 hn8
      go_enter Tryd.func54, Tryd.ntmps54
      go_wp2_with fail
      refine (HS.out _ ((Below.refl _ _).alloc (Nat.le_refl _) _)).mono ?_
      rintro e w2 ⟨rfl, u2⟩
      have x2 := Lib.hid ((Blk.new w _).go u2)
      have c3 : w2.cell? ⟨w.heap.size, 3, none⟩ = some (.slice b m d) := x2.out.cell 3
      have U2 := Lib.hid (up ((Below.refl _ _).alloc (Nat.le_refl _) _) u2)
      clear u2 HS
      go_wp2_with fail
      refine (HQ.out _ U2.out).mono ?_
      rintro e w3 ⟨rfl, u3⟩
      have x3 := x2.out.go u3
      have e0 : w3.cell? ⟨w.heap.size, 0, none⟩ = some (.int .i64 ep) := x3.cell 0
      have U3 := Lib.hid (up U2.out u3)
      clear u3 HQ x2 x3 c3
      go_wp2_with fail
      go_ret
      exact ⟨rfl, U3.out⟩
  · have hm0 : m = 0 := by omega
    subst hm0
    clear ho j3
    by_cases he0 : ep = 0
    · have b0 : (ep == 0) = true := by simpa using he0
      by_cases hs0 : 0 < (n : Int) + he
      · have hsum : decide (0 < (n : Int) + he) = true := by simpa using hs0
        have hR2 : R = 9 := HR.out.trans (if_pos ⟨he0, hs0⟩)
        subst hR2
        clear HR he0
        go_enter Tryd.func54, Tryd.ntmps54
        go_wp2_with fail
        refine (HS.out _ ((Below.refl _ _).alloc (Nat.le_refl _) _)).mono ?_
        rintro e w2 ⟨rfl, u2⟩
        have x2 := Lib.hid ((Blk.new w _).go u2)
        have c3 : w2.cell? ⟨w.heap.size, 3, none⟩ = some (.slice b 0 d) := x2.out.cell 3
        have U2 := Lib.hid (up ((Below.refl _ _).alloc (Nat.le_refl _) _) u2)
        clear u2 HS
        go_wp2_with fail
        refine (HQ.out _ U2.out).mono ?_
        rintro e w3 ⟨rfl, u3⟩
        have x3 := x2.out.go u3
        have e0 : w3.cell? ⟨w.heap.size, 0, none⟩ = some (.int .i64 ep) := x3.cell 0
        have e2 : w3.cell? ⟨w.heap.size, 2, none⟩ = some (.slice a n c) := x3.cell 2
        have e4 : w3.cell? ⟨w.heap.size, 4, none⟩ = some (.int .i64 he) := x3.cell 4
        have U3 := Lib.hid (up U2.out u3)
        clear u3 HQ x2 x3 c3
        go_wp2_with fail
        go_ret
        exact ⟨rfl, U3.out⟩
      · have hR2 : R = 0 := HR.out.trans (if_neg (fun h => hs0 h.2))
        obtain rfl : n = 0 := by omega
        obtain rfl : he = 0 := by omega
        subst hR2
        clear HR he0 hs0
        go_enter Tryd.func54, Tryd.ntmps54
        go_wp2_with fail
        refine (HS.out _ ((Below.refl _ _).alloc (Nat.le_refl _) _)).mono ?_
        rintro e w2 ⟨rfl, u2⟩
        have x2 := Lib.hid ((Blk.new w _).go u2)
        have c3 : w2.cell? ⟨w.heap.size, 3, none⟩ = some (.slice b 0 d) := x2.out.cell 3
        have U2 := Lib.hid (up ((Below.refl _ _).alloc (Nat.le_refl _) _) u2)
        clear u2 HS
        go_wp2_with fail
        refine (HQ.out _ U2.out).mono ?_
        rintro e w3 ⟨rfl, u3⟩
        have x3 := x2.out.go u3
        have e0 : w3.cell? ⟨w.heap.size, 0, none⟩ = some (.int .i64 ep) := x3.cell 0
        have e2 : w3.cell? ⟨w.heap.size, 2, none⟩ = some (.slice a 0 c) := x3.cell 2
        have e4 : w3.cell? ⟨w.heap.size, 4, none⟩ = some (.int .i64 0) := x3.cell 4
        have U3 := Lib.hid (up U2.out u3)
        clear u3 HQ x2 x3 c3
        go_wp2_with fail
        go_ret
        exact ⟨rfl, U3.out⟩
    · have b0 : (ep == 0) = false := by simpa using he0
      have hR2 : R = 0 := HR.out.trans (if_neg (fun h => he0 h.1))
      subst hR2
      clear HR he0
      go_enter Tryd.func54, Tryd.ntmps54
      go_wp2_with fail
      refine (HS.out _ ((Below.refl _ _).alloc (Nat.le_refl _) _)).mono ?_
      rintro e w2 ⟨rfl, u2⟩
      have x2 := Lib.hid ((Blk.new w _).go u2)
      have c3 : w2.cell? ⟨w.heap.size, 3, none⟩ = some (.slice b 0 d) := x2.out.cell 3
      have U2 := Lib.hid (up ((Below.refl _ _).alloc (Nat.le_refl _) _) u2)
      clear u2 HS
      go_wp2_with fail
      refine (HQ.out _ U2.out).mono ?_
      rintro e w3 ⟨rfl, u3⟩
      have x3 := x2.out.go u3
      have e0 : w3.cell? ⟨w.heap.size, 0, none⟩ = some (.int .i64 ep) := x3.cell 0
      have U3 := Lib.hid (up U2.out u3)
      clear u3 HQ x2 x3 c3
      go_wp2_with fail
      go_ret
      exact ⟨rfl, U3.out⟩
theorem lkCheck_any (l : Lk) (a b : Option Addr) (n c m d : Nat) (w : World) (hg : Good w) (hr : RdS (· < w.heap.size) w l.sent a n c) (hq : RdS (· < w.heap.size) w l.queue b m d) (hf : l.fits) :
    Calls Tryd.prog 54 #[lkV l (.slice a n c) (.slice b m d)] w fun e w' => e = .returned (.int .i64 l.check) ∧ Below w.heap.size w w' := by
  by_cases h1 : l.odd1
  · have : l.check = 9 := if_pos h1
    rw [this]
    exact lk_odd1 l a b n c m d w hf h1
  · by_cases h2 : l.odd2
    · have : l.check = 9 := by unfold Lk.check; rw [if_neg h1, if_pos h2]
      rw [this]
      exact lk_odd2 l a b n c m d w hg hr hq hf h1 h2
    · exact lk_end l a b n c m d w hg hr hq hf h1 h2
/-- a link that may be -/
theorem lk_zero {l : Lk} (h : l.check = 0) : 0 ≤ l.epoch ∧ l.epoch ≤ 1048576 ∧ 1 ≤ l.next ∧ l.next ≤ 1048576 ∧ 0 ≤ l.heard ∧ l.heard ≤ 1048576 ∧ l.sent.length ≤ 8 ∧ (l.sent.length : Int) < l.next ∧ (0 < l.queue.length → l.sent.length = 8) ∧
    frsOk l.sent = true ∧ frsOk l.queue = true ∧ (l.epoch = 0 → l.sent = [] ∧ l.heard = 0) := by
  unfold Lk.check at h
  by_cases h1 : l.odd1
  · rw [if_pos h1] at h; exact absurd h (by decide)
  · rw [if_neg h1] at h
    by_cases h2 : l.odd2
    · rw [if_pos h2] at h; exact absurd h (by decide)
    · rw [if_neg h2] at h
      by_cases h3 : l.epoch = 0 ∧ 0 < (l.sent.length : Int) + l.heard
      · rw [if_pos h3] at h; exact absurd h (by decide)
      · unfold Lk.odd1 at h1
        unfold Lk.odd2 at h2
        have hbs : frsOk l.sent = true := by
          cases hh : frsOk l.sent with
          | true => rfl
          | false => exact absurd (.inr (.inr (.inr (.inl hh)))) h2
        have hbq : frsOk l.queue = true := by
          cases hh : frsOk l.queue with
          | true => rfl
          | false => exact absurd (.inr (.inr (.inr (.inr hh)))) h2
        exact ⟨by omega, by omega, by omega, by omega, by omega, by omega, by omega, by omega, fun hq => by omega, hbs, hbq, fun he => ⟨List.eq_nil_of_length_eq_zero (by omega), by omega⟩⟩
theorem lk_make {l : Lk} (h1 : 0 ≤ l.epoch) (h2 : l.epoch ≤ 1048576) (h3 : 1 ≤ l.next) (h4 : l.next ≤ 1048576) (h5 : 0 ≤ l.heard) (h6 : l.heard ≤ 1048576) (h7 : l.sent.length ≤ 8) (h8 : (l.sent.length : Int) < l.next) (h9 : 0 < l.queue.length → l.sent.length = 8)
    (h10 : frsOk l.sent = true) (h11 : frsOk l.queue = true) (h12 : l.epoch = 0 → l.sent = [] ∧ l.heard = 0) : l.check = 0 := by
  unfold Lk.check
  rw [if_neg (by unfold Lk.odd1; omega), if_neg, if_neg]
  · rintro ⟨he, hs⟩
    obtain ⟨h13, h14⟩ := h12 he
    rw [h13, h14] at hs
    simp at hs
  · unfold Lk.odd2
    rw [h10, h11]
    simp
    omega
end Go.Proofs.YtkbfhgcjimfgkaaDoor

set_option linter.unusedVariables false
set_option linter.unusedSimpArgs false
namespace Go.Proofs.YtkbfhgcjimfgkaaDoor
open Go.RowKit

set_option maxRecDepth 100000 in
set_option maxHeartbeats 1000000 in
theorem clone_any (o : Op) (a : Option Addr) (n c : Nat) (w : World) (hr : RdS (· < w.heap.size) w o a n c) (hn : n ≤ 1000000000) :
    Calls Tryd.prog 82 #[.slice a n c] w (CopyPost w o) := by
  obtain ⟨i0, hi, hz0, hz1, hz2⟩ := info_parts infoP
  have hnl := hr.1
  have hfit := hr.fits
  by_cases h0 : n = 0
  · have ho : o = [] := List.eq_nil_of_length_eq_zero (by omega)
    subst ho h0
    have hca := hr.2.2.2.1
    clear hr hfit hnl
    cases a with
    | none =>
      have Hfin : Hid (CopyPost w [] (.returned (.slice none 0 0)) w) := ⟨none, 0, rfl, RdS.nil' _ _ _ _ (by unfold maxLen; omega) (fun _ => rfl), Below.refl _ _⟩
      have hc0 : c = 0 := hca rfl
      subst hc0
      clear hca
      have heq := fun W : World => Lib.run_eql_slice_nil (P := Tryd.prog) W 42 53 none 0 0 0 0 Tryd.underlying42
      go_enter Tryd.func82, Tryd.ntmps82
      go_wp2_with fail
      go_ret
      exact Hfin.out
    | some ad =>
      clear hca
      have Hfin : Hid (CopyPost w [] (.returned (.slice (some ⟨w.heap.size, 0, none⟩) 0 0)) (w.alloc (.cells #[] 53))) := ⟨some ⟨w.heap.size, 0, none⟩, 0, rfl, RdS.nil' _ _ _ _ (by unfold maxLen; omega) (fun h => by cases h), (Below.refl _ _).alloc (Nat.le_refl _) _⟩
      have heq := fun W : World => Lib.run_eql_slice_nil (P := Tryd.prog) W 42 53 (some ad) 0 c 0 0 Tryd.underlying42
      go_enter Tryd.func82, Tryd.ntmps82
      go_wp2_with (at_builtin; refine wpList_append_empty rfl _ _ _ (by rfl) 53 i0 Tryd.underlying42 hi (some ⟨w.heap.size, 0, none⟩) 0 (by rfl) (some ad) c (by rfl) ?_)
      go_ret
      exact Hfin.out
  · obtain ⟨b, off, rfl, _, hbs, _⟩ := hr.part (by omega)
    have hnews := hr.news (by omega)
    have Hfit := Lib.hid hfit
    have Hnews := Lib.hid (p := ∀ W : World, Below w.heap.size w W → ∀ j u, (flat o)[j]? = some u → W.cell? ((⟨b, off, none⟩ : Addr).add j) = some u) (fun W hW j u hu => (hW.cell (p := (⟨b, off, none⟩ : Addr).add j) (by unfold Addr.add; split <;> exact hbs)).trans (hnews j u hu))
    have Hnl := Lib.hid hnl
    have hfl : (flat o).length = n * 3 := by rw [flat_len]; omega
    have Hfl := Lib.hid hfl
    have Hown : Hid ((w.alloc (.cells #[] 53)).ownsRow w.heap.size 53 3 (.slice (some ⟨w.heap.size, 0, none⟩) 0 0) 0 []) := ⟨rfl, .inr ⟨w.heap.size, 0, #[], rfl, Nat.le_refl _, heap_alloc_new w _, Nat.le_refl _, by unfold maxLen; omega, rfl, rfl⟩⟩
    clear hr hfit hnews hnl hfl
    have heq := fun W : World => Lib.run_eql_slice_nil (P := Tryd.prog) W 42 53 (some ⟨b, off, none⟩) n c 0 0 Tryd.underlying42
    go_enter Tryd.func82, Tryd.ntmps82
    go_wp2_with (at_builtin; refine wpList_append_lies _ rfl _ _ _ (by rfl) w.heap.size 53 i0 _ 3 32 Tryd.underlying42 hi hz0 hz1 hz2 rfl (by omega) (.slice (some ⟨w.heap.size, 0, none⟩) 0 0) 0 [] (by rfl) Hown.out ⟨b, off, none⟩ n c (flat o) (by rfl) Hfl.out (Hnews.out _ ((Below.refl _ _).alloc (Nat.le_refl _) _)) (flat_one' o) (by omega) (by unfold maxLen; omega) (by omega) (by simp) (w.heap.size + 1) (by simp) ?_)
    intro gg cap w1 hown1 hgrow hat hlt1
    have Hfin : Hid (CopyPost w o (.returned (.slice (some ⟨gg, 0, none⟩) n cap)) w1) := by
      have hnl := Hnl.out
      try rw [Nat.zero_add] at hown1
      try rw [List.nil_append] at hown1
      rw [hnl] at hown1
      obtain ⟨a2, c2, hv, hr2⟩ := RdS.of_own hown1 Hfit.out
      injection hv with h1 h2 h3
      subst h1 h3
      refine ⟨_, _, by rw [hnl], hr2, ?_⟩
      exact ((Below.refl _ _).alloc (Nat.le_refl _) _).grown hgrow (by simp) (fun g hg => by simp [Value.ownBlock] at hg; omega)
    clear hown1 hgrow hat
    go_wp2_with fail
    go_ret
    exact Hfin.out
end Go.Proofs.YtkbfhgcjimfgkaaDoor
