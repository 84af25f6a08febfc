/- Plain: numbers, texts and operations as bytes, and bytes read. No program in sight. -/
import Derived.Test.YtdbdhpjjndhjiaaDoorBase
set_option linter.unusedSimpArgs false
namespace Go.Proofs.YtdbdhpjjndhjiaaDoor
open Go.RowKit

abbrev Bs := List UInt8
/-- a number: seven bits a byte, the lowest first -/
def numB (n : Nat) : Bs := if n < 128 then [UInt8.ofNat n] else UInt8.ofNat (n % 128 + 128) :: numB (n / 128)
termination_by n
decreasing_by omega
theorem numB_small {n : Nat} (h : n < 128) : numB n = [UInt8.ofNat n] := by rw [numB, if_pos h]
theorem numB_big {n : Nat} (h : ¬ n < 128) : numB n = UInt8.ofNat (n % 128 + 128) :: numB (n / 128) := by rw [numB, if_neg h]
/-- a number that is read: the i'th byte is next, n is what came; behind an error nothing is left -/
def tk (i n : Nat) : Bs → Nat × Bs × Int
  | [] => (0, [], 5)
  | c :: l => if (0 < i ∧ c.toNat = 0) ∨ (i = 3 ∧ 127 < c.toNat) then (0, [], 4)
    else if c.toNat < 128 then (n + c.toNat * 2 ^ (7 * i), l, 0) else tk (i + 1) (n + (c.toNat % 128) * 2 ^ (7 * i)) l
theorem tk_nil (i n : Nat) : tk i n [] = (0, [], 5) := rfl
theorem tk_bad {i n : Nat} {c : UInt8} {l : Bs} (h : (0 < i ∧ c.toNat = 0) ∨ (i = 3 ∧ 127 < c.toNat)) : tk i n (c :: l) = (0, [], 4) := by rw [tk, if_pos h]
theorem tk_end {i n : Nat} {c : UInt8} {l : Bs} (h : ¬ ((0 < i ∧ c.toNat = 0) ∨ (i = 3 ∧ 127 < c.toNat))) (h2 : c.toNat < 128) : tk i n (c :: l) = (n + c.toNat * 2 ^ (7 * i), l, 0) := by rw [tk, if_neg h, if_pos h2]
theorem tk_on {i n : Nat} {c : UInt8} {l : Bs} (h : ¬ ((0 < i ∧ c.toNat = 0) ∨ (i = 3 ∧ 127 < c.toNat))) (h2 : ¬ c.toNat < 128) : tk i n (c :: l) = tk (i + 1) (n + (c.toNat % 128) * 2 ^ (7 * i)) l := by rw [tk, if_neg h, if_neg h2]
theorem ofNat_toNat' {n : Nat} (h : n < 256) : (UInt8.ofNat n).toNat = n := by simp [UInt8.toNat_ofNat']; omega
theorem pow7 (i : Nat) : 2 ^ (7 * (i + 1)) = 128 * 2 ^ (7 * i) := by rw [show 7 * (i + 1) = 7 * i + 7 from by omega, Nat.pow_add]; omega
/-- what was written is read -/
theorem tk_num (k : Nat) : ∀ (i n m : Nat) (l : Bs), i + k = 3 → m < 128 ^ (k + 1) → (i = 0 ∨ 0 < m) → tk i n (numB m ++ l) = (n + m * 2 ^ (7 * i), l, 0) := by
  induction k with
  | zero =>
    intro i n m l hi hm h0
    have h1 : m < 128 := by simpa using hm
    rw [numB_small h1, List.cons_append, List.nil_append, tk_end (by rw [ofNat_toNat' (by omega)]; omega) (by rw [ofNat_toNat' (by omega)]; exact h1), ofNat_toNat' (by omega)]
  | succ k ih =>
    intro i n m l hi hm h0
    by_cases h1 : m < 128
    · rw [numB_small h1, List.cons_append, List.nil_append, tk_end (by rw [ofNat_toNat' (by omega)]; omega) (by rw [ofNat_toNat' (by omega)]; exact h1), ofNat_toNat' (by omega)]
    · have e : (UInt8.ofNat (m % 128 + 128)).toNat = m % 128 + 128 := ofNat_toNat' (by omega)
      have hd : m / 128 < 128 ^ (k + 1) := by rw [Nat.div_lt_iff_lt_mul (by omega)]; rw [Nat.pow_succ] at hm; exact hm
      rw [numB_big h1, List.cons_append, tk_on (by rw [e]; omega) (by rw [e]; omega), e, ih (i + 1) _ _ l (by omega) hd (by right; omega), pow7]
      have h3 : (m % 128 + 128) % 128 = m % 128 := by omega
      rw [h3, Nat.add_assoc]
      congr 2
      have h4 := Nat.div_add_mod m 128
      calc m % 128 * 2 ^ (7 * i) + m / 128 * (128 * 2 ^ (7 * i)) = (m % 128 + m / 128 * 128) * 2 ^ (7 * i) := by rw [Nat.add_mul, Nat.mul_assoc]
        _ = m * 2 ^ (7 * i) := by rw [show m % 128 + m / 128 * 128 = m from by omega]
/-- a piece of what was written ends too early -/
theorem tk_short (k : Nat) : ∀ (i n m j : Nat), i + k = 3 → m < 128 ^ (k + 1) → j < (numB m).length → tk i n ((numB m).take j) = (0, [], 5) := by
  induction k with
  | zero =>
    intro i n m j hi hm hj
    have h1 : m < 128 := by simpa using hm
    rw [numB_small h1] at hj ⊢
    have : j = 0 := by simp at hj; omega
    subst this; rfl
  | succ k ih =>
    intro i n m j hi hm hj
    cases j with
    | zero => simp [tk_nil]
    | succ j =>
      by_cases h1 : m < 128
      · rw [numB_small h1] at hj; simp at hj
      · have e : (UInt8.ofNat (m % 128 + 128)).toNat = m % 128 + 128 := ofNat_toNat' (by omega)
        have hd : m / 128 < 128 ^ (k + 1) := by rw [Nat.div_lt_iff_lt_mul (by omega)]; rw [Nat.pow_succ] at hm; exact hm
        rw [numB_big h1] at hj ⊢
        rw [List.take_succ_cons, tk_on (by rw [e]; omega) (by rw [e]; omega)]
        exact ih _ _ _ _ (by omega) hd (by simpa using hj)
/-- what is read was written in the one way -/
theorem tk_inv (k : Nat) : ∀ (i n : Nat) (b : Bs) (v : Nat) (l : Bs), i + k = 3 → tk i n b = (v, l, 0) → ∃ m, v = n + m * 2 ^ (7 * i) ∧ b = numB m ++ l ∧ m < 128 ^ (k + 1) ∧ (i = 0 ∨ 0 < m) := by
  induction k with
  | zero =>
    intro i n b v l hi h
    cases b with
    | nil => simp [tk_nil] at h
    | cons c b =>
      by_cases hb : (0 < i ∧ c.toNat = 0) ∨ (i = 3 ∧ 127 < c.toNat)
      · rw [tk_bad hb] at h; simp at h
      · have h2 : c.toNat < 128 := by omega
        rw [tk_end hb h2] at h
        simp only [Prod.mk.injEq, and_true] at h
        refine ⟨c.toNat, h.1.symm, ?_, by simpa using h2, by omega⟩
        rw [numB_small h2, ← h.2]; simp
  | succ k ih =>
    intro i n b v l hi h
    cases b with
    | nil => simp [tk_nil] at h
    | cons c b =>
      by_cases hb : (0 < i ∧ c.toNat = 0) ∨ (i = 3 ∧ 127 < c.toNat)
      · rw [tk_bad hb] at h; simp at h
      · by_cases h2 : c.toNat < 128
        · rw [tk_end hb h2] at h
          simp only [Prod.mk.injEq, and_true] at h
          refine ⟨c.toNat, h.1.symm, ?_, ?_, by omega⟩
          · rw [numB_small h2, ← h.2]; simp
          · have : 128 ^ 1 ≤ 128 ^ (k + 1 + 1) := Nat.pow_le_pow_right (by omega) (by omega)
            omega
        · rw [tk_on hb h2] at h
          obtain ⟨m, h3, h4, h5, h6⟩ := ih _ _ _ _ _ (by omega) h
          have hc := c.toNat_lt
          have h7 : 0 < m := by omega
          have h8 : ¬ (m * 128 + c.toNat % 128) < 128 := by omega
          refine ⟨m * 128 + c.toNat % 128, ?_, ?_, ?_, by right; omega⟩
          · rw [h3, pow7, Nat.add_assoc]
            congr 1
            rw [Nat.add_mul, Nat.mul_assoc, Nat.add_comm]
          · rw [numB_big h8, h4]
            have e1 : (m * 128 + c.toNat % 128) % 128 + 128 = c.toNat := by omega
            have e2 : (m * 128 + c.toNat % 128) / 128 = m := by omega
            rw [e1, e2]; simp
          · rw [Nat.pow_succ]; omega
theorem numB_len (n : Nat) : 1 ≤ (numB n).length := by
  by_cases h : n < 128
  · rw [numB_small h]; simp
  · rw [numB_big h]; simp
theorem numB_len2 {n : Nat} (h : n < 16384) : (numB n).length ≤ 2 := by
  by_cases h1 : n < 128
  · rw [numB_small h1]; simp
  · rw [numB_big h1, numB_small (by omega)]; simp
theorem numB_len3 {n : Nat} (h : n < 2097152) : (numB n).length ≤ 3 := by
  by_cases h1 : n < 128
  · rw [numB_small h1]; simp
  · rw [numB_big h1]; have := numB_len2 (n := n / 128) (by omega); simp only [List.length_cons]; omega

/-! ### a reader -/
structure Rd where
  rest : Bs
  fault : Int
def Rd.fail (r : Rd) (e : Int) : Rd := ⟨[], if r.fault = 0 then e else r.fault⟩
def Rd.take (r : Rd) : Nat × Rd := if r.fault = 0 then ((tk 0 0 r.rest).1, ⟨(tk 0 0 r.rest).2.1, (tk 0 0 r.rest).2.2⟩) else (0, r)
/-- bytes as a string -/
def strOf (b : Bs) : Str := ⟨b.toArray⟩
def Rd.text (r : Rd) : Str × Rd := if r.take.2.rest.length < r.take.1 then (noT, r.take.2.fail 5) else (strOf (r.take.2.rest.take r.take.1), ⟨r.take.2.rest.drop r.take.1, r.take.2.fault⟩)
where noT : Str := ⟨#[]⟩
def Rd.part (r : Rd) : Part × Rd :=
  if r.take.1 = 2 then (⟨2, 0, r.take.2.text.1⟩, r.take.2.text.2) else (⟨r.take.1, r.take.2.take.1, Rd.text.noT⟩, r.take.2.take.2)
def Rd.parts : Nat → Rd → Op × Rd
  | 0, r => ([], r)
  | n + 1, r => if r.fault = 0 then (r.part.1 :: (Rd.parts n r.part.2).1, (Rd.parts n r.part.2).2) else ([], r)
def Rd.op (r : Rd) : Op × Rd := Rd.parts r.take.1 r.take.2
def Rd.done (r : Rd) : Rd := if r.fault = 0 ∧ r.rest ≠ [] then r.fail 4 else r

/-! ### what is written -/
def textB (s : Str) : Bs := numB s.size ++ s.data.toList
def partB (p : Part) : Bs := numB p.kind.toNat ++ if p.kind = 2 then textB p.text else numB p.n.toNat
def opB (o : Op) : Bs := numB o.length ++ o.flatMap partB

/-- E is what D reads: D reads it whole, and what follows stays; a piece of it ends too early; what D reads without a fault is E of it -/
structure Code {α : Type} (D : Rd → α × Rd) (x : α) (e : Bs) : Prop where
  all : ∀ l : Bs, D ⟨e ++ l, 0⟩ = (x, ⟨l, 0⟩)
  torn : ∀ j, j < e.length → (D ⟨e.take j, 0⟩).2 = ⟨[], 5⟩
theorem fault_take (r : Rd) (h : r.fault ≠ 0) : r.take = (0, r) := by unfold Rd.take; rw [if_neg h]
theorem code_num {n : Nat} (h : n < 268435456) : Code Rd.take n (numB n) := by
  have h' : n < 128 ^ (3 + 1) := by simpa using h
  refine ⟨fun l => ?_, fun j hj => ?_⟩
  · unfold Rd.take
    rw [if_pos rfl, tk_num 3 0 0 n l rfl h' (.inl rfl)]
    simp
  · unfold Rd.take
    rw [if_pos rfl, tk_short 3 0 0 n j rfl h' hj]
theorem take_inv {b : Bs} {n : Nat} {r : Rd} (h : Rd.take ⟨b, 0⟩ = (n, r)) (hr : r.fault = 0) : n < 268435456 ∧ b = numB n ++ r.rest := by
  unfold Rd.take at h
  rw [if_pos rfl] at h
  simp only [Prod.mk.injEq] at h
  obtain ⟨h1, h2⟩ := h
  subst h2
  simp only at hr
  have := tk_inv 3 0 0 b n (tk 0 0 b).2.1 rfl (by rw [← hr, ← h1])
  obtain ⟨m, e1, e2, e3, -⟩ := this
  simp at e1
  subst e1
  exact ⟨by simpa using e3, e2⟩
theorem strOf_list (s : Str) : strOf s.data.toList = s := by cases s; simp [strOf]
theorem take_app_lt {a b : Bs} {j : Nat} (h : ¬ j < a.length) : (a ++ b).take j = a ++ b.take (j - a.length) := by
  rw [List.take_append, List.take_of_length_le (by omega)]
theorem take_app_ge {a b : Bs} {j : Nat} (h : j < a.length) : (a ++ b).take j = a.take j := by
  rw [List.take_append_of_le_length (by omega)]
/-- one thing, and then another one that hangs on it -/
theorem torn_seq {α : Type} {D : Rd → α × Rd} {x : α} {e : Bs} (h : Code D x e) {f : Rd → Rd} {e' : Bs} (hf : ∀ j, j < e'.length → f ⟨e'.take j, 0⟩ = ⟨[], 5⟩) (h5 : f ⟨[], 5⟩ = ⟨[], 5⟩) :
    ∀ j, j < (e ++ e').length → f (D ⟨(e ++ e').take j, 0⟩).2 = ⟨[], 5⟩ := by
  intro j hj
  rw [List.length_append] at hj
  by_cases hl : j < e.length
  · rw [take_app_ge hl, h.torn j hl, h5]
  · rw [take_app_lt hl, h.all]
    exact hf _ (by omega)
theorem code_text {s : Str} (h : s.size < 268435456) : Code Rd.text s (textB s) := by
  have hn := code_num h
  have hz : s.data.toList.length = s.size := Array.length_toList
  refine ⟨fun l => ?_, fun j hj => ?_⟩
  · unfold Rd.text textB
    rw [List.append_assoc, hn.all]
    simp only
    rw [if_neg (by rw [List.length_append, hz]; omega), ← hz, List.take_left, List.drop_left, strOf_list]
  · unfold textB at hj ⊢
    by_cases hl : j < (numB s.size).length
    · unfold Rd.text
      rw [take_app_ge hl, hn.torn j hl]
      have h0 : (Rd.take ⟨(numB s.size).take j, 0⟩).1 = 0 := by
        unfold Rd.take
        rw [if_pos rfl, tk_short 3 0 0 s.size j rfl (Nat.lt_of_lt_of_eq h rfl) hl]
      rw [h0, if_neg (Nat.not_lt_zero _)]
      rfl
    · unfold Rd.text
      rw [take_app_lt hl, hn.all]
      simp only
      rw [List.length_append, hz] at hj
      rw [if_pos (by rw [List.length_take]; omega)]
      rfl
theorem text_inv {b : Bs} {s : Str} {r : Rd} (h : Rd.text ⟨b, 0⟩ = (s, r)) (hr : r.fault = 0) : s.size < 268435456 ∧ b = textB s ++ r.rest := by
  unfold Rd.text at h
  generalize hk : Rd.take ⟨b, 0⟩ = x at h
  obtain ⟨n, q⟩ := x
  simp only at h
  split at h
  · simp only [Prod.mk.injEq] at h
    obtain ⟨-, h2⟩ := h
    subst h2
    unfold Rd.fail at hr
    simp only at hr
    split at hr
    · exact absurd hr (by decide)
    · exact absurd hr (by assumption)
  · rename_i hle
    simp only [Prod.mk.injEq] at h
    obtain ⟨h1, h2⟩ := h
    subst h2
    obtain ⟨t1, t2⟩ := take_inv hk hr
    have hz : s.size = n := by rw [← h1]; simp [strOf, ByteArray.size]; omega
    refine ⟨by omega, ?_⟩
    have h3 : s.data.toList = q.rest.take n := by rw [← h1]; simp [strOf]
    unfold textB
    rw [hz, h3, List.append_assoc, List.take_append_drop]
    exact t2
/-- a part that may be written -/
def Fine (p : Part) : Prop := 0 ≤ p.kind ∧ p.kind < 268435456 ∧ (p.kind = 2 → p.n = 0 ∧ p.text.size < 268435456) ∧ (p.kind ≠ 2 → 0 ≤ p.n ∧ p.n < 268435456 ∧ p.text = Rd.text.noT)
theorem part_fault (r : Rd) (h : r.fault ≠ 0) : r.part.2 = r := by
  unfold Rd.part
  rw [fault_take r h]
  rw [if_neg (by simp)]
  simp only
  rw [fault_take r h]
theorem text_5 : (Rd.text ⟨[], 5⟩).2 = ⟨[], 5⟩ := by
  unfold Rd.text
  rw [fault_take _ (by decide), if_neg (by simp)]
  simp
theorem code_part {p : Part} (h : Fine p) : Code Rd.part p (partB p) := by
  obtain ⟨h1, h2, h3, h4⟩ := h
  obtain ⟨k, n, t⟩ := p
  simp only at h1 h2 h3 h4
  obtain ⟨k, rfl⟩ : ∃ m : Nat, k = (m : Int) := ⟨k.toNat, by omega⟩
  have hn := code_num (n := k) (by omega)
  unfold partB
  simp only [Int.toNat_natCast]
  by_cases hk : (k : Int) = 2
  · rw [if_pos hk]
    obtain ⟨rfl, h6⟩ := h3 hk
    have hk2 : k = 2 := by omega
    subst hk2
    have ht := code_text h6
    refine ⟨fun l => ?_, fun j hj => ?_⟩
    · unfold Rd.part
      rw [List.append_assoc, hn.all]
      simp only [if_true]
      rw [ht.all]; rfl
    · by_cases hl : j < (numB 2).length
      · unfold Rd.part
        rw [take_app_ge hl, hn.torn j hl]
        have h0 : (Rd.take ⟨(numB 2).take j, 0⟩).1 = 0 := by
          unfold Rd.take
          rw [if_pos rfl, tk_short 3 0 0 2 j rfl (by decide) hl]
        rw [h0, if_neg (by decide)]
        simp only
        rw [fault_take _ (by decide)]
      · unfold Rd.part
        rw [take_app_lt hl, hn.all]
        simp only [if_true]
        rw [List.length_append] at hj
        exact ht.torn _ (by omega)
  · rw [if_neg hk]
    obtain ⟨h6, h7, rfl⟩ := h4 hk
    obtain ⟨n, rfl⟩ : ∃ m : Nat, n = (m : Int) := ⟨n.toNat, by omega⟩
    have ht := code_num (n := n) (by omega)
    have hk2 : k ≠ 2 := by omega
    simp only [Int.toNat_natCast]
    refine ⟨fun l => ?_, fun j hj => ?_⟩
    · unfold Rd.part
      rw [List.append_assoc, hn.all]
      simp only
      rw [if_neg hk2, ht.all]
    · by_cases hl : j < (numB k).length
      · unfold Rd.part
        rw [take_app_ge hl, hn.torn j hl]
        have h0 : (Rd.take ⟨(numB k).take j, 0⟩).1 = 0 := by
          unfold Rd.take
          rw [if_pos rfl, tk_short 3 0 0 k j rfl (by simp; omega) hl]
        rw [h0, if_neg (by decide)]
        simp only
        rw [fault_take _ (by decide)]
      · unfold Rd.part
        rw [take_app_lt hl, hn.all]
        simp only
        rw [if_neg hk2]
        rw [List.length_append] at hj
        exact ht.torn _ (by omega)
theorem part_inv {b : Bs} {p : Part} {r : Rd} (h : Rd.part ⟨b, 0⟩ = (p, r)) (hr : r.fault = 0) : Fine p ∧ b = partB p ++ r.rest := by
  unfold Rd.part at h
  generalize hk : Rd.take ⟨b, 0⟩ = x at h
  obtain ⟨k, q⟩ := x
  simp only at h
  by_cases hq : q.fault = 0
  · obtain ⟨t1, t2⟩ := take_inv hk hq
    obtain ⟨qr, qf⟩ := q
    simp only at hq t2
    subst hq
    by_cases h2 : k = 2
    · subst h2
      rw [if_pos rfl] at h
      generalize ht : Rd.text ⟨qr, 0⟩ = y at h
      obtain ⟨s, r2⟩ := y
      simp only [Prod.mk.injEq] at h
      obtain ⟨rfl, rfl⟩ := h
      obtain ⟨u1, u2⟩ := text_inv ht hr
      refine ⟨⟨by simp, by simp, fun _ => ⟨rfl, u1⟩, fun h => absurd rfl h⟩, ?_⟩
      unfold partB
      rw [if_pos rfl, t2, u2, List.append_assoc]; rfl
    · rw [if_neg h2] at h
      generalize ht : Rd.take ⟨qr, 0⟩ = y at h
      obtain ⟨n, r2⟩ := y
      simp only [Prod.mk.injEq] at h
      obtain ⟨rfl, rfl⟩ := h
      obtain ⟨u1, u2⟩ := take_inv ht hr
      refine ⟨⟨by simp, by simp only; omega, fun h => absurd h (by simp only; omega), fun _ => ⟨by simp, by simp only; omega, rfl⟩⟩, ?_⟩
      unfold partB
      simp only [Int.toNat_natCast]
      rw [if_neg (by omega), t2, u2, List.append_assoc]
  · exfalso
    by_cases h2 : k = 2
    · have hk' := hk
      unfold Rd.take at hk'
      rw [if_pos rfl] at hk'
      simp only [Prod.mk.injEq] at hk'
      obtain ⟨e1, e2⟩ := hk'
      have : ∀ (b : Bs) (i n : Nat), (tk i n b).2.2 ≠ 0 → (tk i n b).1 = 0 := by
        intro b
        induction b with
        | nil => intro i n _; rfl
        | cons c b ih =>
          intro i n
          by_cases hb : (0 < i ∧ c.toNat = 0) ∨ (i = 3 ∧ 127 < c.toNat)
          · rw [tk_bad hb]; simp
          · by_cases hc : c.toNat < 128
            · rw [tk_end hb hc]; simp
            · rw [tk_on hb hc]; exact ih _ _
      have h3 := this b 0 0 (by rw [← e2] at hq; exact hq)
      omega
    · rw [if_neg h2, fault_take q hq] at h
      simp only [Prod.mk.injEq] at h
      rw [← h.2] at hr
      exact hq hr
theorem parts_5 (n : Nat) : (Rd.parts n ⟨[], 5⟩).2 = ⟨[], 5⟩ := by
  cases n with
  | zero => rfl
  | succ n => unfold Rd.parts; rw [if_neg (by decide)]
theorem code_parts (o : Op) : (∀ p ∈ o, Fine p) → Code (Rd.parts o.length) o (o.flatMap partB) := by
  induction o with
  | nil => intro _; exact ⟨fun l => rfl, fun j hj => by simp at hj⟩
  | cons p o ih =>
    intro h
    have hp := code_part (h p (List.mem_cons_self ..))
    have ho := ih fun q hq => h q (List.mem_cons_of_mem _ hq)
    refine ⟨fun l => ?_, fun j hj => ?_⟩
    · rw [List.flatMap_cons, List.append_assoc, List.length_cons]
      unfold Rd.parts
      rw [if_pos rfl, hp.all]
      simp only
      rw [ho.all]
    · rw [List.flatMap_cons] at hj ⊢
      rw [List.length_cons]
      unfold Rd.parts
      rw [if_pos rfl]
      exact torn_seq (f := fun q => (Rd.parts o.length q).2) hp ho.torn (parts_5 _) j hj
theorem parts_inv (n : Nat) : ∀ {b : Bs} {o : Op} {r : Rd}, Rd.parts n ⟨b, 0⟩ = (o, r) → r.fault = 0 → o.length = n ∧ (∀ p ∈ o, Fine p) ∧ b = o.flatMap partB ++ r.rest := by
  induction n with
  | zero =>
    intro b o r h _
    simp only [Rd.parts, Prod.mk.injEq] at h
    obtain ⟨rfl, rfl⟩ := h
    exact ⟨rfl, by simp, by simp⟩
  | succ n ih =>
    intro b o r h hr
    unfold Rd.parts at h
    rw [if_pos rfl] at h
    generalize hp : Rd.part ⟨b, 0⟩ = x at h
    obtain ⟨p, q⟩ := x
    simp only at h
    generalize hq : Rd.parts n q = y at h
    obtain ⟨o', r'⟩ := y
    simp only [Prod.mk.injEq] at h
    obtain ⟨rfl, rfl⟩ := h
    have hf : q.fault = 0 := by
      by_cases hf : q.fault = 0
      · exact hf
      · exfalso
        cases n with
        | zero => simp only [Rd.parts, Prod.mk.injEq] at hq; rw [← hq.2] at hr; exact hf hr
        | succ n => unfold Rd.parts at hq; rw [if_neg hf] at hq; simp only [Prod.mk.injEq] at hq; rw [← hq.2] at hr; exact hf hr
    obtain ⟨f1, f2⟩ := part_inv hp hf
    obtain ⟨qr, qf⟩ := q
    simp only at hf f2
    subst hf
    obtain ⟨g1, g2, g3⟩ := ih hq hr
    refine ⟨by simp [g1], fun x hx => ?_, ?_⟩
    · rcases List.mem_cons.1 hx with rfl | hx
      · exact f1
      · exact g2 x hx
    · rw [f2, g3]; simp
theorem code_op {o : Op} (hl : o.length < 268435456) (h : ∀ p ∈ o, Fine p) : Code Rd.op o (opB o) := by
  have hn := code_num hl
  have hp := code_parts o h
  refine ⟨fun l => ?_, fun j hj => ?_⟩
  · unfold Rd.op opB
    rw [List.append_assoc, hn.all]
    simp only
    exact hp.all l
  · unfold opB at hj ⊢
    unfold Rd.op
    by_cases hl' : j < (numB o.length).length
    · rw [take_app_ge hl', hn.torn j hl', parts_5]
    · rw [take_app_lt hl', hn.all]
      simp only
      rw [List.length_append] at hj
      exact hp.torn _ (by omega)
theorem op_inv {b : Bs} {o : Op} {r : Rd} (h : Rd.op ⟨b, 0⟩ = (o, r)) (hr : r.fault = 0) : o.length < 268435456 ∧ (∀ p ∈ o, Fine p) ∧ b = opB o ++ r.rest := by
  unfold Rd.op at h
  generalize hk : Rd.take ⟨b, 0⟩ = x at h
  obtain ⟨k, q⟩ := x
  simp only at h
  have hf : q.fault = 0 := by
    by_cases hf : q.fault = 0
    · exact hf
    · exfalso
      cases k with
      | zero => simp only [Rd.parts, Prod.mk.injEq] at h; rw [← h.2] at hr; exact hf hr
      | succ n => unfold Rd.parts at h; rw [if_neg hf] at h; simp only [Prod.mk.injEq] at h; rw [← h.2] at hr; exact hf hr
  obtain ⟨t1, t2⟩ := take_inv hk hf
  obtain ⟨qr, qf⟩ := q
  simp only at hf t2
  subst hf
  obtain ⟨g1, g2, g3⟩ := parts_inv k h hr
  refine ⟨by omega, g2, ?_⟩
  unfold opB
  rw [g1, t2, g3, List.append_assoc]
end Go.Proofs.YtdbdhpjjndhjiaaDoor
