/- The first texts of this claim, one behind the other. -/
import Derived.WalkKit
import Derived.WalkSpells
import Derived.WalkLawsBesides
import Derived.Deep.Draws
import Derived.Shelf.Unicode.DecodeSlow
import Derived.Test.YtdbdhpjjndhjiaaDoorRows
import Derived.Test.YtdbdhpjjndhjiaaDoorShelf
import Derived.Lib.RuneCount
import Derived.Lib.ValidLaws
import Derived.BigQuiet
import Derived.Deep.QuietTactic
import Derived.Lib.Hide
import Derived.Lib.MapLaws
import Derived.Lib.TrimUEq
import GoSem.Conv.StringToRunes
import Derived.OwnWalk
import Derived.WalkSmall
namespace Go.Proofs.YtdbdhpjjndhjiaaDoor
open Go.RowKit

abbrev Str := ByteArray
structure Part where
  kind : Int
  n : Int
  text : Str
abbrev Op := List Part
def emptyS (s : Str) : Bool := s.toList.isEmpty

/-- no string is longer -/
def strMax : Nat := 140737488355328
theorem strMax_lt : strMax < maxLen := by unfold strMax maxLen; omega
/-- a number that an int holds -/
def I64 (x : Int) : Prop := -9223372036854775808 ≤ x ∧ x ≤ 9223372036854775807

/-- Data of type α lie in 'n' cells; 'rd A w x cs': the cells cs read as x in the world w; all memory that is reached lies in blocks that A allows. -/
class Rep (α : Type) where
  n : Nat
  rd : (Nat → Prop) → World → α → List Value → Prop
  len : ∀ {A w x cs}, rd A w x cs → cs.length = n
  mono : ∀ {A A' : Nat → Prop} {w w' : World} {x cs}, (∀ b, A b → A' b ∧ w'.heap[b]? = w.heap[b]?) → rd A w x cs → rd A' w' x cs
  one : ∀ {A w x cs}, rd A w x cs → ∀ v ∈ cs, v.oneCell' = true
  pos : 0 < n

instance : Rep Int where
  n := 1
  rd := fun _ _ x cs => cs = [.int .i64 x] ∧ I64 x
  len := fun h => by rw [h.1]; rfl
  mono := fun _ h => h
  one := fun h => by rw [h.1]; simp [Value.oneCell']
  pos := by decide
instance : Rep Bool where
  n := 1
  rd := fun _ _ x cs => cs = [.bool x]
  len := fun h => by rw [h]; rfl
  mono := fun _ h => h
  one := fun h => by rw [h]; simp [Value.oneCell']
  pos := by decide
instance : Rep Str where
  n := 1
  rd := fun _ _ x cs => cs = [.string x] ∧ x.size ≤ strMax
  len := fun h => by rw [h.1]; rfl
  mono := fun _ h => h
  one := fun h => by rw [h.1]; simp [Value.oneCell']
  pos := by decide
instance : Rep Part where
  n := 3
  rd := fun _ _ x cs => cs = [.int .i64 x.kind, .int .i64 x.n, .string x.text] ∧ I64 x.kind ∧ I64 x.n ∧ x.text.size ≤ strMax
  len := fun h => by rw [h.1]; rfl
  mono := fun _ h => h
  one := fun h => by rw [h.1]; simp [Value.oneCell']
  pos := by decide

/-- the elements of a slice at block b, from cell off on -/
def Elems {α : Type} [Rep α] (A : Nat → Prop) (w : World) (b off : Nat) (l : List α) : Prop :=
  ∀ i x, l[i]? = some x → ∃ xs, Rep.rd A w x xs ∧ ∀ j v, xs[j]? = some v → w.cell? ⟨b, off + i * Rep.n α + j, none⟩ = some v

/-- a slice value that reads as a list -/
def RdS {α : Type} [Rep α] (A : Nat → Prop) (w : World) (l : List α) (a : Option Addr) (n c : Nat) : Prop :=
  n = l.length ∧ n ≤ c ∧ c ≤ maxLen ∧ (a = none → c = 0) ∧
  (0 < n → ∃ b off, a = some ⟨b, off, none⟩ ∧ A b ∧ b < w.heap.size ∧ Elems A w b off l)

theorem cell_keep {w w' : World} {b o : Nat} (h : w'.heap[b]? = w.heap[b]?) : w'.cell? ⟨b, o, none⟩ = w.cell? ⟨b, o, none⟩ :=
  World.cell?_of_block (a := ⟨b, o, none⟩) h

theorem Elems.mono {α : Type} [Rep α] {A A' : Nat → Prop} {w w' : World} {b off : Nat} {l : List α} (hb : A b) (h : ∀ b, A b → A' b ∧ w'.heap[b]? = w.heap[b]?)
    (he : Elems A w b off l) : Elems A' w' b off l := by
  intro i x hx
  obtain ⟨xs, h1, h2⟩ := he i x hx
  exact ⟨xs, Rep.mono h h1, fun j v hv => (cell_keep (h b hb).2).trans (h2 j v hv)⟩

theorem RdS.mono {α : Type} [Rep α] {A A' : Nat → Prop} {w w' : World} {l : List α} {a : Option Addr} {n c : Nat} (h : ∀ b, A b → A' b ∧ w'.heap[b]? = w.heap[b]?)
    (hr : RdS A w l a n c) : RdS A' w' l a n c := by
  obtain ⟨h1, h2, h3, h4, h6⟩ := hr
  refine ⟨h1, h2, h3, h4, fun hn => ?_⟩
  obtain ⟨b, off, e, hA, hb, he⟩ := h6 hn
  refine ⟨b, off, e, (h b hA).1, ?_, he.mono hA h⟩
  rcases Nat.lt_or_ge b w'.heap.size with hlt | hge
  · exact hlt
  · exfalso
    have h7 := (h b hA).2
    rw [Array.getElem?_eq_none hge, Array.getElem?_eq_getElem hb] at h7
    cases h7

instance {α : Type} [Rep α] : Rep (List α) where
  n := 1
  rd := fun A w l cs => ∃ a n c, cs = [.slice a n c] ∧ RdS A w l a n c
  len := fun ⟨_, _, _, h, _⟩ => by rw [h]; rfl
  mono := fun h ⟨a, n, c, e, hr⟩ => ⟨a, n, c, e, hr.mono h⟩
  one := fun ⟨_, _, _, h, _⟩ => by rw [h]; simp [Value.oneCell']
  pos := by decide

theorem RdS.below {α : Type} [Rep α] {A : Nat → Prop} {w w' : World} {l : List α} {a : Option Addr} {n c : Nat} (hr : RdS A w l a n c) (hA : ∀ b, A b → b < w.heap.size) (hb : Below w.heap.size w w') :
    RdS A w' l a n c := hr.mono fun b h => ⟨h, hb.block b (hA b h)⟩

/-- a row of the call's own that reads as a list: what each element is, is said of the row's cells -/
theorem RdS.of_row {α : Type} [Rep α] {A : Nat → Prop} {w : World} {base : Nat} {e : TypeId} {l : List α} {v : Value} {xs : List Value} (hown : w.ownsRow base e (Rep.n α) v l.length xs) (hA : ∀ b, v.ownBlock = some b → A b)
    (hx : ∀ i x, l[i]? = some x → ∃ ys, Rep.rd A w x ys ∧ ∀ j u, ys[j]? = some u → xs[i * Rep.n α + j]? = some u) :
    ∃ a n c, v = .slice a n c ∧ RdS A w l a n c := by
  rcases hown.2 with ⟨hv, h0⟩ | ⟨g, cap, cur, hv, hg, hh, hnc, hcm, _, _⟩
  · refine ⟨none, 0, 0, hv, ?_⟩
    have hl : l = [] := List.eq_nil_of_length_eq_zero h0
    subst hl
    exact ⟨rfl, by omega, by unfold maxLen; omega, fun _ => rfl, fun h => absurd h (by omega)⟩
  · refine ⟨some ⟨g, 0, none⟩, l.length, cap, hv, rfl, hnc, hcm, (fun h => by cases h), fun _ => ?_⟩
    have hlt : g < w.heap.size := (Array.getElem?_eq_some_iff.1 hh).1
    refine ⟨g, 0, rfl, hA g (by rw [hv]; rfl), hlt, fun i x hi => ?_⟩
    obtain ⟨ys, hr, hy⟩ := hx i x hi
    refine ⟨ys, hr, fun j u hu => ?_⟩
    have hc := hown.cells (g := g) (by rw [hv]; rfl) _ u (hy j u hu)
    have e : (⟨g, 0, none⟩ : Addr).add (i * Rep.n α + j) = ⟨g, i * Rep.n α + j, none⟩ := by
      unfold Addr.add
      split
      · rename_i h0; rw [h0]
      · simp
    rw [e] at hc
    simpa using hc

/-- one element of a slice of parts -/
theorem RdS.part {A : Nat → Prop} {w : World} {l : List Part} {a : Option Addr} {n c : Nat} (hr : RdS A w l a n c) (hn : 0 < n) :
    ∃ b off, a = some ⟨b, off, none⟩ ∧ A b ∧ b < w.heap.size ∧ ∀ i (h : i < l.length), I64 l[i].kind ∧ I64 l[i].n ∧ l[i].text.size ≤ strMax ∧
      w.cell? ⟨b, off + i * 3, none⟩ = some (.int .i64 l[i].kind) ∧ w.cell? ⟨b, off + i * 3 + 1, none⟩ = some (.int .i64 l[i].n) ∧ w.cell? ⟨b, off + i * 3 + 2, none⟩ = some (.string l[i].text) := by
  obtain ⟨b, off, e, hA, hb, he⟩ := hr.2.2.2.2 hn
  refine ⟨b, off, e, hA, hb, fun i h => ?_⟩
  obtain ⟨xs, ⟨rfl, h1, h2, h3⟩, h4⟩ := he i l[i] (List.getElem?_eq_getElem h)
  exact ⟨h1, h2, h3, h4 0 _ rfl, h4 1 _ rfl, h4 2 _ rfl⟩

theorem bcell {W w1 : World} (hb : Below W.heap.size W w1) : (∀ b o, b < W.heap.size → w1.cell? ⟨b, o, none⟩ = W.cell? ⟨b, o, none⟩) ∧ (∀ b o, b < W.heap.size → w1.frozen? ⟨b, o, none⟩ = W.frozen? ⟨b, o, none⟩) :=
  ⟨fun b o h => hb.cell (p := ⟨b, o, none⟩) h, fun b o h => hb.frozen (p := ⟨b, o, none⟩) h⟩

theorem below_drewN {B : Nat} {a w : World} (h : Below B a w) (n : Nat) : Below B a (w.drewN n) := ⟨h.os, h.tape, h.output, h.size, h.block⟩
theorem ret_int {k : IntKind} {a b : Int} (h : a = b) : Ending.returned (.int k a) = .returned (.int k b) := by rw [h]

/-- what is said of a value and a world at the end of a call, closed to the walk -/
def Post (P : Ending → World → Prop) (e : Ending) (w : World) : Prop := P e w
end Go.Proofs.YtdbdhpjjndhjiaaDoor

set_option linter.unusedSimpArgs false
namespace Go.Proofs.YtdbdhpjjndhjiaaDoor
open Go.RowKit

abbrev Bs := List UInt8
/-- a number: seven bits a byte, the lowest first -/
def numB (n : Nat) : Bs := if n < 128 then [UInt8.ofNat n] else UInt8.ofNat (n % 128 + 128) :: numB (n / 128)
termination_by n
decreasing_by omega
theorem numB_small {n : Nat} (h : n < 128) : numB n = [UInt8.ofNat n] := by rw [numB, if_pos h]
theorem numB_big {n : Nat} (h : ¬ n < 128) : numB n = UInt8.ofNat (n % 128 + 128) :: numB (n / 128) := by rw [numB, if_neg h]
/-- a number that is read: the i'th byte is next, n is what came; behind an error nothing is left -/
def tk (i n : Nat) : Bs → Nat × Bs × Int
  | [] => (0, [], 5)
  | c :: l => if (0 < i ∧ c.toNat = 0) ∨ (i = 3 ∧ 127 < c.toNat) then (0, [], 4)
    else if c.toNat < 128 then (n + c.toNat * 2 ^ (7 * i), l, 0) else tk (i + 1) (n + (c.toNat % 128) * 2 ^ (7 * i)) l
theorem tk_nil (i n : Nat) : tk i n [] = (0, [], 5) := rfl
theorem tk_bad {i n : Nat} {c : UInt8} {l : Bs} (h : (0 < i ∧ c.toNat = 0) ∨ (i = 3 ∧ 127 < c.toNat)) : tk i n (c :: l) = (0, [], 4) := by rw [tk, if_pos h]
theorem tk_end {i n : Nat} {c : UInt8} {l : Bs} (h : ¬ ((0 < i ∧ c.toNat = 0) ∨ (i = 3 ∧ 127 < c.toNat))) (h2 : c.toNat < 128) : tk i n (c :: l) = (n + c.toNat * 2 ^ (7 * i), l, 0) := by rw [tk, if_neg h, if_pos h2]
theorem tk_on {i n : Nat} {c : UInt8} {l : Bs} (h : ¬ ((0 < i ∧ c.toNat = 0) ∨ (i = 3 ∧ 127 < c.toNat))) (h2 : ¬ c.toNat < 128) : tk i n (c :: l) = tk (i + 1) (n + (c.toNat % 128) * 2 ^ (7 * i)) l := by rw [tk, if_neg h, if_neg h2]
theorem ofNat_toNat' {n : Nat} (h : n < 256) : (UInt8.ofNat n).toNat = n := by simp [UInt8.toNat_ofNat']; omega
theorem pow7 (i : Nat) : 2 ^ (7 * (i + 1)) = 128 * 2 ^ (7 * i) := by rw [show 7 * (i + 1) = 7 * i + 7 from by omega, Nat.pow_add]; omega
/-- what was written is read -/
theorem tk_num (k : Nat) : ∀ (i n m : Nat) (l : Bs), i + k = 3 → m < 128 ^ (k + 1) → (i = 0 ∨ 0 < m) → tk i n (numB m ++ l) = (n + m * 2 ^ (7 * i), l, 0) := by
  induction k with
  | zero =>
    intro i n m l hi hm h0
    have h1 : m < 128 := by simpa using hm
    rw [numB_small h1, List.cons_append, List.nil_append, tk_end (by rw [ofNat_toNat' (by omega)]; omega) (by rw [ofNat_toNat' (by omega)]; exact h1), ofNat_toNat' (by omega)]
  | succ k ih =>
    intro i n m l hi hm h0
    by_cases h1 : m < 128
    · rw [numB_small h1, List.cons_append, List.nil_append, tk_end (by rw [ofNat_toNat' (by omega)]; omega) (by rw [ofNat_toNat' (by omega)]; exact h1), ofNat_toNat' (by omega)]
    · have e : (UInt8.ofNat (m % 128 + 128)).toNat = m % 128 + 128 := ofNat_toNat' (by omega)
      have hd : m / 128 < 128 ^ (k + 1) := by rw [Nat.div_lt_iff_lt_mul (by omega)]; rw [Nat.pow_succ] at hm; exact hm
      rw [numB_big h1, List.cons_append, tk_on (by rw [e]; omega) (by rw [e]; omega), e, ih (i + 1) _ _ l (by omega) hd (by right; omega), pow7]
      have h3 : (m % 128 + 128) % 128 = m % 128 := by omega
      rw [h3, Nat.add_assoc]
      congr 2
      have h4 := Nat.div_add_mod m 128
      calc m % 128 * 2 ^ (7 * i) + m / 128 * (128 * 2 ^ (7 * i)) = (m % 128 + m / 128 * 128) * 2 ^ (7 * i) := by rw [Nat.add_mul, Nat.mul_assoc]
        _ = m * 2 ^ (7 * i) := by rw [show m % 128 + m / 128 * 128 = m from by omega]
/-- a piece of what was written ends too early -/
theorem tk_short (k : Nat) : ∀ (i n m j : Nat), i + k = 3 → m < 128 ^ (k + 1) → j < (numB m).length → tk i n ((numB m).take j) = (0, [], 5) := by
  induction k with
  | zero =>
    intro i n m j hi hm hj
    have h1 : m < 128 := by simpa using hm
    rw [numB_small h1] at hj ⊢
    have : j = 0 := by simp at hj; omega
    subst this; rfl
  | succ k ih =>
    intro i n m j hi hm hj
    cases j with
    | zero => simp [tk_nil]
    | succ j =>
      by_cases h1 : m < 128
      · rw [numB_small h1] at hj; simp at hj
      · have e : (UInt8.ofNat (m % 128 + 128)).toNat = m % 128 + 128 := ofNat_toNat' (by omega)
        have hd : m / 128 < 128 ^ (k + 1) := by rw [Nat.div_lt_iff_lt_mul (by omega)]; rw [Nat.pow_succ] at hm; exact hm
        rw [numB_big h1] at hj ⊢
        rw [List.take_succ_cons, tk_on (by rw [e]; omega) (by rw [e]; omega)]
        exact ih _ _ _ _ (by omega) hd (by simpa using hj)
/-- what is read was written in the one way -/
theorem tk_inv (k : Nat) : ∀ (i n : Nat) (b : Bs) (v : Nat) (l : Bs), i + k = 3 → tk i n b = (v, l, 0) → ∃ m, v = n + m * 2 ^ (7 * i) ∧ b = numB m ++ l ∧ m < 128 ^ (k + 1) ∧ (i = 0 ∨ 0 < m) := by
  induction k with
  | zero =>
    intro i n b v l hi h
    cases b with
    | nil => simp [tk_nil] at h
    | cons c b =>
      by_cases hb : (0 < i ∧ c.toNat = 0) ∨ (i = 3 ∧ 127 < c.toNat)
      · rw [tk_bad hb] at h; simp at h
      · have h2 : c.toNat < 128 := by omega
        rw [tk_end hb h2] at h
        simp only [Prod.mk.injEq, and_true] at h
        refine ⟨c.toNat, h.1.symm, ?_, by simpa using h2, by omega⟩
        rw [numB_small h2, ← h.2]; simp
  | succ k ih =>
    intro i n b v l hi h
    cases b with
    | nil => simp [tk_nil] at h
    | cons c b =>
      by_cases hb : (0 < i ∧ c.toNat = 0) ∨ (i = 3 ∧ 127 < c.toNat)
      · rw [tk_bad hb] at h; simp at h
      · by_cases h2 : c.toNat < 128
        · rw [tk_end hb h2] at h
          simp only [Prod.mk.injEq, and_true] at h
          refine ⟨c.toNat, h.1.symm, ?_, ?_, by omega⟩
          · rw [numB_small h2, ← h.2]; simp
          · have : 128 ^ 1 ≤ 128 ^ (k + 1 + 1) := Nat.pow_le_pow_right (by omega) (by omega)
            omega
        · rw [tk_on hb h2] at h
          obtain ⟨m, h3, h4, h5, h6⟩ := ih _ _ _ _ _ (by omega) h
          have hc := c.toNat_lt
          have h7 : 0 < m := by omega
          have h8 : ¬ (m * 128 + c.toNat % 128) < 128 := by omega
          refine ⟨m * 128 + c.toNat % 128, ?_, ?_, ?_, by right; omega⟩
          · rw [h3, pow7, Nat.add_assoc]
            congr 1
            rw [Nat.add_mul, Nat.mul_assoc, Nat.add_comm]
          · rw [numB_big h8, h4]
            have e1 : (m * 128 + c.toNat % 128) % 128 + 128 = c.toNat := by omega
            have e2 : (m * 128 + c.toNat % 128) / 128 = m := by omega
            rw [e1, e2]; simp
          · rw [Nat.pow_succ]; omega
theorem numB_len (n : Nat) : 1 ≤ (numB n).length := by
  by_cases h : n < 128
  · rw [numB_small h]; simp
  · rw [numB_big h]; simp
theorem numB_len2 {n : Nat} (h : n < 16384) : (numB n).length ≤ 2 := by
  by_cases h1 : n < 128
  · rw [numB_small h1]; simp
  · rw [numB_big h1, numB_small (by omega)]; simp
theorem numB_len3 {n : Nat} (h : n < 2097152) : (numB n).length ≤ 3 := by
  by_cases h1 : n < 128
  · rw [numB_small h1]; simp
  · rw [numB_big h1]; have := numB_len2 (n := n / 128) (by omega); simp only [List.length_cons]; omega

/-! ### a reader -/
structure Rd where
  rest : Bs
  fault : Int
def Rd.fail (r : Rd) (e : Int) : Rd := ⟨[], if r.fault = 0 then e else r.fault⟩
def Rd.take (r : Rd) : Nat × Rd := if r.fault = 0 then ((tk 0 0 r.rest).1, ⟨(tk 0 0 r.rest).2.1, (tk 0 0 r.rest).2.2⟩) else (0, r)
/-- bytes as a string -/
def strOf (b : Bs) : Str := ⟨b.toArray⟩
def Rd.text (r : Rd) : Str × Rd := if r.take.2.rest.length < r.take.1 then (noT, r.take.2.fail 5) else (strOf (r.take.2.rest.take r.take.1), ⟨r.take.2.rest.drop r.take.1, r.take.2.fault⟩)
where noT : Str := ⟨#[]⟩
def Rd.part (r : Rd) : Part × Rd :=
  if r.take.1 = 2 then (⟨2, 0, r.take.2.text.1⟩, r.take.2.text.2) else (⟨r.take.1, r.take.2.take.1, Rd.text.noT⟩, r.take.2.take.2)
def Rd.parts : Nat → Rd → Op × Rd
  | 0, r => ([], r)
  | n + 1, r => if r.fault = 0 then (r.part.1 :: (Rd.parts n r.part.2).1, (Rd.parts n r.part.2).2) else ([], r)
def Rd.op (r : Rd) : Op × Rd := Rd.parts r.take.1 r.take.2
def Rd.done (r : Rd) : Rd := if r.fault = 0 ∧ r.rest ≠ [] then r.fail 4 else r

/-! ### what is written -/
def textB (s : Str) : Bs := numB s.size ++ s.data.toList
def partB (p : Part) : Bs := numB p.kind.toNat ++ if p.kind = 2 then textB p.text else numB p.n.toNat
def opB (o : Op) : Bs := numB o.length ++ o.flatMap partB

/-- E is what D reads: D reads it whole, and what follows stays; a piece of it ends too early; what D reads without a fault is E of it -/
structure Code {α : Type} (D : Rd → α × Rd) (x : α) (e : Bs) : Prop where
  all : ∀ l : Bs, D ⟨e ++ l, 0⟩ = (x, ⟨l, 0⟩)
  torn : ∀ j, j < e.length → (D ⟨e.take j, 0⟩).2 = ⟨[], 5⟩
theorem fault_take (r : Rd) (h : r.fault ≠ 0) : r.take = (0, r) := by unfold Rd.take; rw [if_neg h]
theorem code_num {n : Nat} (h : n < 268435456) : Code Rd.take n (numB n) := by
  have h' : n < 128 ^ (3 + 1) := by simpa using h
  refine ⟨fun l => ?_, fun j hj => ?_⟩
  · unfold Rd.take
    rw [if_pos rfl, tk_num 3 0 0 n l rfl h' (.inl rfl)]
    simp
  · unfold Rd.take
    rw [if_pos rfl, tk_short 3 0 0 n j rfl h' hj]
theorem take_inv {b : Bs} {n : Nat} {r : Rd} (h : Rd.take ⟨b, 0⟩ = (n, r)) (hr : r.fault = 0) : n < 268435456 ∧ b = numB n ++ r.rest := by
  unfold Rd.take at h
  rw [if_pos rfl] at h
  simp only [Prod.mk.injEq] at h
  obtain ⟨h1, h2⟩ := h
  subst h2
  simp only at hr
  have := tk_inv 3 0 0 b n (tk 0 0 b).2.1 rfl (by rw [← hr, ← h1])
  obtain ⟨m, e1, e2, e3, -⟩ := this
  simp at e1
  subst e1
  exact ⟨by simpa using e3, e2⟩
theorem strOf_list (s : Str) : strOf s.data.toList = s := by cases s; simp [strOf]
theorem take_app_lt {a b : Bs} {j : Nat} (h : ¬ j < a.length) : (a ++ b).take j = a ++ b.take (j - a.length) := by
  rw [List.take_append, List.take_of_length_le (by omega)]
theorem take_app_ge {a b : Bs} {j : Nat} (h : j < a.length) : (a ++ b).take j = a.take j := by
  rw [List.take_append_of_le_length (by omega)]
/-- one thing, and then another one that hangs on it -/
theorem torn_seq {α : Type} {D : Rd → α × Rd} {x : α} {e : Bs} (h : Code D x e) {f : Rd → Rd} {e' : Bs} (hf : ∀ j, j < e'.length → f ⟨e'.take j, 0⟩ = ⟨[], 5⟩) (h5 : f ⟨[], 5⟩ = ⟨[], 5⟩) :
    ∀ j, j < (e ++ e').length → f (D ⟨(e ++ e').take j, 0⟩).2 = ⟨[], 5⟩ := by
  intro j hj
  rw [List.length_append] at hj
  by_cases hl : j < e.length
  · rw [take_app_ge hl, h.torn j hl, h5]
  · rw [take_app_lt hl, h.all]
    exact hf _ (by omega)
theorem code_text {s : Str} (h : s.size < 268435456) : Code Rd.text s (textB s) := by
  have hn := code_num h
  have hz : s.data.toList.length = s.size := Array.length_toList
  refine ⟨fun l => ?_, fun j hj => ?_⟩
  · unfold Rd.text textB
    rw [List.append_assoc, hn.all]
    simp only
    rw [if_neg (by rw [List.length_append, hz]; omega), ← hz, List.take_left, List.drop_left, strOf_list]
  · unfold textB at hj ⊢
    by_cases hl : j < (numB s.size).length
    · unfold Rd.text
      rw [take_app_ge hl, hn.torn j hl]
      have h0 : (Rd.take ⟨(numB s.size).take j, 0⟩).1 = 0 := by
        unfold Rd.take
        rw [if_pos rfl, tk_short 3 0 0 s.size j rfl (Nat.lt_of_lt_of_eq h rfl) hl]
      rw [h0, if_neg (Nat.not_lt_zero _)]
      rfl
    · unfold Rd.text
      rw [take_app_lt hl, hn.all]
      simp only
      rw [List.length_append, hz] at hj
      rw [if_pos (by rw [List.length_take]; omega)]
      rfl
theorem text_inv {b : Bs} {s : Str} {r : Rd} (h : Rd.text ⟨b, 0⟩ = (s, r)) (hr : r.fault = 0) : s.size < 268435456 ∧ b = textB s ++ r.rest := by
  unfold Rd.text at h
  generalize hk : Rd.take ⟨b, 0⟩ = x at h
  obtain ⟨n, q⟩ := x
  simp only at h
  split at h
  · simp only [Prod.mk.injEq] at h
    obtain ⟨-, h2⟩ := h
    subst h2
    unfold Rd.fail at hr
    simp only at hr
    split at hr
    · exact absurd hr (by decide)
    · exact absurd hr (by assumption)
  · rename_i hle
    simp only [Prod.mk.injEq] at h
    obtain ⟨h1, h2⟩ := h
    subst h2
    obtain ⟨t1, t2⟩ := take_inv hk hr
    have hz : s.size = n := by rw [← h1]; simp [strOf, ByteArray.size]; omega
    refine ⟨by omega, ?_⟩
    have h3 : s.data.toList = q.rest.take n := by rw [← h1]; simp [strOf]
    unfold textB
    rw [hz, h3, List.append_assoc, List.take_append_drop]
    exact t2
/-- a part that may be written -/
def Fine (p : Part) : Prop := 0 ≤ p.kind ∧ p.kind < 268435456 ∧ (p.kind = 2 → p.n = 0 ∧ p.text.size < 268435456) ∧ (p.kind ≠ 2 → 0 ≤ p.n ∧ p.n < 268435456 ∧ p.text = Rd.text.noT)
theorem part_fault (r : Rd) (h : r.fault ≠ 0) : r.part.2 = r := by
  unfold Rd.part
  rw [fault_take r h]
  rw [if_neg (by simp)]
  simp only
  rw [fault_take r h]
theorem text_5 : (Rd.text ⟨[], 5⟩).2 = ⟨[], 5⟩ := by
  unfold Rd.text
  rw [fault_take _ (by decide), if_neg (by simp)]
  simp
theorem code_part {p : Part} (h : Fine p) : Code Rd.part p (partB p) := by
  obtain ⟨h1, h2, h3, h4⟩ := h
  obtain ⟨k, n, t⟩ := p
  simp only at h1 h2 h3 h4
  obtain ⟨k, rfl⟩ : ∃ m : Nat, k = (m : Int) := ⟨k.toNat, by omega⟩
  have hn := code_num (n := k) (by omega)
  unfold partB
  simp only [Int.toNat_natCast]
  by_cases hk : (k : Int) = 2
  · rw [if_pos hk]
    obtain ⟨rfl, h6⟩ := h3 hk
    have hk2 : k = 2 := by omega
    subst hk2
    have ht := code_text h6
    refine ⟨fun l => ?_, fun j hj => ?_⟩
    · unfold Rd.part
      rw [List.append_assoc, hn.all]
      simp only [if_true]
      rw [ht.all]; rfl
    · by_cases hl : j < (numB 2).length
      · unfold Rd.part
        rw [take_app_ge hl, hn.torn j hl]
        have h0 : (Rd.take ⟨(numB 2).take j, 0⟩).1 = 0 := by
          unfold Rd.take
          rw [if_pos rfl, tk_short 3 0 0 2 j rfl (by decide) hl]
        rw [h0, if_neg (by decide)]
        simp only
        rw [fault_take _ (by decide)]
      · unfold Rd.part
        rw [take_app_lt hl, hn.all]
        simp only [if_true]
        rw [List.length_append] at hj
        exact ht.torn _ (by omega)
  · rw [if_neg hk]
    obtain ⟨h6, h7, rfl⟩ := h4 hk
    obtain ⟨n, rfl⟩ : ∃ m : Nat, n = (m : Int) := ⟨n.toNat, by omega⟩
    have ht := code_num (n := n) (by omega)
    have hk2 : k ≠ 2 := by omega
    simp only [Int.toNat_natCast]
    refine ⟨fun l => ?_, fun j hj => ?_⟩
    · unfold Rd.part
      rw [List.append_assoc, hn.all]
      simp only
      rw [if_neg hk2, ht.all]
    · by_cases hl : j < (numB k).length
      · unfold Rd.part
        rw [take_app_ge hl, hn.torn j hl]
        have h0 : (Rd.take ⟨(numB k).take j, 0⟩).1 = 0 := by
          unfold Rd.take
          rw [if_pos rfl, tk_short 3 0 0 k j rfl (by simp; omega) hl]
        rw [h0, if_neg (by decide)]
        simp only
        rw [fault_take _ (by decide)]
      · unfold Rd.part
        rw [take_app_lt hl, hn.all]
        simp only
        rw [if_neg hk2]
        rw [List.length_append] at hj
        exact ht.torn _ (by omega)
theorem part_inv {b : Bs} {p : Part} {r : Rd} (h : Rd.part ⟨b, 0⟩ = (p, r)) (hr : r.fault = 0) : Fine p ∧ b = partB p ++ r.rest := by
  unfold Rd.part at h
  generalize hk : Rd.take ⟨b, 0⟩ = x at h
  obtain ⟨k, q⟩ := x
  simp only at h
  by_cases hq : q.fault = 0
  · obtain ⟨t1, t2⟩ := take_inv hk hq
    obtain ⟨qr, qf⟩ := q
    simp only at hq t2
    subst hq
    by_cases h2 : k = 2
    · subst h2
      rw [if_pos rfl] at h
      generalize ht : Rd.text ⟨qr, 0⟩ = y at h
      obtain ⟨s, r2⟩ := y
      simp only [Prod.mk.injEq] at h
      obtain ⟨rfl, rfl⟩ := h
      obtain ⟨u1, u2⟩ := text_inv ht hr
      refine ⟨⟨by simp, by simp, fun _ => ⟨rfl, u1⟩, fun h => absurd rfl h⟩, ?_⟩
      unfold partB
      rw [if_pos rfl, t2, u2, List.append_assoc]; rfl
    · rw [if_neg h2] at h
      generalize ht : Rd.take ⟨qr, 0⟩ = y at h
      obtain ⟨n, r2⟩ := y
      simp only [Prod.mk.injEq] at h
      obtain ⟨rfl, rfl⟩ := h
      obtain ⟨u1, u2⟩ := take_inv ht hr
      refine ⟨⟨by simp, by simp only; omega, fun h => absurd h (by simp only; omega), fun _ => ⟨by simp, by simp only; omega, rfl⟩⟩, ?_⟩
      unfold partB
      simp only [Int.toNat_natCast]
      rw [if_neg (by omega), t2, u2, List.append_assoc]
  · exfalso
    by_cases h2 : k = 2
    · have hk' := hk
      unfold Rd.take at hk'
      rw [if_pos rfl] at hk'
      simp only [Prod.mk.injEq] at hk'
      obtain ⟨e1, e2⟩ := hk'
      have : ∀ (b : Bs) (i n : Nat), (tk i n b).2.2 ≠ 0 → (tk i n b).1 = 0 := by
        intro b
        induction b with
        | nil => intro i n _; rfl
        | cons c b ih =>
          intro i n
          by_cases hb : (0 < i ∧ c.toNat = 0) ∨ (i = 3 ∧ 127 < c.toNat)
          · rw [tk_bad hb]; simp
          · by_cases hc : c.toNat < 128
            · rw [tk_end hb hc]; simp
            · rw [tk_on hb hc]; exact ih _ _
      have h3 := this b 0 0 (by rw [← e2] at hq; exact hq)
      omega
    · rw [if_neg h2, fault_take q hq] at h
      simp only [Prod.mk.injEq] at h
      rw [← h.2] at hr
      exact hq hr
theorem parts_5 (n : Nat) : (Rd.parts n ⟨[], 5⟩).2 = ⟨[], 5⟩ := by
  cases n with
  | zero => rfl
  | succ n => unfold Rd.parts; rw [if_neg (by decide)]
theorem code_parts (o : Op) : (∀ p ∈ o, Fine p) → Code (Rd.parts o.length) o (o.flatMap partB) := by
  induction o with
  | nil => intro _; exact ⟨fun l => rfl, fun j hj => by simp at hj⟩
  | cons p o ih =>
    intro h
    have hp := code_part (h p (List.mem_cons_self ..))
    have ho := ih fun q hq => h q (List.mem_cons_of_mem _ hq)
    refine ⟨fun l => ?_, fun j hj => ?_⟩
    · rw [List.flatMap_cons, List.append_assoc, List.length_cons]
      unfold Rd.parts
      rw [if_pos rfl, hp.all]
      simp only
      rw [ho.all]
    · rw [List.flatMap_cons] at hj ⊢
      rw [List.length_cons]
      unfold Rd.parts
      rw [if_pos rfl]
      exact torn_seq (f := fun q => (Rd.parts o.length q).2) hp ho.torn (parts_5 _) j hj
theorem parts_inv (n : Nat) : ∀ {b : Bs} {o : Op} {r : Rd}, Rd.parts n ⟨b, 0⟩ = (o, r) → r.fault = 0 → o.length = n ∧ (∀ p ∈ o, Fine p) ∧ b = o.flatMap partB ++ r.rest := by
  induction n with
  | zero =>
    intro b o r h _
    simp only [Rd.parts, Prod.mk.injEq] at h
    obtain ⟨rfl, rfl⟩ := h
    exact ⟨rfl, by simp, by simp⟩
  | succ n ih =>
    intro b o r h hr
    unfold Rd.parts at h
    rw [if_pos rfl] at h
    generalize hp : Rd.part ⟨b, 0⟩ = x at h
    obtain ⟨p, q⟩ := x
    simp only at h
    generalize hq : Rd.parts n q = y at h
    obtain ⟨o', r'⟩ := y
    simp only [Prod.mk.injEq] at h
    obtain ⟨rfl, rfl⟩ := h
    have hf : q.fault = 0 := by
      by_cases hf : q.fault = 0
      · exact hf
      · exfalso
        cases n with
        | zero => simp only [Rd.parts, Prod.mk.injEq] at hq; rw [← hq.2] at hr; exact hf hr
        | succ n => unfold Rd.parts at hq; rw [if_neg hf] at hq; simp only [Prod.mk.injEq] at hq; rw [← hq.2] at hr; exact hf hr
    obtain ⟨f1, f2⟩ := part_inv hp hf
    obtain ⟨qr, qf⟩ := q
    simp only at hf f2
    subst hf
    obtain ⟨g1, g2, g3⟩ := ih hq hr
    refine ⟨by simp [g1], fun x hx => ?_, ?_⟩
    · rcases List.mem_cons.1 hx with rfl | hx
      · exact f1
      · exact g2 x hx
    · rw [f2, g3]; simp
theorem code_op {o : Op} (hl : o.length < 268435456) (h : ∀ p ∈ o, Fine p) : Code Rd.op o (opB o) := by
  have hn := code_num hl
  have hp := code_parts o h
  refine ⟨fun l => ?_, fun j hj => ?_⟩
  · unfold Rd.op opB
    rw [List.append_assoc, hn.all]
    simp only
    exact hp.all l
  · unfold opB at hj ⊢
    unfold Rd.op
    by_cases hl' : j < (numB o.length).length
    · rw [take_app_ge hl', hn.torn j hl', parts_5]
    · rw [take_app_lt hl', hn.all]
      simp only
      rw [List.length_append] at hj
      exact hp.torn _ (by omega)
theorem op_inv {b : Bs} {o : Op} {r : Rd} (h : Rd.op ⟨b, 0⟩ = (o, r)) (hr : r.fault = 0) : o.length < 268435456 ∧ (∀ p ∈ o, Fine p) ∧ b = opB o ++ r.rest := by
  unfold Rd.op at h
  generalize hk : Rd.take ⟨b, 0⟩ = x at h
  obtain ⟨k, q⟩ := x
  simp only at h
  have hf : q.fault = 0 := by
    by_cases hf : q.fault = 0
    · exact hf
    · exfalso
      cases k with
      | zero => simp only [Rd.parts, Prod.mk.injEq] at h; rw [← h.2] at hr; exact hf hr
      | succ n => unfold Rd.parts at h; rw [if_neg hf] at h; simp only [Prod.mk.injEq] at h; rw [← h.2] at hr; exact hf hr
  obtain ⟨t1, t2⟩ := take_inv hk hf
  obtain ⟨qr, qf⟩ := q
  simp only at hf t2
  subst hf
  obtain ⟨g1, g2, g3⟩ := parts_inv k h hr
  refine ⟨by omega, g2, ?_⟩
  unfold opB
  rw [g1, t2, g3, List.append_assoc]
end Go.Proofs.YtdbdhpjjndhjiaaDoor

namespace Go.Proofs.YtdbdhpjjndhjiaaDoor
open Go.RowKit
/-- the tables of package unicode/utf8 lie in the world -/
structure Good (w : World) : Prop where
  size : 2 ≤ w.heap.size
  tabs : Lib.Utf8Tabs 0 1 w
theorem Good.keep {w w' : World} (h : Good w) (hs : w.heap.size ≤ w'.heap.size) (hk : ∀ b, b < 2 → w'.heap[b]? = w.heap[b]?) : Good w' := by
  have h2 := h.size
  refine ⟨by omega, fun c hc => (cell_keep (hk _ (by decide))).trans (h.tabs.1 c hc), fun i hi => ⟨(cell_keep (hk _ (by decide))).trans (h.tabs.2 i hi).1, (cell_keep (hk _ (by decide))).trans (h.tabs.2 i hi).2⟩⟩
theorem Good.below {w w' : World} {B : Nat} (h : Good w) (hb : Below B w w') (hB : 2 ≤ B) : Good w' := h.keep hb.size fun b hb2 => hb.block b (by omega)
theorem Good.below' {w w' : World} (h : Good w) (hb : Below w.heap.size w w') : Good w' := h.below hb h.size
end Go.Proofs.YtdbdhpjjndhjiaaDoor

namespace Go.Proofs.YtdbdhpjjndhjiaaDoor
open Go.RowKit

def valid (s : Str) : Bool := Lib.validD s.data.toList
def rc (s : Str) : Int := Lib.runeCount s
def checkText (s : Str) : Int := if valid s = false then 4 else if 4000 < rc s then 1 else 0

theorem valid_any (s : Str) (w : World) (hg : Good w) (hs : s.size ≤ strMax) :
    Calls Tryd.prog 65 #[.string s] w fun e w' => e = .returned (.bool (valid s)) ∧ Below w.heap.size w w' :=
  Tryd.utf8_ValidString s w (by unfold strMax at hs; omega) hg.tabs
theorem rc_any (s : Str) (w : World) (hs : s.size ≤ strMax) :
    Calls Tryd.prog 68 #[.string s] w fun e w' => e = .returned (.int .i64 (rc s)) ∧ Below w.heap.size w w' := by
  refine (Tryd.utf8_RuneCountInString s w (by unfold strMax at hs; omega)).mono ?_
  rintro e w' ⟨rfl, pos, rfl⟩
  exact ⟨rfl, by unfold World.iter; (repeat (first | exact Below.refl _ _ | assumption | (refine Below.drew ?_) | (refine below_drewN ?_ _) | (refine Below.alloc ?_ (by first | (simp; done) | (simp; omega) | omega) _) | (refine Below.setCell ?_ (by first | (simp; done) | (simp; omega) | omega) _) | (refine Below.trans ?_ (Below.mono (by assumption) (by first | (simp; done) | (simp; omega) | omega)))))⟩
theorem rc_nonneg (s : Str) : 0 ≤ rc s := by unfold rc; omega
theorem rc_le (s : Str) : rc s ≤ s.size := by unfold rc; have := Lib.runeCount_le s; omega

set_option maxHeartbeats 400000 in
theorem length_any (s : Str) (w : World) (hg : Good w) (hs : s.size ≤ strMax) :
    Calls Tryd.prog 66 #[.string s] w fun e w' => e = .returned (.tuple #[.int .i64 (rc s), .bool (valid s && decide (rc s ≤ 4000))]) ∧ Below w.heap.size w w' := by
  have hv := fun W hW => valid_any s W hW hs
  have hrn := rc_nonneg s
  have hrl := rc_le s
  have hr := fun W => rc_any s W hs
  unfold strMax at hs
  have Hv := Lib.hid hv
  have Hr := Lib.hid hr
  clear hv hr
  generalize valid s = v at *
  generalize rc s = r at *
  cases v
  all_goals
    go_enter Tryd.func66, Tryd.ntmps66
    go_wp2_with fail
    refine (Hr.out _).mono ?_
    rintro e w1 ⟨rfl, hb1⟩
    go_wp2_with fail
    refine (Hv.out _ (hg.below' hb1)).mono ?_
    rintro e w2 ⟨rfl, hb2⟩
    go_wp2_with fail
    go_ret2
    exact ⟨by simp, hb1.trans (hb2.mono hb1.size)⟩

set_option maxHeartbeats 400000 in
theorem checkText_any (s : Str) (w : World) (hg : Good w) (hs : s.size ≤ strMax) :
    Calls Tryd.prog 55 #[.string s] w fun e w' => e = .returned (.int .i64 (checkText s)) ∧ Below w.heap.size w w' := by
  have hv := fun W hW => valid_any s W hW hs
  have hr := fun W hW => length_any s W hW hs
  have Hv := Lib.hid hv
  have Hr := Lib.hid hr
  clear hv hr
  unfold checkText
  generalize valid s = v at *
  generalize rc s = r at *
  cases v
  · go_enter Tryd.func55, Tryd.ntmps55
    go_wp2_with fail
    refine (Hv.out _ hg).mono ?_
    rintro e w1 ⟨rfl, hb1⟩
    go_wp2_with fail
    go_ret
    exact ⟨by simp, hb1⟩
  · by_cases h : 4000 < r
    · have hd : decide (r ≤ 4000) = false := by simp; omega
      rw [hd] at Hr
      go_enter Tryd.func55, Tryd.ntmps55
      go_wp2_with fail
      refine (Hv.out _ hg).mono ?_
      rintro e w1 ⟨rfl, hb1⟩
      go_wp2_with fail
      refine (Hr.out _ (hg.below' hb1)).mono ?_
      rintro e w2 ⟨rfl, hb2⟩
      go_wp2_with fail
      go_ret
      exact ⟨rfl, hb1.trans (hb2.mono hb1.size)⟩
    · have hd : decide (r ≤ 4000) = true := by simp; omega
      rw [hd] at Hr
      go_enter Tryd.func55, Tryd.ntmps55
      go_wp2_with fail
      refine (Hv.out _ hg).mono ?_
      rintro e w1 ⟨rfl, hb1⟩
      go_wp2_with fail
      refine (Hr.out _ (hg.below' hb1)).mono ?_
      rintro e w2 ⟨rfl, hb2⟩
      go_wp2_with fail
      go_ret
      exact ⟨rfl, hb1.trans (hb2.mono hb1.size)⟩
end Go.Proofs.YtdbdhpjjndhjiaaDoor

namespace Go.Proofs.YtdbdhpjjndhjiaaDoor.Uni
open Go.Lib

/-- a rune that may stand in a text -/
def vr (r : Nat) : Prop := r < 55296 ∨ (57344 ≤ r ∧ r ≤ 1114111)
instance (r : Nat) : Decidable (vr r) := by unfold vr; infer_instance
/-- its bytes -/
def encR (r : Nat) : List UInt8 := (Utf8.encode (r : Int)).data.toList
def encL (rs : List Nat) : List UInt8 := rs.flatMap encR
def enc (rs : List Nat) : ByteArray := ⟨(encL rs).toArray⟩
def decAll : Nat → List UInt8 → List Nat
  | 0, _ => []
  | f + 1, l => if l = [] then [] else (decodeL l).1 :: decAll f (l.drop (decodeL l).2)
/-- the runes of bytes -/
def dec (l : List UInt8) : List Nat := decAll l.length l

theorem valid_vr (r : Nat) (h : vr r) : Utf8.valid (r : Int) = true := by
  unfold vr at h
  simp only [Utf8.valid, Bool.or_eq_true, Bool.and_eq_true, decide_eq_true_eq]
  omega
theorem vr_of (r : Nat) (h : Utf8.valid (r : Int) = true) : vr r := by
  unfold vr
  simp only [Utf8.valid, Bool.or_eq_true, Bool.and_eq_true, decide_eq_true_eq] at h
  omega

set_option maxRecDepth 100000 in
theorem encR_cases (r : Nat) (h : vr r) :
    (r < 128 ∧ encR r = [UInt8.ofNat r]) ∨
    (128 ≤ r ∧ r < 2048 ∧ encR r = [UInt8.ofNat (192 + r / 64), UInt8.ofNat (128 + r % 64)]) ∨
    (2048 ≤ r ∧ r < 65536 ∧ encR r = [UInt8.ofNat (224 + r / 4096), UInt8.ofNat (128 + r / 64 % 64), UInt8.ofNat (128 + r % 64)]) ∨
    (65536 ≤ r ∧ encR r = [UInt8.ofNat (240 + r / 262144), UInt8.ofNat (128 + r / 4096 % 64), UInt8.ofNat (128 + r / 64 % 64), UInt8.ofNat (128 + r % 64)]) := by
  have hv := valid_vr r h
  unfold encR Utf8.encode
  rw [hv]
  simp only [if_true, Int.toNat_natCast]
  by_cases h1 : r < 128
  · left; refine ⟨h1, ?_⟩; rw [if_pos h1]
  · by_cases h2 : r < 2048
    · right; left; refine ⟨by omega, h2, ?_⟩; rw [if_neg h1, if_pos h2]
    · by_cases h3 : r < 65536
      · right; right; left; refine ⟨by omega, h3, ?_⟩; rw [if_neg h1, if_neg h2, if_pos h3]
      · right; right; right; refine ⟨by omega, ?_⟩; rw [if_neg h1, if_neg h2, if_neg h3]

theorem ofNat_lt (n : Nat) (h : n < 256) : (UInt8.ofNat n).toNat = n := by rw [UInt8.toNat_ofNat']; exact Nat.mod_eq_of_lt h

theorem dec_enc (r : Nat) (h : vr r) (t : List UInt8) : decodeL (encR r ++ t) = (r, (encR r).length) := by
  have hv : r < 55296 ∨ (57344 ≤ r ∧ r ≤ 1114111) := h
  rw [decodeL_N]
  rcases encR_cases r h with ⟨h1, e⟩ | ⟨h1, h2, e⟩ | ⟨h1, h2, e⟩ | ⟨h1, e⟩
  · rw [e]
    simp only [List.cons_append, List.nil_append, List.getD_cons_zero, List.getD_cons_succ, List.length_cons, List.length_nil]
    rw [ofNat_lt _ (by omega)]
    unfold decodeN
    rw [if_pos h1]
  · rw [e]
    simp only [List.cons_append, List.nil_append, List.getD_cons_zero, List.getD_cons_succ, List.length_cons, List.length_nil]
    rw [ofNat_lt (192 + r / 64) (by omega), ofNat_lt (128 + r % 64) (by omega)]
    unfold decodeN
    rw [if_neg (by omega), if_pos (by omega), if_pos (by omega)]
    exact Prod.ext (by show _ = r; omega) rfl
  · rw [e]
    simp only [List.cons_append, List.nil_append, List.getD_cons_zero, List.getD_cons_succ, List.length_cons, List.length_nil]
    rw [ofNat_lt (224 + r / 4096) (by omega), ofNat_lt (128 + r / 64 % 64) (by omega), ofNat_lt (128 + r % 64) (by omega)]
    unfold decodeN
    have e3 : (224 + r / 4096) % 16 * 4096 + (128 + r / 64 % 64) % 64 * 64 + (128 + r % 64) % 64 = r := by omega
    rw [if_neg (by omega), if_neg (by omega), if_pos (by omega), e3, if_pos (by omega)]
  · rw [e]
    simp only [List.cons_append, List.nil_append, List.getD_cons_zero, List.getD_cons_succ, List.length_cons, List.length_nil]
    rw [ofNat_lt (240 + r / 262144) (by omega), ofNat_lt (128 + r / 4096 % 64) (by omega), ofNat_lt (128 + r / 64 % 64) (by omega), ofNat_lt (128 + r % 64) (by omega)]
    unfold decodeN
    have e3 : (240 + r / 262144) % 8 * 262144 + (128 + r / 4096 % 64) % 64 * 4096 + (128 + r / 64 % 64) % 64 * 64 + (128 + r % 64) % 64 = r := by omega
    rw [if_neg (by omega), if_neg (by omega), if_neg (by omega), if_pos (by omega), e3, if_pos (by omega)]

theorem encR_len (r : Nat) (h : vr r) : 1 ≤ (encR r).length ∧ (encR r).length ≤ 4 := by
  rcases encR_cases r h with ⟨_, e⟩ | ⟨_, _, e⟩ | ⟨_, _, e⟩ | ⟨_, e⟩ <;> rw [e] <;> simp
theorem encR_bad (r : Nat) (h : vr r) : ¬ (r = 65533 ∧ (encR r).length = 1) := by
  rintro ⟨rfl, h1⟩
  rcases encR_cases 65533 h with ⟨h2, _⟩ | ⟨_, h2, _⟩ | ⟨_, _, e⟩ | ⟨h2, _⟩
  · omega
  · omega
  · rw [e] at h1; simp at h1
  · omega
theorem encL_nil : encL [] = [] := rfl
theorem encL_cons (r : Nat) (rs : List Nat) : encL (r :: rs) = encR r ++ encL rs := by simp [encL]
theorem encL_append (a b : List Nat) : encL (a ++ b) = encL a ++ encL b := by simp [encL]

theorem validD_enc (rs : List Nat) (h : ∀ r ∈ rs, vr r) (t : List UInt8) : validD (encL rs ++ t) = validD t := by
  induction rs with
  | nil => rfl
  | cons r rs ih =>
    have hr := h r (by simp)
    have hl := encR_len r hr
    rw [encL_cons, List.append_assoc, validD_step _ (by intro e; have h9 := congrArg List.length e; rw [List.length_append, List.length_nil] at h9; omega), dec_enc r hr, if_neg (encR_bad r hr)]
    simp only [List.drop_left]
    exact ih fun x hx => h x (by simp [hx])

theorem decAll_fuel : ∀ (n m : Nat) (l : List UInt8), l.length ≤ n → l.length ≤ m → decAll n l = decAll m l
  | 0, m, l, hn, _ => by
    obtain rfl : l = [] := List.eq_nil_of_length_eq_zero (by omega)
    cases m <;> simp [decAll]
  | n + 1, 0, l, _, hm => by
    obtain rfl : l = [] := List.eq_nil_of_length_eq_zero (by omega)
    simp [decAll]
  | n + 1, m + 1, l, hn, hm => by
    unfold decAll
    by_cases hne : l = []
    · simp [hne]
    · have hw := decodeL_width l
      have hl : 0 < l.length := List.length_pos_iff.2 hne
      rw [if_neg hne, if_neg hne, decAll_fuel n m (l.drop (decodeL l).2) (by rw [List.length_drop]; omega) (by rw [List.length_drop]; omega)]
theorem dec_step (l : List UInt8) (hne : l ≠ []) : dec l = (decodeL l).1 :: dec (l.drop (decodeL l).2) := by
  have hl : 0 < l.length := List.length_pos_iff.2 hne
  have hw := decodeL_width l
  obtain ⟨n, hn⟩ : ∃ n, l.length = n + 1 := ⟨l.length - 1, by omega⟩
  unfold dec
  rw [hn]
  show (if l = [] then [] else _) = _
  rw [if_neg hne, decAll_fuel n (l.drop (decodeL l).2).length _ (by rw [List.length_drop]; omega) (Nat.le_refl _)]
theorem dec_encL (rs : List Nat) (h : ∀ r ∈ rs, vr r) (t : List UInt8) : dec (encL rs ++ t) = rs ++ dec t := by
  induction rs with
  | nil => rfl
  | cons r rs ih =>
    have hr := h r (by simp)
    have hl := encR_len r hr
    rw [encL_cons, List.append_assoc, dec_step _ (by intro e; have h9 := congrArg List.length e; rw [List.length_append, List.length_nil] at h9; omega), dec_enc r hr]
    simp only [List.drop_left, List.cons_append]
    rw [ih fun x hx => h x (by simp [hx])]
theorem dec_nil : dec [] = [] := rfl
theorem dec_enc_all (rs : List Nat) (h : ∀ r ∈ rs, vr r) : dec (encL rs) = rs := by
  have := dec_encL rs h []
  simpa [dec_nil] using this
theorem valid_encL (rs : List Nat) (h : ∀ r ∈ rs, vr r) : validD (encL rs) = true := by
  have := validD_enc rs h []
  simpa [validD_nil] using this

theorem decode_vr (l : List UInt8) (hv : ¬ ((decodeL l).1 = 65533 ∧ (decodeL l).2 = 1)) : vr (decodeL l).1 := by
  rw [decodeL_N] at hv
  rw [decodeL_N]
  have h0 := (l.getD 0 0).toNat_lt
  have h1 := (l.getD 1 0).toNat_lt
  have h2 := (l.getD 2 0).toNat_lt
  have h3 := (l.getD 3 0).toNat_lt
  generalize (l.getD 0 0).toNat = b0 at *
  generalize (l.getD 1 0).toNat = b1 at *
  generalize (l.getD 2 0).toNat = b2 at *
  generalize (l.getD 3 0).toNat = b3 at *
  unfold decodeN at hv ⊢
  unfold vr
  repeat' split
  all_goals (first | (simp only; omega) | (exfalso; revert hv; simp; done))
set_option maxRecDepth 100000 in
theorem encode_same (r : Nat) (h : vr r) : encodeRune (r : Int) = encR r := by
  have hv : r < 55296 ∨ (57344 ≤ r ∧ r ≤ 1114111) := h
  have e (n : Nat) : (Int.toNat ((n : Nat) : Int)).toUInt8 = UInt8.ofNat n := rfl
  unfold encodeRune encodeRuneZ
  rcases encR_cases r h with ⟨h1, e1⟩ | ⟨h1, h2, e1⟩ | ⟨h1, h2, e1⟩ | ⟨h1, e1⟩
  · rw [if_pos (by omega), e1]; rfl
  · rw [if_neg (by omega), if_pos (by omega), e1]
    rw [show (192 + (r : Int) / 64) = ((192 + r / 64 : Nat) : Int) from by simp only [Int.natCast_add, Int.natCast_ediv, Int.natCast_emod]; rfl, show (128 + (r : Int) % 64) = ((128 + r % 64 : Nat) : Int) from by simp only [Int.natCast_add, Int.natCast_ediv, Int.natCast_emod]; rfl]
    rfl
  · rw [if_neg (by omega), if_neg (by omega), if_pos (by omega), e1]
    rw [show (224 + (r : Int) / 4096) = ((224 + r / 4096 : Nat) : Int) from by simp only [Int.natCast_add, Int.natCast_ediv, Int.natCast_emod]; rfl, show (128 + (r : Int) / 64 % 64) = ((128 + r / 64 % 64 : Nat) : Int) from by simp only [Int.natCast_add, Int.natCast_ediv, Int.natCast_emod]; rfl, show (128 + (r : Int) % 64) = ((128 + r % 64 : Nat) : Int) from by simp only [Int.natCast_add, Int.natCast_ediv, Int.natCast_emod]; rfl]
    rfl
  · rw [if_neg (by omega), if_neg (by omega), if_neg (by omega), if_pos (by omega), e1]
    rw [show (240 + (r : Int) / 262144) = ((240 + r / 262144 : Nat) : Int) from by simp only [Int.natCast_add, Int.natCast_ediv, Int.natCast_emod]; rfl, show (128 + (r : Int) / 4096 % 64) = ((128 + r / 4096 % 64 : Nat) : Int) from by simp only [Int.natCast_add, Int.natCast_ediv, Int.natCast_emod]; rfl, show (128 + (r : Int) / 64 % 64) = ((128 + r / 64 % 64 : Nat) : Int) from by simp only [Int.natCast_add, Int.natCast_ediv, Int.natCast_emod]; rfl, show (128 + (r : Int) % 64) = ((128 + r % 64 : Nat) : Int) from by simp only [Int.natCast_add, Int.natCast_ediv, Int.natCast_emod]; rfl]
    rfl
theorem enc_dec (n : Nat) : ∀ (l : List UInt8), l.length ≤ n → validD l = true → encL (dec l) = l ∧ ∀ r ∈ dec l, vr r := by
  induction n with
  | zero =>
    intro l hl _
    obtain rfl : l = [] := List.eq_nil_of_length_eq_zero (by omega)
    exact ⟨rfl, by simp [dec_nil]⟩
  | succ n ih =>
    intro l hl hv
    by_cases hne : l = []
    · subst hne; exact ⟨rfl, by simp [dec_nil]⟩
    · have hw := decodeL_width l
      have hp : 0 < l.length := List.length_pos_iff.2 hne
      rw [validD_step l hne] at hv
      by_cases hb : (decodeL l).1 = 65533 ∧ (decodeL l).2 = 1
      · rw [if_pos hb] at hv; cases hv
      · rw [if_neg hb] at hv
        obtain ⟨h1, h2⟩ := ih (l.drop (decodeL l).2) (by rw [List.length_drop]; omega) hv
        rw [dec_step l hne, encL_cons, h1, ← encode_same _ (decode_vr l hb), encode_decode l hne hb]
        refine ⟨List.take_append_drop _ _, fun r hr => ?_⟩
        rcases List.mem_cons.1 hr with rfl | hr
        · exact decode_vr l hb
        · exact h2 r hr
theorem enc_dec_all (l : List UInt8) (h : validD l = true) : encL (dec l) = l ∧ ∀ r ∈ dec l, vr r := enc_dec l.length l (Nat.le_refl _) h

theorem count_from (s : ByteArray) : ∀ (f pos : Nat), runeCountFrom s f pos = (decAll f (s.data.toList.drop pos)).length
  | 0, _ => rfl
  | f + 1, pos => by
    unfold runeCountFrom decAll
    by_cases h : pos < s.size
    · have hne : s.data.toList.drop pos ≠ [] := by
        intro e; have := congrArg List.length e; rw [List.length_drop] at this; simp at this
        have : s.size = s.data.size := rfl
        omega
      rw [if_pos h, if_neg hne, decodeL_drop, count_from s f, List.drop_drop, List.length_cons]
      omega
    · have he : s.data.toList.drop pos = [] := List.drop_eq_nil_of_le (by have : s.size = s.data.size := rfl; simp; omega)
      rw [if_neg h, if_pos he]; rfl
theorem count_dec (s : ByteArray) : runeCount s = (dec s.data.toList).length := by
  unfold runeCount dec
  rw [count_from, List.drop_zero]
  rfl
theorem runesFrom_dec (s : ByteArray) : ∀ (f pos : Nat) (acc : Array Value), Conv.runesFrom s f pos acc = acc ++ ((decAll f (s.data.toList.drop pos)).map fun r : Nat => Value.int .i32 ((r : Nat) : Int)).toArray
  | 0, _, acc => by simp [Conv.runesFrom, decAll]
  | f + 1, pos, acc => by
    unfold Conv.runesFrom decAll
    by_cases h : pos < s.size
    · have hne : s.data.toList.drop pos ≠ [] := by
        intro e; have := congrArg List.length e; rw [List.length_drop] at this; simp at this
        have : s.size = s.data.size := rfl
        omega
      rw [if_pos h, if_neg hne, decodeL_drop]
      simp only
      rw [runesFrom_dec s f, List.drop_drop]
      simp
    · have he : s.data.toList.drop pos = [] := List.drop_eq_nil_of_le (by have : s.size = s.data.size := rfl; simp; omega)
      rw [if_neg h, if_pos he]; simp
end Go.Proofs.YtdbdhpjjndhjiaaDoor.Uni

namespace Go.Proofs.YtdbdhpjjndhjiaaDoor
open Go.RowKit

def partCells (p : Part) : List Value := [.int .i64 p.kind, .int .i64 p.n, .string p.text]
def flat (l : Op) : List Value := l.flatMap partCells
theorem flat_len (l : Op) : (flat l).length = l.length * 3 := by
  induction l with
  | nil => rfl
  | cons p l ih => simp only [flat, List.flatMap_cons, List.length_append, List.length_cons] at ih ⊢; rw [ih]; simp [partCells]; omega
theorem flat_append (a b : Op) : flat (a ++ b) = flat a ++ flat b := by simp [flat]
theorem flat_one (p : Part) : flat [p] = partCells p := by simp [flat]
theorem flat_at (l : Op) (i : Nat) (p : Part) (h : l[i]? = some p) : (flat l)[i * 3]? = some (.int .i64 p.kind) ∧ (flat l)[i * 3 + 1]? = some (.int .i64 p.n) ∧ (flat l)[i * 3 + 2]? = some (.string p.text) := by
  induction l generalizing i with
  | nil => simp at h
  | cons q l ih =>
    cases i with
    | zero => simp at h; subst h; simp [flat, partCells]
    | succ i =>
      simp at h
      obtain ⟨h1, h2, h3⟩ := ih i h
      have e : flat (q :: l) = partCells q ++ flat l := by simp [flat]
      rw [e]
      have e2 : (partCells q).length = 3 := rfl
      refine ⟨?_, ?_, ?_⟩
      · rw [List.getElem?_append_right (by rw [e2]; omega), e2, show (i + 1) * 3 - 3 = i * 3 from by omega]; exact h1
      · rw [List.getElem?_append_right (by rw [e2]; omega), e2, show (i + 1) * 3 + 1 - 3 = i * 3 + 1 from by omega]; exact h2
      · rw [List.getElem?_append_right (by rw [e2]; omega), e2, show (i + 1) * 3 + 2 - 3 = i * 3 + 2 from by omega]; exact h3
theorem flat_snoc (p : Part) (r : List Part) : flat (p :: r).reverse = flat r.reverse ++ partCells p := by rw [List.reverse_cons, flat_append, flat_one]
theorem flat_set (p q : Part) (r : List Part) (hk : p.kind = q.kind) : ((flat (q :: r).reverse).set (r.length * 3 + 1) (.int .i64 p.n)).set (r.length * 3 + 2) (.string p.text) = flat (p :: r).reverse := by
  rw [flat_snoc, flat_snoc, List.set_append_right _ _ (by rw [flat_len]; simp), List.set_append_right _ _ (by rw [flat_len]; simp), flat_len]
  simp [partCells, hk]
theorem flat_one' (l : Op) : ∀ v ∈ flat l, v.oneCell' = true := by
  intro v hv
  simp only [flat, List.mem_flatMap] at hv
  obtain ⟨p, _, hp⟩ := hv
  simp only [partCells, List.mem_cons, List.not_mem_nil, or_false] at hp
  rcases hp with rfl | rfl | rfl <;> rfl

theorem ownsRow_drewN {w : World} {B e size n : Nat} {v : Value} {xs : List Value} (h : w.ownsRow B e size v n xs) (k : Nat) : (w.drewN k).ownsRow B e size v n xs := h
theorem ownsRow_drew {w : World} {B e size n : Nat} {v : Value} {xs : List Value} (h : w.ownsRow B e size v n xs) : w.drew.ownsRow B e size v n xs := h
theorem heap_new_at (w : World) (o : Obj) (H : Nat) (h : w.heap.size = H) : (w.alloc o).heap[H]? = some o := by subst h; exact heap_alloc_new w o
theorem news_at {w : World} {H t : Nat} {l : List Value} (h : w.heap[H]? = some (.cells l.toArray t (0, 0))) : ∀ j u, l[j]? = some u → w.cell? ((⟨H, 0, none⟩ : Addr).add j) = some u := by
  intro j u hu
  have e : (⟨H, 0, none⟩ : Addr).add j = ⟨H, j, none⟩ := by
    unfold Addr.add
    split
    · rename_i h0; rw [h0]
    · simp
  rw [e, cell_of_row w H j _ t (0, 0) h]
  simpa using hu

/-- only the blocks of S, and new ones, have turned -/
structure Touch (S : Nat → Prop) (w w' : World) : Prop where
  os : w'.os = w.os
  tape : w'.tape = w.tape
  output : w'.output = w.output
  size : w.heap.size ≤ w'.heap.size
  block : ∀ k, k < w.heap.size → ¬ S k → w'.heap[k]? = w.heap[k]?
theorem Touch.refl (S : Nat → Prop) (w : World) : Touch S w w := ⟨rfl, rfl, rfl, Nat.le_refl _, fun _ _ _ => rfl⟩
theorem Touch.trans {S : Nat → Prop} {a b c : World} (h : Touch S a b) (k : Touch S b c) : Touch S a c :=
  ⟨k.os.trans h.os, k.tape.trans h.tape, k.output.trans h.output, Nat.le_trans h.size k.size, fun i hi hs => (k.block i (Nat.lt_of_lt_of_le hi h.size) hs).trans (h.block i hi hs)⟩
theorem Touch.mono {S S' : Nat → Prop} {a b : World} (h : Touch S a b) (hs : ∀ k, k < a.heap.size → S k → S' k) : Touch S' a b :=
  ⟨h.os, h.tape, h.output, h.size, fun i hi hn => h.block i hi (fun hh => hn (hs i hi hh))⟩
/-- two steps of different reach: what the second one touches was touched by the first, or is new -/
theorem Touch.then_ {S S' : Nat → Prop} {a b c : World} (h : Touch S a b) (k : Touch S' b c) (hs : ∀ i, i < a.heap.size → S' i → S i) : Touch S a c :=
  ⟨k.os.trans h.os, k.tape.trans h.tape, k.output.trans h.output, Nat.le_trans h.size k.size, fun i hi hn => (k.block i (Nat.lt_of_lt_of_le hi h.size) (fun hh => hn (hs i hi hh))).trans (h.block i hi hn)⟩
theorem Touch.drew {S : Nat → Prop} {a w : World} (h : Touch S a w) : Touch S a w.drew := ⟨h.os, h.tape, h.output, h.size, h.block⟩
theorem Touch.drewN {S : Nat → Prop} {a w : World} (h : Touch S a w) (n : Nat) : Touch S a (w.drewN n) := ⟨h.os, h.tape, h.output, h.size, h.block⟩
theorem Touch.alloc {S : Nat → Prop} {a w : World} (h : Touch S a w) (o : Obj) : Touch S a (w.alloc o) :=
  ⟨h.os, h.tape, h.output, Nat.le_trans h.size (by simp), fun i hi hs => (Below.heap_alloc w o i (Nat.lt_of_lt_of_le hi h.size)).trans (h.block i hi hs)⟩
theorem Touch.setCell {S : Nat → Prop} {a w : World} (h : Touch S a w) {p : Addr} (hp : S p.block ∨ a.heap.size ≤ p.block) (u : Value) : Touch S a (w.setCell p u) :=
  ⟨h.os, h.tape, h.output, by simpa [World.setCell] using h.size, fun i hi hs => (Below.heap_setCell w p u i (by
    rintro rfl
    rcases hp with hp | hp
    · exact hs hp
    · omega)).trans (h.block i hi hs)⟩
theorem Touch.grown {S : Nat → Prop} {a w w' : World} {row : Option Nat} (h : Touch S a w) (hg : w.grownBy w' row) (hr : ∀ k, row = some k → S k ∨ a.heap.size ≤ k) : Touch S a w' :=
  ⟨hg.os.trans h.os, hg.tape.trans h.tape, hg.output.trans h.output, Nat.le_trans h.size hg.size, fun i hi hs => (hg.block i (Nat.lt_of_lt_of_le hi h.size) (fun e => by
    rcases hr i e.symm with hh | hh
    · exact hs hh
    · omega)).trans (h.block i hi hs)⟩
theorem Touch.below {S : Nat → Prop} {a w w' : World} {B : Nat} (h : Touch S a w) (hb : Below B w w') (hB : a.heap.size ≤ B) : Touch S a w' :=
  ⟨hb.os.trans h.os, hb.tape.trans h.tape, hb.output.trans h.output, Nat.le_trans h.size hb.size, fun i hi hs => (hb.block i (by omega)).trans (h.block i hi hs)⟩
theorem Touch.toBelow {S : Nat → Prop} {w w' : World} {B : Nat} (h : Touch S w w') (hB : B ≤ w.heap.size) (hs : ∀ k, S k → B ≤ k) : Below B w w' :=
  ⟨h.os, h.tape, h.output, h.size, fun k hk => h.block k (by omega) (fun hh => by have := hs k hh; omega)⟩
theorem Touch.of_below {S : Nat → Prop} {w w' : World} (h : Below w.heap.size w w') : Touch S w w' := ⟨h.os, h.tape, h.output, h.size, fun k hk _ => h.block k hk⟩
theorem Touch.cell {S : Nat → Prop} {w w' : World} (h : Touch S w w') {b o : Nat} (hb : b < w.heap.size) (hs : ¬ S b) : w'.cell? ⟨b, o, none⟩ = w.cell? ⟨b, o, none⟩ := cell_keep (h.block b hb hs)

/-- Block b is a struct of the call's own: a slice v of parts of the call's own, and the cells ex. -/
structure Bag (T : TypeId) (B b : Nat) (v : Value) (ex : List Value) (l : Op) (w : World) : Prop where
  base : B ≤ b
  blk : w.heap[b]? = some (.cells (v :: ex).toArray T (0, 0))
  own : w.ownsRow B 109 3 v l.length (flat l)
  ne : v.ownBlock ≠ some b
def Bag.S (b : Nat) (v : Value) : Nat → Prop := fun k => k = b ∨ v.ownBlock = some k

section
variable {T : TypeId} {B b : Nat} {v : Value} {ex : List Value} {l : Op} {w w' : World}
theorem Bag.lt (h : Bag T B b v ex l w) : b < w.heap.size := (Array.getElem?_eq_some_iff.1 h.blk).1
theorem Bag.cell (h : Bag T B b v ex l w) (i : Nat) : w.cell? ⟨b, i, none⟩ = (v :: ex)[i]? := by
  rw [cell_of_row w b i _ T (0, 0) h.blk]; simp
theorem Bag.frozen (h : Bag T B b v ex l w) (i : Nat) : w.frozen? ⟨b, i, none⟩ = false := frozen_of_row w b i _ T h.blk
theorem Bag.form (h : Bag T B b v ex l w) : ∃ a c, v = .slice a l.length c := by
  rcases h.own.2 with ⟨hv, h0⟩ | ⟨g, cap, cur, hv, _⟩
  · exact ⟨none, 0, by rw [hv, h0]⟩
  · exact ⟨_, _, hv⟩
theorem Bag.rowlt (h : Bag T B b v ex l w) : ∀ k, v.ownBlock = some k → B ≤ k ∧ k < w.heap.size := h.own.lt
theorem Bag.keep (h : Bag T B b v ex l w) (hk : ∀ k, (k = b ∨ v.ownBlock = some k) → w'.heap[k]? = w.heap[k]?) : Bag T B b v ex l w' := by
  refine ⟨h.base, (hk b (.inl rfl)).trans h.blk, ?_, h.ne⟩
  refine ⟨h.own.1, ?_⟩
  rcases h.own.2 with hn | ⟨g, cap, cur, hv, hb, hg, rest⟩
  · exact .inl hn
  · exact .inr ⟨g, cap, cur, hv, hb, (hk g (.inr (by rw [hv]; rfl))).trans hg, rest⟩
theorem Bag.below (h : Bag T B b v ex l w) (hb : Below w.heap.size w w') : Bag T B b v ex l w' := h.keep fun k hk => hb.block k (by
  rcases hk with rfl | hk
  · exact h.lt
  · exact (h.rowlt k hk).2)
theorem Bag.touch {S : Nat → Prop} (h : Bag T B b v ex l w) (ht : Touch S w w') (hs : ∀ k, (k = b ∨ v.ownBlock = some k) → ¬ S k) : Bag T B b v ex l w' := h.keep fun k hk => ht.block k (by
  rcases hk with rfl | hk
  · exact h.lt
  · exact (h.rowlt k hk).2) (hs k hk)
theorem Bag.alloc (h : Bag T B b v ex l w) (o : Obj) : Bag T B b v ex l (w.alloc o) := h.below ((Below.refl _ _).alloc (Nat.le_refl _) _)
/-- the slice in it is another one now -/
theorem Bag.put {v' : Value} {l' : Op} (hB : B ≤ b) (hb : w.heap[b]? = some (.cells (v :: ex).toArray T (0, 0))) (hown : w.ownsRow B 109 3 v' l'.length (flat l')) (hT : T ≠ 109) :
    Bag T B b v' ex l' (w.setCell ⟨b, 0, none⟩ v') := by
  have hne : v'.ownBlock ≠ some b := by
    rcases hown.2 with ⟨hv, _⟩ | ⟨g, cap, cur, hv, _, hg, _⟩
    · rw [hv]; simp [Value.ownBlock]
    · rw [hv]; simp only [Value.ownBlock]; intro e
      have e2 : g = b := by injection e
      rw [e2, hb] at hg
      injection hg with hg
      injection hg with _ ht
      exact hT ht
  refine ⟨hB, ?_, ?_, hne⟩
  · simp [World.setCell, Array.getElem?_modify, hb]
  · exact hown.kept (row := some b) ⟨rfl, rfl, rfl, by simp [World.setCell], fun k _ hk => Below.heap_setCell _ _ _ _ (fun e => hk (by simp [e]))⟩ (.inr hne)
theorem ownsRow_cut {w : World} {B e size : Nat} {a : Option Addr} {n c : Nat} {xs : List Value} (h : w.ownsRow B e size (.slice a n c) n xs) (m : Nat) (hm : m < n) : w.ownsRow B e size (.slice a m c) m (xs.take (m * size)) := by
  rcases h.2 with ⟨_, h0⟩ | ⟨g, cap, cur, hv, hg, hh, hnc, hcm, hcs, ht⟩
  · omega
  · have hle : m * size ≤ n * size := Nat.mul_le_mul_right _ (by omega)
    injection hv with hv1 hv2 hv3
    subst hv1 hv3
    refine ⟨by rw [List.length_take, h.1]; omega, .inr ⟨g, c, cur, rfl, hg, hh, by omega, hcm, hcs, ?_⟩⟩
    rw [← ht, List.take_take, Nat.min_eq_left hle]
theorem flat_take (l r : Op) : (flat (l ++ r)).take (l.length * 3) = flat l := by
  rw [flat_append, ← flat_len, List.take_left]
/-- the last part -/
theorem Bag.last {q : Part} {r : List Part} {a : Option Addr} {n c : Nat} (h : Bag T B b v ex (q :: r).reverse w) (hv : v = .slice a n c) :
    ∃ g, a = some ⟨g, 0, none⟩ ∧ v.ownBlock = some g ∧ w.cell? ⟨g, r.length * 3, none⟩ = some (.int .i64 q.kind) ∧ w.cell? ⟨g, r.length * 3 + 1, none⟩ = some (.int .i64 q.n) ∧ w.cell? ⟨g, r.length * 3 + 2, none⟩ = some (.string q.text) := by
  have hown := h.own
  have hq := flat_at (q :: r).reverse r.length q (by simp)
  simp only [List.length_reverse, List.length_cons] at hown
  rcases hown.2 with ⟨_, h0⟩ | ⟨g, cap, cur, hv2, _⟩
  · omega
  · rw [hv2] at hown hv
    injection hv with h1 h2 h3
    refine ⟨g, h1.symm, by rw [hv2]; rfl, ?_, ?_, ?_⟩
    · rw [hown.cellAt _ (by omega)]; exact hq.1
    · rw [hown.cellAt _ (by omega)]; exact hq.2.1
    · rw [hown.cellAt _ (by omega)]; exact hq.2.2
theorem Bag.rd (h : Bag T B b v ex l w) (hp : ∀ p ∈ l, I64 p.kind ∧ I64 p.n ∧ p.text.size ≤ strMax) {A : Nat → Prop} (hA : ∀ k, v.ownBlock = some k → A k) : ∃ a c, v = .slice a l.length c ∧ RdS A w l a l.length c := by
  obtain ⟨a, n, c, hv, hr⟩ := RdS.of_row (α := Part) h.own hA (fun i x hx => ⟨partCells x, ⟨rfl, hp x (List.mem_of_getElem? hx)⟩, fun j u hu => by
    obtain ⟨h1, h2, h3⟩ := flat_at l i x hx
    simp only [Rep.n]
    match j, hu with
    | 0, hu => simp [partCells] at hu; rw [← hu]; exact h1
    | 1, hu => simp [partCells] at hu; rw [← hu]; exact h2
    | 2, hu => simp [partCells] at hu; rw [← hu]; exact h3⟩)
  have hn := hr.1
  subst hn
  exact ⟨a, c, hv, hr⟩
end
end Go.Proofs.YtdbdhpjjndhjiaaDoor

namespace Go.Proofs.YtdbdhpjjndhjiaaDoor
open Go.RowKit

def pk (n m : Int) : Int := if n < 0 then (-(n + 1)) % m else n % m
theorem pk_range (n m : Int) (hm : 1 ≤ m) : 0 ≤ pk n m ∧ pk n m < m := by
  unfold pk
  split
  · exact ⟨Int.emod_nonneg _ (by omega), Int.emod_lt_of_pos _ (by omega)⟩
  · exact ⟨Int.emod_nonneg _ (by omega), Int.emod_lt_of_pos _ (by omega)⟩

set_option maxHeartbeats 400000 in
theorem picked_any (n m : Int) (w : World) (hn : I64 n) (hm : 1 ≤ m) (hm' : m ≤ 9223372036854775807) :
    Calls Tryd.prog 18 #[.int .i64 n, .int .i64 m] w fun e w' => e = .returned (.int .i64 (pk n m)) ∧ w = w' := by
  unfold I64 at hn
  by_cases h : n < 0
  · have h1 : 0 ≤ -(n+1) := by omega
    go_enter Tryd.func18, Tryd.ntmps18
    go_wp2
    go_ret
    refine ⟨?_, rfl⟩
    show Ending.returned (.int .i64 (-((n + 1).tmod m))) = _
    rw [pk, if_pos h, ← Int.neg_tmod, Int.tmod_eq_emod_of_nonneg h1]
  · go_enter Tryd.func18, Tryd.ntmps18
    go_wp2
    go_ret
    exact ⟨by rw [pk, if_neg (by omega)]; rfl, rfl⟩

end Go.Proofs.YtdbdhpjjndhjiaaDoor

namespace Go.Proofs.YtdbdhpjjndhjiaaDoor
open Go.RowKit

/-- the rune that letters makes of a byte -/
def lt (c : Nat) : Nat := if c % 8 = 6 then 224 + c / 8 else if c % 8 = 7 then 128512 + c / 8 else 97 + c / 8
def lets (s : Str) (most : Nat) : List Nat := (s.data.toList.take most).map fun c => lt c.toNat
def letters (s : Str) (most : Nat) : Str := Uni.enc (lets s most)
theorem lt_vr (c : Nat) (h : c < 256) : Uni.vr (lt c) := by
  unfold lt Uni.vr; (repeat' split) <;> omega
theorem take_next' (s : Str) (k : Nat) (h : k < s.size) : s.data.toList.take (k + 1) = s.data.toList.take k ++ [s[k]] := by
  rw [List.take_succ_eq_append_getElem (by simpa using h)]; rfl
theorem lets_vr (s : Str) (m : Nat) : ∀ r ∈ lets s m, Uni.vr r := by
  intro r hr
  simp only [lets, List.mem_map] at hr
  obtain ⟨c, _, rfl⟩ := hr
  exact lt_vr _ c.toNat_lt
theorem lets_len (s : Str) (m : Nat) : (lets s m).length = min m s.size := by
  simp [lets]
theorem rc_enc (rs : List Nat) (h : ∀ r ∈ rs, Uni.vr r) : rc (Uni.enc rs) = rs.length := by
  unfold rc Uni.enc
  rw [Uni.count_dec]
  simp only
  rw [Uni.dec_enc_all rs h]
theorem valid_enc (rs : List Nat) (h : ∀ r ∈ rs, Uni.vr r) : valid (Uni.enc rs) = true := by
  unfold valid Uni.enc
  exact Uni.valid_encL rs h
theorem encL_size (rs : List Nat) (h : ∀ r ∈ rs, Uni.vr r) : (Uni.encL rs).length ≤ rs.length * 4 := by
  induction rs with
  | nil => simp [Uni.encL]
  | cons r rs ih =>
    rw [Uni.encL_cons, List.length_append, List.length_cons]
    have h1 := Uni.encR_len r (h r (by simp))
    have h2 := ih fun x hx => h x (by simp [hx])
    omega
theorem enc_size (rs : List Nat) (h : ∀ r ∈ rs, Uni.vr r) : (Uni.enc rs).size ≤ rs.length * 4 := by
  have := encL_size rs h
  show (Uni.encL rs).toArray.size ≤ _
  simpa using this
set_option maxRecDepth 100000 in
/-- the walk's own word for the bytes of runes -/
theorem runesBytes_enc (rs : List Nat) : runesBytes (rs.map fun r : Nat => (r : Int)) = Uni.enc rs := by
  have key : ∀ (rs : List Nat) (s : ByteArray), (rs.map fun r : Nat => (r : Int)).foldl (fun s n => s ++ Utf8.encode n) s = s ++ Uni.enc rs := by
    intro rs
    induction rs with
    | nil => intro s; apply ByteArray.ext; simp [Uni.enc, Uni.encL]
    | cons r rs ih =>
      intro s
      simp only [List.map_cons, List.foldl_cons]
      rw [ih]
      apply ByteArray.ext
      apply Array.ext'
      simp [Uni.enc, Uni.encL_cons, Uni.encR, ByteArray.data_append]
  unfold runesBytes
  rw [key]
  apply ByteArray.ext
  simp

theorem infoR : (Tryd.prog.info? 21).map (fun i => (i.zero, i.size, i.bytes)) = some (some (.int .i32 0), 1, 4) := by kernel_rfl

set_option maxHeartbeats 400000 in
theorem runes_any (s : Str) (w : World) (hs : s.size ≤ 70368744177664) :
    Calls Tryd.prog 32 #[.string s] w fun e w' => e = .returned (.int .i64 (rc s)) ∧ Below w.heap.size w w' := by
  have hcv := fun W : World => run_runes_of_string (P := Tryd.prog) W 9 100 21 s Tryd.underlying9 Tryd.underlying100 Tryd.underlying21
    (by have h := Uni.runesFrom_dec s s.size 0 #[]; rw [h]; have h2 := Uni.count_dec s; have h3 := Lib.runeCount_le s; simp only [List.drop_zero]; simp [Uni.dec] at h2 ⊢; omega)
  have hlen : (Conv.runesFrom s s.size 0 #[]).size = Lib.runeCount s := by
    rw [Uni.runesFrom_dec, Uni.count_dec]; simp [Uni.dec]
  rw [hlen] at hcv
  have Hl := Lib.hid hlen
  clear hlen
  generalize Conv.runesFrom s s.size 0 #[] = R at *
  unfold rc
  generalize Lib.runeCount s = k at *
  go_enter Tryd.func32, Tryd.ntmps32
  go_wp2_with fail
  go_ret
  exact ⟨rfl, by (repeat (first | exact Below.refl _ _ | assumption | (refine Below.drew ?_) | (refine below_drewN ?_ _) | (refine Below.alloc ?_ (by first | (simp; done) | (simp; omega) | omega) _) | (refine Below.setCell ?_ (by first | (simp; done) | (simp; omega) | omega) _) | (refine Below.trans ?_ (Below.mono (by assumption) (by first | (simp; done) | (simp; omega) | omega)))))⟩

theorem lets_next (s : Str) (k : Nat) (h : k < s.size) : lets s (k + 1) = lets s k ++ [lt s[k].toNat] := by
  unfold lets
  rw [take_next' s k h, List.map_append]; rfl
/-- runes in a row of the call's own, as a string -/
theorem conv_own {W : World} {B k c : Nat} {a : Option Addr} {rs : List Nat} (h : W.ownsRow B 21 1 (.slice a k c) k (rs.map fun r : Nat => .int .i32 (r : Int))) :
    (convert 100 9 (.slice a k c)).run Tryd.prog W = .ok (.string (Uni.enc rs)) W := by
  have hk : rs.length = k := by have := h.1; simpa using this
  rcases h.2 with ⟨hv, h0⟩ | ⟨g, cap, cur, hv, _⟩
  · have h1 : a = none := (Value.slice.injEq .. ▸ hv : a = none ∧ k = 0 ∧ c = 0).1
    subst h1
    have hr : rs = [] := List.eq_nil_of_length_eq_zero (by omega)
    subst hr
    have e : Uni.enc [] = ByteArray.empty := rfl
    rw [e]
    exact run_convert_runes_nil W _ _ _ _ _ Tryd.underlying100 Tryd.underlying21 Tryd.underlying9
  · have hc := h.cells (g := g) (by rw [hv]; rfl)
    have h1 : a = some ⟨g, 0, none⟩ := (Value.slice.injEq .. ▸ hv : a = some ⟨g, 0, none⟩ ∧ k = k ∧ c = cap).1
    subst h1
    have hz : ∀ j, j < (rs.map fun r : Nat => (r : Int)).length → W.cell? ((⟨g, 0, none⟩ : Addr).add j) = some (.int .i32 ((rs.map fun r : Nat => (r : Int)).getD j 0)) := by
      intro j hj
      refine hc j _ ?_
      simp only [List.length_map] at hj
      simp [List.getD, List.getElem?_eq_getElem hj]
    have hr := run_convert_runes W _ _ _ _ k c (rs.map fun r : Nat => (r : Int)) (by simp; omega) Tryd.underlying100 Tryd.underlying21 Tryd.underlying9 hz
    rw [List.take_of_length_le (by simp; omega), runesBytes_enc] at hr
    exact hr

set_option maxRecDepth 100000 in
set_option maxHeartbeats 2000000 in
theorem letters_any (s : Str) (m : Nat) (w : World) (hs : s.size ≤ maxLen) (hm : m ≤ 1000000) :
    Calls Tryd.prog 54 #[.string s, .int .i64 m] w fun e w' => e = .returned (.string (letters s m)) ∧ Below w.heap.size w w' := by
  obtain ⟨i0, hi, hz0, hz1, hz2⟩ := info_parts infoR
  unfold maxLen at hs
  go_enter Tryd.func54, Tryd.ntmps54
  go_wp2_with fail
  go_loopw [5, 6] (fun v i wr => ∃ k : Nat, k ≤ s.size ∧ k ≤ m ∧ i = .int .i64 k ∧ wr.ownsRow w.heap.size 21 1 v k ((lets s k).map fun r : Nat => .int .i32 (r : Int)) ∧ Below w.heap.size w wr) (fun _ i _ => s.size - (intOf i).toNat)
  case atStart => exact ⟨0, by omega, by omega, rfl, World.ownsRow_nil _ _ _ _, Below.refl _ _⟩
  case round =>
    obtain ⟨k, hk, hkm, rfl, hown, hb⟩ := hrel
    obtain ⟨ta, tc, rfl⟩ : ∃ ta tc, u5 = .slice ta k tc := by
      rcases hown.2 with ⟨h, h0⟩ | ⟨g, cap, cur, hv, _⟩
      · exact ⟨none, 0, by rw [h, h0]⟩
      · exact ⟨_, _, hv⟩
    by_cases hgo : k < s.size ∧ k < m
    · obtain ⟨hlt, hltm⟩ := hgo
      have hnx := lets_next s k hlt
      have Hb8 := Lib.hid s[k].toNat_lt
      have Hnx := Lib.hid hnx
      clear hnx
      by_cases h6 : s[k].toNat % 8 = 6
      · have b6 : ((s[k].toNat : Int) % 8 == 6) = true := by simp; omega
        have Hval : Hid ( 224 + (s[k].toNat : Int) / 8 % 256 = ((lt s[k].toNat : Nat) : Int) ) := by unfold Hid; have h8 := Hb8.out; unfold lt; rw [if_pos h6]; omega
        clear h6
        go_wp2_with (at_builtin; refine wpList_append_own _ rfl _ _ 100 rfl w.heap.size 21 i0 (.int .i32 0) 1 4 Tryd.underlying100 hi hz0 hz1 hz2 rfl (by decide) _ _ _ rfl (hown.alloc _) ⟨wr.heap.size, 0, none⟩ 1 1 [.int .i32 (224 + (s[k].toNat : Int) / 8 % 256)] rfl rfl ?c1 ?c2 ?c3 ?c4 ?c5 ?_)
        case c1 => exact cell_one_new _ _ _
        case c2 => intro u hu; simp at hu; subst hu; rfl
        case c3 => unfold maxLen; omega
        case c4 => omega
        case c5 => have := hb.size; simp; omega
        intro v' w1 hown' hgrow _
        go_wp2
        go_roundw
        case rel =>
          refine ⟨k + 1, by omega, by omega, by go_num, ?_, ?_⟩
          · rw [Hnx.out, List.map_append, List.map_cons, List.map_nil, ← Hval.out]; exact hown'
          · exact (hb.alloc hb.size _).grown hgrow (by have := hb.size; simp; omega) (fun g hg => (hown.lt g hg).1)
        case measure => simp [intOf]; omega
      · by_cases h7 : s[k].toNat % 8 = 7
        · have b6 : ((s[k].toNat : Int) % 8 == 6) = false := by simp; omega
          have b7 : ((s[k].toNat : Int) % 8 == 7) = true := by simp; omega
          have Hval : Hid ( 128512 + (s[k].toNat : Int) / 8 % 256 = ((lt s[k].toNat : Nat) : Int) ) := by unfold Hid; have h8 := Hb8.out; unfold lt; rw [if_neg h6, if_pos h7]; omega
          clear h6 h7
          go_wp2_with (at_builtin; refine wpList_append_own _ rfl _ _ 100 rfl w.heap.size 21 i0 (.int .i32 0) 1 4 Tryd.underlying100 hi hz0 hz1 hz2 rfl (by decide) _ _ _ rfl (hown.alloc _) ⟨wr.heap.size, 0, none⟩ 1 1 [.int .i32 (128512 + (s[k].toNat : Int) / 8 % 256)] rfl rfl ?c1 ?c2 ?c3 ?c4 ?c5 ?_)
          case c1 => exact cell_one_new _ _ _
          case c2 => intro u hu; simp at hu; subst hu; rfl
          case c3 => unfold maxLen; omega
          case c4 => omega
          case c5 => have := hb.size; simp; omega
          intro v' w1 hown' hgrow _
          go_wp2
          go_roundw
          case rel =>
            refine ⟨k + 1, by omega, by omega, by go_num, ?_, ?_⟩
            · rw [Hnx.out, List.map_append, List.map_cons, List.map_nil, ← Hval.out]; exact hown'
            · exact (hb.alloc hb.size _).grown hgrow (by have := hb.size; simp; omega) (fun g hg => (hown.lt g hg).1)
          case measure => simp [intOf]; omega
        · have b6 : ((s[k].toNat : Int) % 8 == 6) = false := by simp; omega
          have b7 : ((s[k].toNat : Int) % 8 == 7) = false := by simp; omega
          have Hval : Hid ( 97 + (s[k].toNat : Int) / 8 % 256 = ((lt s[k].toNat : Nat) : Int) ) := by unfold Hid; have h8 := Hb8.out; unfold lt; rw [if_neg h6, if_neg h7]; omega
          clear h6 h7
          go_wp2_with (at_builtin; refine wpList_append_own _ rfl _ _ 100 rfl w.heap.size 21 i0 (.int .i32 0) 1 4 Tryd.underlying100 hi hz0 hz1 hz2 rfl (by decide) _ _ _ rfl (hown.alloc _) ⟨wr.heap.size, 0, none⟩ 1 1 [.int .i32 (97 + (s[k].toNat : Int) / 8 % 256)] rfl rfl ?c1 ?c2 ?c3 ?c4 ?c5 ?_)
          case c1 => exact cell_one_new _ _ _
          case c2 => intro u hu; simp at hu; subst hu; rfl
          case c3 => unfold maxLen; omega
          case c4 => omega
          case c5 => have := hb.size; simp; omega
          intro v' w1 hown' hgrow _
          go_wp2
          go_roundw
          case rel =>
            refine ⟨k + 1, by omega, by omega, by go_num, ?_, ?_⟩
            · rw [Hnx.out, List.map_append, List.map_cons, List.map_nil, ← Hval.out]; exact hown'
            · exact (hb.alloc hb.size _).grown hgrow (by have := hb.size; simp; omega) (fun g hg => (hown.lt g hg).1)
          case measure => simp [intOf]; omega
    · have hk2 : k = min m s.size := by omega
      have hfin : lets s k = lets s m := by
        unfold lets
        rw [hk2, List.take_eq_take_iff.2]
        have : s.data.toList.length = s.size := by simp
        omega
      rw [hfin] at hown
      have hcv := conv_own hown
      have Hfin : Hid (Ending.returned (.string (Uni.enc (lets s m))) = Ending.returned (.string (letters s m))) := rfl
      clear hfin hown hk2
      generalize Uni.enc (lets s m) = T at *
      by_cases hlt : k < s.size
      · have hltm : ¬ k < m := fun h => hgo ⟨hlt, h⟩
        clear hgo
        go_wp2_with fail
        go_ret
        exact ⟨Hfin.out, hb⟩
      · clear hgo
        go_wp2_with fail
        go_ret
        exact ⟨Hfin.out, hb⟩
end Go.Proofs.YtdbdhpjjndhjiaaDoor
