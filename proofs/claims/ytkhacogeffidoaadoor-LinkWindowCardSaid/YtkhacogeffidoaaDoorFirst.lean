/- The first texts of this claim, one behind the other. -/
import Derived.WalkKit
import Derived.WalkSpells
import Derived.WalkLawsBesides
import Derived.Deep.Draws
import Derived.Shelf.Unicode.DecodeSlow
import Derived.Test.YtkhacogeffidoaaDoorRows
import Derived.Test.YtkhacogeffidoaaDoorShelf
import Derived.Lib.RuneCount
import Derived.Lib.ValidLaws
import Derived.BigQuiet
import Derived.Deep.QuietTactic
import Derived.Lib.Hide
set_option linter.unusedVariables false
set_option linter.unusedSimpArgs false
namespace Go.Proofs.YtkhacogeffidoaaDoor
open Go.RowKit

abbrev Str := ByteArray
structure Part where
  kind : Int
  n : Int
  text : Str
abbrev Op := List Part
def emptyS (s : Str) : Bool := s.toList.isEmpty

/-- no string is longer -/
def strMax : Nat := 140737488355328
theorem strMax_lt : strMax < maxLen := by unfold strMax maxLen; omega
/-- a number that an int holds -/
def I64 (x : Int) : Prop := -9223372036854775808 ≤ x ∧ x ≤ 9223372036854775807

/-- Data of type α lie in 'n' cells; 'rd A w x cs': the cells cs read as x in the world w; all memory that is reached lies in blocks that A allows. -/
class Rep (α : Type) where
  n : Nat
  rd : (Nat → Prop) → World → α → List Value → Prop
  len : ∀ {A w x cs}, rd A w x cs → cs.length = n
  mono : ∀ {A A' : Nat → Prop} {w w' : World} {x cs}, (∀ b, A b → A' b ∧ w'.heap[b]? = w.heap[b]?) → rd A w x cs → rd A' w' x cs
  one : ∀ {A w x cs}, rd A w x cs → ∀ v ∈ cs, v.oneCell' = true
  pos : 0 < n

instance : Rep Int where
  n := 1
  rd := fun _ _ x cs => cs = [.int .i64 x] ∧ I64 x
  len := fun h => by rw [h.1]; rfl
  mono := fun _ h => h
  one := fun h => by rw [h.1]; simp [Value.oneCell']
  pos := by decide
instance : Rep Bool where
  n := 1
  rd := fun _ _ x cs => cs = [.bool x]
  len := fun h => by rw [h]; rfl
  mono := fun _ h => h
  one := fun h => by rw [h]; simp [Value.oneCell']
  pos := by decide
instance : Rep Str where
  n := 1
  rd := fun _ _ x cs => cs = [.string x] ∧ x.size ≤ strMax
  len := fun h => by rw [h.1]; rfl
  mono := fun _ h => h
  one := fun h => by rw [h.1]; simp [Value.oneCell']
  pos := by decide
instance : Rep Part where
  n := 3
  rd := fun _ _ x cs => cs = [.int .i64 x.kind, .int .i64 x.n, .string x.text] ∧ I64 x.kind ∧ I64 x.n ∧ x.text.size ≤ strMax
  len := fun h => by rw [h.1]; rfl
  mono := fun _ h => h
  one := fun h => by rw [h.1]; simp [Value.oneCell']
  pos := by decide

/-- the elements of a slice at block b, from cell off on -/
def Elems {α : Type} [Rep α] (A : Nat → Prop) (w : World) (b off : Nat) (l : List α) : Prop :=
  ∀ i x, l[i]? = some x → ∃ xs, Rep.rd A w x xs ∧ ∀ j v, xs[j]? = some v → w.cell? ⟨b, off + i * Rep.n α + j, none⟩ = some v

/-- a slice value that reads as a list -/
def RdS {α : Type} [Rep α] (A : Nat → Prop) (w : World) (l : List α) (a : Option Addr) (n c : Nat) : Prop :=
  n = l.length ∧ n ≤ c ∧ c ≤ maxLen ∧ (a = none → c = 0) ∧
  (0 < n → ∃ b off, a = some ⟨b, off, none⟩ ∧ A b ∧ b < w.heap.size ∧ Elems A w b off l)

theorem cell_keep {w w' : World} {b o : Nat} (h : w'.heap[b]? = w.heap[b]?) : w'.cell? ⟨b, o, none⟩ = w.cell? ⟨b, o, none⟩ :=
  World.cell?_of_block (a := ⟨b, o, none⟩) h

theorem Elems.mono {α : Type} [Rep α] {A A' : Nat → Prop} {w w' : World} {b off : Nat} {l : List α} (hb : A b) (h : ∀ b, A b → A' b ∧ w'.heap[b]? = w.heap[b]?)
    (he : Elems A w b off l) : Elems A' w' b off l := by
  intro i x hx
  obtain ⟨xs, h1, h2⟩ := he i x hx
  exact ⟨xs, Rep.mono h h1, fun j v hv => (cell_keep (h b hb).2).trans (h2 j v hv)⟩

theorem RdS.mono {α : Type} [Rep α] {A A' : Nat → Prop} {w w' : World} {l : List α} {a : Option Addr} {n c : Nat} (h : ∀ b, A b → A' b ∧ w'.heap[b]? = w.heap[b]?)
    (hr : RdS A w l a n c) : RdS A' w' l a n c := by
  obtain ⟨h1, h2, h3, h4, h6⟩ := hr
  refine ⟨h1, h2, h3, h4, fun hn => ?_⟩
  obtain ⟨b, off, e, hA, hb, he⟩ := h6 hn
  refine ⟨b, off, e, (h b hA).1, ?_, he.mono hA h⟩
  rcases Nat.lt_or_ge b w'.heap.size with hlt | hge
  · exact hlt
  · exfalso
    have h7 := (h b hA).2
    rw [Array.getElem?_eq_none hge, Array.getElem?_eq_getElem hb] at h7
    cases h7

instance {α : Type} [Rep α] : Rep (List α) where
  n := 1
  rd := fun A w l cs => ∃ a n c, cs = [.slice a n c] ∧ RdS A w l a n c
  len := fun ⟨_, _, _, h, _⟩ => by rw [h]; rfl
  mono := fun h ⟨a, n, c, e, hr⟩ => ⟨a, n, c, e, hr.mono h⟩
  one := fun ⟨_, _, _, h, _⟩ => by rw [h]; simp [Value.oneCell']
  pos := by decide

theorem RdS.below {α : Type} [Rep α] {A : Nat → Prop} {w w' : World} {l : List α} {a : Option Addr} {n c : Nat} (hr : RdS A w l a n c) (hA : ∀ b, A b → b < w.heap.size) (hb : Below w.heap.size w w') :
    RdS A w' l a n c := hr.mono fun b h => ⟨h, hb.block b (hA b h)⟩

/-- a row of the call's own that reads as a list: what each element is, is said of the row's cells -/
theorem RdS.of_row {α : Type} [Rep α] {A : Nat → Prop} {w : World} {base : Nat} {e : TypeId} {l : List α} {v : Value} {xs : List Value} (hown : w.ownsRow base e (Rep.n α) v l.length xs) (hA : ∀ b, v.ownBlock = some b → A b)
    (hx : ∀ i x, l[i]? = some x → ∃ ys, Rep.rd A w x ys ∧ ∀ j u, ys[j]? = some u → xs[i * Rep.n α + j]? = some u) :
    ∃ a n c, v = .slice a n c ∧ RdS A w l a n c := by
  rcases hown.2 with ⟨hv, h0⟩ | ⟨g, cap, cur, hv, hg, hh, hnc, hcm, _, _⟩
  · refine ⟨none, 0, 0, hv, ?_⟩
    have hl : l = [] := List.eq_nil_of_length_eq_zero h0
    subst hl
    exact ⟨rfl, by omega, by unfold maxLen; omega, fun _ => rfl, fun h => absurd h (by omega)⟩
  · refine ⟨some ⟨g, 0, none⟩, l.length, cap, hv, rfl, hnc, hcm, (fun h => by cases h), fun _ => ?_⟩
    have hlt : g < w.heap.size := (Array.getElem?_eq_some_iff.1 hh).1
    refine ⟨g, 0, rfl, hA g (by rw [hv]; rfl), hlt, fun i x hi => ?_⟩
    obtain ⟨ys, hr, hy⟩ := hx i x hi
    refine ⟨ys, hr, fun j u hu => ?_⟩
    have hc := hown.cells (g := g) (by rw [hv]; rfl) _ u (hy j u hu)
    have e : (⟨g, 0, none⟩ : Addr).add (i * Rep.n α + j) = ⟨g, i * Rep.n α + j, none⟩ := by
      unfold Addr.add
      split
      · rename_i h0; rw [h0]
      · simp
    rw [e] at hc
    simpa using hc

/-- one element of a slice of parts -/
theorem RdS.part {A : Nat → Prop} {w : World} {l : List Part} {a : Option Addr} {n c : Nat} (hr : RdS A w l a n c) (hn : 0 < n) :
    ∃ b off, a = some ⟨b, off, none⟩ ∧ A b ∧ b < w.heap.size ∧ ∀ i (h : i < l.length), I64 l[i].kind ∧ I64 l[i].n ∧ l[i].text.size ≤ strMax ∧
      w.cell? ⟨b, off + i * 3, none⟩ = some (.int .i64 l[i].kind) ∧ w.cell? ⟨b, off + i * 3 + 1, none⟩ = some (.int .i64 l[i].n) ∧ w.cell? ⟨b, off + i * 3 + 2, none⟩ = some (.string l[i].text) := by
  obtain ⟨b, off, e, hA, hb, he⟩ := hr.2.2.2.2 hn
  refine ⟨b, off, e, hA, hb, fun i h => ?_⟩
  obtain ⟨xs, ⟨rfl, h1, h2, h3⟩, h4⟩ := he i l[i] (List.getElem?_eq_getElem h)
  exact ⟨h1, h2, h3, h4 0 _ rfl, h4 1 _ rfl, h4 2 _ rfl⟩

theorem bcell {W w1 : World} (hb : Below W.heap.size W w1) : (∀ b o, b < W.heap.size → w1.cell? ⟨b, o, none⟩ = W.cell? ⟨b, o, none⟩) ∧ (∀ b o, b < W.heap.size → w1.frozen? ⟨b, o, none⟩ = W.frozen? ⟨b, o, none⟩) :=
  ⟨fun b o h => hb.cell (p := ⟨b, o, none⟩) h, fun b o h => hb.frozen (p := ⟨b, o, none⟩) h⟩

theorem below_drewN {B : Nat} {a w : World} (h : Below B a w) (n : Nat) : Below B a (w.drewN n) := ⟨h.os, h.tape, h.output, h.size, h.block⟩
theorem ret_int {k : IntKind} {a b : Int} (h : a = b) : Ending.returned (.int k a) = .returned (.int k b) := by rw [h]

/-- what is said of a value and a world at the end of a call, closed to the walk -/
def Post (P : Ending → World → Prop) (e : Ending) (w : World) : Prop := P e w
end Go.Proofs.YtkhacogeffidoaaDoor

set_option linter.unusedVariables false
set_option linter.unusedSimpArgs false
namespace Go.Proofs.YtkhacogeffidoaaDoor
open Go.RowKit
/-- the tables of package unicode/utf8 lie in the world -/
structure Good (w : World) : Prop where
  size : 2 ≤ w.heap.size
  tabs : Lib.Utf8Tabs 0 1 w
theorem Good.keep {w w' : World} (h : Good w) (hs : w.heap.size ≤ w'.heap.size) (hk : ∀ b, b < 2 → w'.heap[b]? = w.heap[b]?) : Good w' := by
  have h2 := h.size
  refine ⟨by omega, fun c hc => (cell_keep (hk _ (by decide))).trans (h.tabs.1 c hc), fun i hi => ⟨(cell_keep (hk _ (by decide))).trans (h.tabs.2 i hi).1, (cell_keep (hk _ (by decide))).trans (h.tabs.2 i hi).2⟩⟩
theorem Good.below {w w' : World} {B : Nat} (h : Good w) (hb : Below B w w') (hB : 2 ≤ B) : Good w' := h.keep hb.size fun b hb2 => hb.block b (by omega)
theorem Good.below' {w w' : World} (h : Good w) (hb : Below w.heap.size w w') : Good w' := h.below hb h.size
end Go.Proofs.YtkhacogeffidoaaDoor

set_option linter.unusedVariables false
set_option linter.unusedSimpArgs false
namespace Go.Proofs.YtkhacogeffidoaaDoor
open Go.RowKit

def valid (s : Str) : Bool := Lib.validD s.data.toList
def rc (s : Str) : Int := Lib.runeCount s
def checkText (s : Str) : Int := if valid s = false then 4 else if 4000 < rc s then 1 else 0

theorem valid_any (s : Str) (w : World) (hg : Good w) (hs : s.size ≤ strMax) :
    Calls Tryd.prog 74 #[.string s] w fun e w' => e = .returned (.bool (valid s)) ∧ Below w.heap.size w w' :=
  Tryd.utf8_ValidString s w (by unfold strMax at hs; omega) hg.tabs
theorem rc_any (s : Str) (w : World) (hs : s.size ≤ strMax) :
    Calls Tryd.prog 57 #[.string s] w fun e w' => e = .returned (.int .i64 (rc s)) ∧ Below w.heap.size w w' := by
  refine (Tryd.utf8_RuneCountInString s w (by unfold strMax at hs; omega)).mono ?_
  rintro e w' ⟨rfl, pos, rfl⟩
  exact ⟨rfl, by unfold World.iter; (repeat (first | exact Below.refl _ _ | assumption | (refine Below.drew ?_) | (refine below_drewN ?_ _) | (refine Below.alloc ?_ (by first | (simp; done) | (simp; omega) | omega) _) | (refine Below.setCell ?_ (by first | (simp; done) | (simp; omega) | omega) _) | (refine Below.trans ?_ (Below.mono (by assumption) (by first | (simp; done) | (simp; omega) | omega)))))⟩
theorem rc_nonneg (s : Str) : 0 ≤ rc s := by unfold rc; omega
theorem rc_le (s : Str) : rc s ≤ s.size := by unfold rc; have := Lib.runeCount_le s; omega

set_option maxHeartbeats 400000 in
theorem length_any (s : Str) (w : World) (hg : Good w) (hs : s.size ≤ strMax) :
    Calls Tryd.prog 75 #[.string s] w fun e w' => e = .returned (.tuple #[.int .i64 (rc s), .bool (valid s && decide (rc s ≤ 4000))]) ∧ Below w.heap.size w w' := by
  have hv := fun W hW => valid_any s W hW hs
  have hrn := rc_nonneg s
  have hrl := rc_le s
  have hr := fun W => rc_any s W hs
  unfold strMax at hs
  have Hv := Lib.hid hv
  have Hr := Lib.hid hr
  clear hv hr
  generalize valid s = v at *
  generalize rc s = r at *
  cases v
  all_goals
    go_enter Tryd.func75, Tryd.ntmps75
    go_wp2_with fail
    refine (Hr.out _).mono ?_
    rintro e w1 ⟨rfl, hb1⟩
    go_wp2_with fail
    refine (Hv.out _ (hg.below' hb1)).mono ?_
    rintro e w2 ⟨rfl, hb2⟩
    go_wp2_with fail
    go_ret2
    exact ⟨by simp, hb1.trans (hb2.mono hb1.size)⟩

set_option maxHeartbeats 400000 in
theorem checkText_any (s : Str) (w : World) (hg : Good w) (hs : s.size ≤ strMax) :
    Calls Tryd.prog 58 #[.string s] w fun e w' => e = .returned (.int .i64 (checkText s)) ∧ Below w.heap.size w w' := by
  have hv := fun W hW => valid_any s W hW hs
  have hr := fun W hW => length_any s W hW hs
  have Hv := Lib.hid hv
  have Hr := Lib.hid hr
  clear hv hr
  unfold checkText
  generalize valid s = v at *
  generalize rc s = r at *
  cases v
  · go_enter Tryd.func58, Tryd.ntmps58
    go_wp2_with fail
    refine (Hv.out _ hg).mono ?_
    rintro e w1 ⟨rfl, hb1⟩
    go_wp2_with fail
    go_ret
    exact ⟨by simp, hb1⟩
  · by_cases h : 4000 < r
    · have hd : decide (r ≤ 4000) = false := by simp; omega
      rw [hd] at Hr
      go_enter Tryd.func58, Tryd.ntmps58
      go_wp2_with fail
      refine (Hv.out _ hg).mono ?_
      rintro e w1 ⟨rfl, hb1⟩
      go_wp2_with fail
      refine (Hr.out _ (hg.below' hb1)).mono ?_
      rintro e w2 ⟨rfl, hb2⟩
      go_wp2_with fail
      go_ret
      exact ⟨rfl, hb1.trans (hb2.mono hb1.size)⟩
    · have hd : decide (r ≤ 4000) = true := by simp; omega
      rw [hd] at Hr
      go_enter Tryd.func58, Tryd.ntmps58
      go_wp2_with fail
      refine (Hv.out _ hg).mono ?_
      rintro e w1 ⟨rfl, hb1⟩
      go_wp2_with fail
      refine (Hr.out _ (hg.below' hb1)).mono ?_
      rintro e w2 ⟨rfl, hb2⟩
      go_wp2_with fail
      go_ret
      exact ⟨rfl, hb1.trans (hb2.mono hb1.size)⟩
end Go.Proofs.YtkhacogeffidoaaDoor

set_option linter.unusedVariables false
set_option linter.unusedSimpArgs false
namespace Go.Proofs.YtkhacogeffidoaaDoor
open Go.RowKit

def partOk (p : Part) : Int :=
  if p.kind = 1 ∨ p.kind = 3 then (if p.n < 1 ∨ 4000 < p.n then 2 else if emptyS p.text = false then 4 else 0)
  else if p.kind = 2 then (if checkText p.text ≠ 0 then checkText p.text else if emptyS p.text = true ∨ p.n ≠ 0 then 4 else 0)
  else 3

set_option maxHeartbeats 400000 in
theorem part_any (p : Part) (w : World) (hg : Good w) (h1 : I64 p.kind) (h2 : I64 p.n) (h3 : p.text.size ≤ strMax) :
    Calls Tryd.prog 65 #[.agg #[.int .i64 p.kind, .int .i64 p.n, .string p.text]] w fun e w' => e = .returned (.int .i64 (partOk p)) ∧ Below w.heap.size w w' := by
  obtain ⟨k, n, t⟩ := p
  unfold I64 at h1 h2
  simp only at h1 h2 h3 ⊢
  go_enter Tryd.func65, Tryd.ntmps65
  go_wp2_with (go_at_call 58; refine (checkText_any t _ (hg.below' ?hb) h3).mono ?_; (case hb => (repeat (first | exact Below.refl _ _ | assumption | (refine Below.drew ?_) | (refine below_drewN ?_ _) | (refine Below.alloc ?_ (by first | (simp; done) | (simp; omega) | omega) _) | (refine Below.setCell ?_ (by first | (simp; done) | (simp; omega) | omega) _) | (refine Below.trans ?_ (Below.mono (by assumption) (by first | (simp; done) | (simp; omega) | omega)))))); rintro e w1 ⟨rfl, hb1⟩; obtain ⟨hc1, hf1⟩ := bcell hb1)
  all_goals go_ret
  all_goals refine ⟨ret_int ?_, ?_⟩
  all_goals first
    | (repeat (first | exact Below.refl _ _ | assumption | (refine Below.drew ?_) | (refine below_drewN ?_ _) | (refine Below.alloc ?_ (by first | (simp; done) | (simp; omega) | omega) _) | (refine Below.setCell ?_ (by first | (simp; done) | (simp; omega) | omega) _) | (refine Below.trans ?_ (Below.mono (by assumption) (by first | (simp; done) | (simp; omega) | omega))))); done
    | (simp_all [partOk, emptyS]; done)
    | (simp_all [partOk, emptyS]; omega)

def lenF (p : Part) : Int := if p.kind = 1 ∨ p.kind = 3 then p.n else 0
def lenT (p : Part) : Int := if p.kind = 1 then p.n else if p.kind = 2 then rc p.text else 0
def sumF (l : Op) : Int := (l.map lenF).sum
def sumT (l : Op) : Int := (l.map lenT).sum
theorem take_next {α : Type} (l : List α) (k : Nat) (h : k < l.length) : l.take (k + 1) = l.take k ++ [l[k]] := by
  rw [List.take_succ_eq_append_getElem h]
theorem sumF_next (l : Op) (k : Nat) (h : k < l.length) : sumF (l.take (k + 1)) = sumF (l.take k) + lenF l[k] := by
  unfold sumF; rw [take_next l k h, List.map_append, List.sum_append]; simp
theorem sumT_next (l : Op) (k : Nat) (h : k < l.length) : sumT (l.take (k + 1)) = sumT (l.take k) + lenT l[k] := by
  unfold sumT; rw [take_next l k h, List.map_append, List.sum_append]; simp
/-- parts whose lengths add up -/
def Small (l : Op) : Prop := l.length ≤ 2147483648 ∧ ∀ p ∈ l, 0 ≤ lenF p ∧ lenF p ≤ 2147483648 ∧ 0 ≤ lenT p ∧ lenT p ≤ 2147483648
theorem Small.bound {l : Op} (h : Small l) : ∀ k, k ≤ l.length → 0 ≤ sumF (l.take k) ∧ sumF (l.take k) ≤ k * 2147483648 ∧ 0 ≤ sumT (l.take k) ∧ sumT (l.take k) ≤ k * 2147483648 := by
  intro k
  induction k with
  | zero => intro _; simp [sumF, sumT]
  | succ k ih =>
    intro hk
    have h1 := ih (by omega)
    have h2 := h.2 l[k] (List.getElem_mem (by omega))
    rw [sumF_next l k (by omega), sumT_next l k (by omega)]
    refine ⟨by omega, by push_cast; omega, by omega, by push_cast; omega⟩

set_option maxHeartbeats 1000000 in
theorem lengths_any (A : Nat → Prop) (l : Op) (a : Option Addr) (n c : Nat) (w : World) (hr : RdS A w l a n c) (hs : Small l) :
    Calls Tryd.prog 36 #[.slice a n c] w fun e w' => e = .returned (.tuple #[.int .i64 (sumF l), .int .i64 (sumT l)]) ∧ Below w.heap.size w w' := by
  have hnl : n = l.length := hr.1
  have hn2 : n ≤ 2147483648 := by have := hs.1; omega
  have Hp : Hid (0 < n → ∃ b off, a = some ⟨b, off, none⟩ ∧ A b ∧ b < w.heap.size ∧ ∀ i (h : i < l.length), I64 l[i].kind ∧ I64 l[i].n ∧ l[i].text.size ≤ strMax ∧
      w.cell? ⟨b, off + i * 3, none⟩ = some (.int .i64 l[i].kind) ∧ w.cell? ⟨b, off + i * 3 + 1, none⟩ = some (.int .i64 l[i].n) ∧ w.cell? ⟨b, off + i * 3 + 2, none⟩ = some (.string l[i].text)) := fun h => hr.part h
  clear hr
  have Hl := Lib.hid hnl
  clear hnl
  go_enter Tryd.func36, Tryd.ntmps36
  go_wp2_with fail
  go_loopw [2, 3, 8] (fun f t i wr => ∃ k : Nat, k ≤ n ∧ i = .int .i64 k ∧ f = .int .i64 (sumF (l.take k)) ∧ t = .int .i64 (sumT (l.take k)) ∧ Below w.heap.size w wr) (fun _ _ i _ => n - (intOf i).toNat)
  case atStart => exact ⟨0, by omega, rfl, rfl, rfl, Below.refl _ _⟩
  case round =>
    obtain ⟨k, hk, rfl, rfl, rfl, hb⟩ := hrel
    by_cases hlt : k < n
    · obtain ⟨b, off, rfl, _, hbs, hcs⟩ := Hp.out (by omega)
      have hkl : k < l.length := by have := Hl.out; omega
      obtain ⟨_, hn64, ht, c0, c1, c2⟩ := hcs k hkl
      clear hcs
      have hbd := hs.bound k (by omega)
      have hbd' := hs.2 l[k] (List.getElem_mem hkl)
      have HF := Lib.hid (sumF_next l k hkl)
      have HT := Lib.hid (sumT_next l k hkl)
      have hz := hb.size
      unfold I64 at hn64
      obtain ⟨hcb, hfb⟩ := bcell hb
      generalize l[k] = p at *
      obtain ⟨pk, pn, pt⟩ := p
      simp only at *
      rcases Int.decEq pk 1 with h1 | rfl
      · rcases Int.decEq pk 2 with h2 | rfl
        · rcases Int.decEq pk 3 with h3 | rfl
          · have g1 : (pk == 1) = false := by simp [h1]
            have g2 : (pk == 2) = false := by simp [h2]
            have g3 : (pk == 3) = false := by simp [h3]
            have e1 : lenF ⟨pk, pn, pt⟩ = 0 := by simp [lenF, h1, h3]
            have e2 : lenT ⟨pk, pn, pt⟩ = 0 := by simp [lenT, h1, h2]
            rw [e1] at HF; rw [e2] at HT
            clear e1 e2 h1 h2 h3 hbd'
            go_wp2_with fail
            go_roundw
            case rel => exact ⟨k + 1, by omega, by go_num, by rw [HF.out]; go_num, by rw [HT.out]; go_num, by (repeat (first | exact Below.refl _ _ | assumption | (refine Below.drew ?_) | (refine below_drewN ?_ _) | (refine Below.alloc ?_ (by first | (simp; done) | (simp; omega) | omega) _) | (refine Below.setCell ?_ (by first | (simp; done) | (simp; omega) | omega) _) | (refine Below.trans ?_ (Below.mono (by assumption) (by first | (simp; done) | (simp; omega) | omega)))))⟩
            case measure => simp [intOf]; omega
          · have e1 : lenF ⟨3, pn, pt⟩ = pn := by simp [lenF]
            have e2 : lenT ⟨3, pn, pt⟩ = 0 := by simp [lenT]
            rw [e1] at HF hbd'; rw [e2] at HT hbd'
            clear e1 e2 h1 h2
            go_wp2_with fail
            go_roundw
            case rel => exact ⟨k + 1, by omega, by go_num, by rw [HF.out], by rw [HT.out]; go_num, by (repeat (first | exact Below.refl _ _ | assumption | (refine Below.drew ?_) | (refine below_drewN ?_ _) | (refine Below.alloc ?_ (by first | (simp; done) | (simp; omega) | omega) _) | (refine Below.setCell ?_ (by first | (simp; done) | (simp; omega) | omega) _) | (refine Below.trans ?_ (Below.mono (by assumption) (by first | (simp; done) | (simp; omega) | omega)))))⟩
            case measure => simp [intOf]; omega
        · have e1 : lenF ⟨2, pn, pt⟩ = 0 := by simp [lenF]
          have e2 : lenT ⟨2, pn, pt⟩ = rc pt := by simp [lenT]
          rw [e1] at HF hbd'; rw [e2] at HT hbd'
          clear e1 e2 h1
          go_wp2_with (go_at_call 57; refine (rc_any pt _ ht).mono ?_; rintro e w1 ⟨rfl, hb1⟩; obtain ⟨hc1, hf1⟩ := bcell hb1)
          go_roundw
          case rel => exact ⟨k + 1, by omega, by go_num, by rw [HF.out]; go_num, by rw [HT.out], by (repeat (first | exact Below.refl _ _ | assumption | (refine Below.drew ?_) | (refine below_drewN ?_ _) | (refine Below.alloc ?_ (by first | (simp; done) | (simp; omega) | omega) _) | (refine Below.setCell ?_ (by first | (simp; done) | (simp; omega) | omega) _) | (refine Below.trans ?_ (Below.mono (by assumption) (by first | (simp; done) | (simp; omega) | omega)))))⟩
          case measure => simp [intOf]; omega
      · have e1 : lenF ⟨1, pn, pt⟩ = pn := by simp [lenF]
        have e2 : lenT ⟨1, pn, pt⟩ = pn := by simp [lenT]
        rw [e1] at HF hbd'; rw [e2] at HT hbd'
        clear e1 e2
        go_wp2_with fail
        go_quiet (fail)
        go_wp2_with fail
        go_roundw
        case rel => exact ⟨k + 1, by omega, by go_num, by rw [HF.out], by rw [HT.out], by (repeat (first | exact Below.refl _ _ | assumption | (refine Below.drew ?_) | (refine below_drewN ?_ _) | (refine Below.alloc ?_ (by first | (simp; done) | (simp; omega) | omega) _) | (refine Below.setCell ?_ (by first | (simp; done) | (simp; omega) | omega) _) | (refine Below.trans ?_ (Below.mono (by assumption) (by first | (simp; done) | (simp; omega) | omega)))))⟩
        case measure => simp [intOf]; omega
    · have hkn : k = l.length := by have := Hl.out; omega
      subst hkn
      clear Hp hs
      go_wp2_with fail
      go_ret2
      exact ⟨by simp, hb⟩
end Go.Proofs.YtkhacogeffidoaaDoor
