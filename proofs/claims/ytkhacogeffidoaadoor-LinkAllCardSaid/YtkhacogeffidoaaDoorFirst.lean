/- The first texts of this claim, one behind the other. -/
import Derived.WalkKit
import Derived.WalkSpells
import Derived.WalkLawsBesides
import Derived.Deep.Draws
import Derived.Shelf.Unicode.DecodeSlow
import Derived.Test.YtkhacogeffidoaaDoorRows
import Derived.Test.YtkhacogeffidoaaDoorShelf
import Derived.Lib.RuneCount
import Derived.Lib.ValidLaws
import Derived.BigQuiet
import Derived.Deep.QuietTactic
import Derived.Lib.Hide
import Derived.OwnWalk
import Derived.WalkSmall
import Derived.Lib.MapLaws
import Derived.Lib.TrimUEq
import GoSem.Conv.StringToRunes
import Derived.Deep.RegionHeld3
import Derived.Deep.AppendLies
import Derived.Deep.RegionLaw
import Derived.BigRegion
import Derived.Deep.DeepFit
import Derived.Lib.Builder
import Derived.Lib.AppendStr
import Derived.Lib.UnsafeStr
import Derived.Laws.Externs
import Derived.Deep.RegionWith
set_option linter.unusedVariables false
set_option linter.unusedSimpArgs false
namespace Go.Proofs.YtkhacogeffidoaaDoor
open Go.RowKit

abbrev Str := ByteArray
structure Part where
  kind : Int
  n : Int
  text : Str
abbrev Op := List Part
def emptyS (s : Str) : Bool := s.toList.isEmpty

/-- no string is longer -/
def strMax : Nat := 140737488355328
theorem strMax_lt : strMax < maxLen := by unfold strMax maxLen; omega
/-- a number that an int holds -/
def I64 (x : Int) : Prop := -9223372036854775808 ≤ x ∧ x ≤ 9223372036854775807

/-- Data of type α lie in 'n' cells; 'rd A w x cs': the cells cs read as x in the world w; all memory that is reached lies in blocks that A allows. -/
class Rep (α : Type) where
  n : Nat
  rd : (Nat → Prop) → World → α → List Value → Prop
  len : ∀ {A w x cs}, rd A w x cs → cs.length = n
  mono : ∀ {A A' : Nat → Prop} {w w' : World} {x cs}, (∀ b, A b → A' b ∧ w'.heap[b]? = w.heap[b]?) → rd A w x cs → rd A' w' x cs
  one : ∀ {A w x cs}, rd A w x cs → ∀ v ∈ cs, v.oneCell' = true
  pos : 0 < n

instance : Rep Int where
  n := 1
  rd := fun _ _ x cs => cs = [.int .i64 x] ∧ I64 x
  len := fun h => by rw [h.1]; rfl
  mono := fun _ h => h
  one := fun h => by rw [h.1]; simp [Value.oneCell']
  pos := by decide
instance : Rep Bool where
  n := 1
  rd := fun _ _ x cs => cs = [.bool x]
  len := fun h => by rw [h]; rfl
  mono := fun _ h => h
  one := fun h => by rw [h]; simp [Value.oneCell']
  pos := by decide
instance : Rep Str where
  n := 1
  rd := fun _ _ x cs => cs = [.string x] ∧ x.size ≤ strMax
  len := fun h => by rw [h.1]; rfl
  mono := fun _ h => h
  one := fun h => by rw [h.1]; simp [Value.oneCell']
  pos := by decide
instance : Rep Part where
  n := 3
  rd := fun _ _ x cs => cs = [.int .i64 x.kind, .int .i64 x.n, .string x.text] ∧ I64 x.kind ∧ I64 x.n ∧ x.text.size ≤ strMax
  len := fun h => by rw [h.1]; rfl
  mono := fun _ h => h
  one := fun h => by rw [h.1]; simp [Value.oneCell']
  pos := by decide

/-- the elements of a slice at block b, from cell off on -/
def Elems {α : Type} [Rep α] (A : Nat → Prop) (w : World) (b off : Nat) (l : List α) : Prop :=
  ∀ i x, l[i]? = some x → ∃ xs, Rep.rd A w x xs ∧ ∀ j v, xs[j]? = some v → w.cell? ⟨b, off + i * Rep.n α + j, none⟩ = some v

/-- a slice value that reads as a list -/
def RdS {α : Type} [Rep α] (A : Nat → Prop) (w : World) (l : List α) (a : Option Addr) (n c : Nat) : Prop :=
  n = l.length ∧ n ≤ c ∧ c ≤ maxLen ∧ (a = none → c = 0) ∧
  (0 < n → ∃ b off, a = some ⟨b, off, none⟩ ∧ A b ∧ b < w.heap.size ∧ Elems A w b off l)

theorem cell_keep {w w' : World} {b o : Nat} (h : w'.heap[b]? = w.heap[b]?) : w'.cell? ⟨b, o, none⟩ = w.cell? ⟨b, o, none⟩ :=
  World.cell?_of_block (a := ⟨b, o, none⟩) h

theorem Elems.mono {α : Type} [Rep α] {A A' : Nat → Prop} {w w' : World} {b off : Nat} {l : List α} (hb : A b) (h : ∀ b, A b → A' b ∧ w'.heap[b]? = w.heap[b]?)
    (he : Elems A w b off l) : Elems A' w' b off l := by
  intro i x hx
  obtain ⟨xs, h1, h2⟩ := he i x hx
  exact ⟨xs, Rep.mono h h1, fun j v hv => (cell_keep (h b hb).2).trans (h2 j v hv)⟩

theorem RdS.mono {α : Type} [Rep α] {A A' : Nat → Prop} {w w' : World} {l : List α} {a : Option Addr} {n c : Nat} (h : ∀ b, A b → A' b ∧ w'.heap[b]? = w.heap[b]?)
    (hr : RdS A w l a n c) : RdS A' w' l a n c := by
  obtain ⟨h1, h2, h3, h4, h6⟩ := hr
  refine ⟨h1, h2, h3, h4, fun hn => ?_⟩
  obtain ⟨b, off, e, hA, hb, he⟩ := h6 hn
  refine ⟨b, off, e, (h b hA).1, ?_, he.mono hA h⟩
  rcases Nat.lt_or_ge b w'.heap.size with hlt | hge
  · exact hlt
  · exfalso
    have h7 := (h b hA).2
    rw [Array.getElem?_eq_none hge, Array.getElem?_eq_getElem hb] at h7
    cases h7

instance {α : Type} [Rep α] : Rep (List α) where
  n := 1
  rd := fun A w l cs => ∃ a n c, cs = [.slice a n c] ∧ RdS A w l a n c
  len := fun ⟨_, _, _, h, _⟩ => by rw [h]; rfl
  mono := fun h ⟨a, n, c, e, hr⟩ => ⟨a, n, c, e, hr.mono h⟩
  one := fun ⟨_, _, _, h, _⟩ => by rw [h]; simp [Value.oneCell']
  pos := by decide

theorem RdS.below {α : Type} [Rep α] {A : Nat → Prop} {w w' : World} {l : List α} {a : Option Addr} {n c : Nat} (hr : RdS A w l a n c) (hA : ∀ b, A b → b < w.heap.size) (hb : Below w.heap.size w w') :
    RdS A w' l a n c := hr.mono fun b h => ⟨h, hb.block b (hA b h)⟩

/-- a row of the call's own that reads as a list: what each element is, is said of the row's cells -/
theorem RdS.of_row {α : Type} [Rep α] {A : Nat → Prop} {w : World} {base : Nat} {e : TypeId} {l : List α} {v : Value} {xs : List Value} (hown : w.ownsRow base e (Rep.n α) v l.length xs) (hA : ∀ b, v.ownBlock = some b → A b)
    (hx : ∀ i x, l[i]? = some x → ∃ ys, Rep.rd A w x ys ∧ ∀ j u, ys[j]? = some u → xs[i * Rep.n α + j]? = some u) :
    ∃ a n c, v = .slice a n c ∧ RdS A w l a n c := by
  rcases hown.2 with ⟨hv, h0⟩ | ⟨g, cap, cur, hv, hg, hh, hnc, hcm, _, _⟩
  · refine ⟨none, 0, 0, hv, ?_⟩
    have hl : l = [] := List.eq_nil_of_length_eq_zero h0
    subst hl
    exact ⟨rfl, by omega, by unfold maxLen; omega, fun _ => rfl, fun h => absurd h (by omega)⟩
  · refine ⟨some ⟨g, 0, none⟩, l.length, cap, hv, rfl, hnc, hcm, (fun h => by cases h), fun _ => ?_⟩
    have hlt : g < w.heap.size := (Array.getElem?_eq_some_iff.1 hh).1
    refine ⟨g, 0, rfl, hA g (by rw [hv]; rfl), hlt, fun i x hi => ?_⟩
    obtain ⟨ys, hr, hy⟩ := hx i x hi
    refine ⟨ys, hr, fun j u hu => ?_⟩
    have hc := hown.cells (g := g) (by rw [hv]; rfl) _ u (hy j u hu)
    have e : (⟨g, 0, none⟩ : Addr).add (i * Rep.n α + j) = ⟨g, i * Rep.n α + j, none⟩ := by
      unfold Addr.add
      split
      · rename_i h0; rw [h0]
      · simp
    rw [e] at hc
    simpa using hc

/-- one element of a slice of parts -/
theorem RdS.part {A : Nat → Prop} {w : World} {l : List Part} {a : Option Addr} {n c : Nat} (hr : RdS A w l a n c) (hn : 0 < n) :
    ∃ b off, a = some ⟨b, off, none⟩ ∧ A b ∧ b < w.heap.size ∧ ∀ i (h : i < l.length), I64 l[i].kind ∧ I64 l[i].n ∧ l[i].text.size ≤ strMax ∧
      w.cell? ⟨b, off + i * 3, none⟩ = some (.int .i64 l[i].kind) ∧ w.cell? ⟨b, off + i * 3 + 1, none⟩ = some (.int .i64 l[i].n) ∧ w.cell? ⟨b, off + i * 3 + 2, none⟩ = some (.string l[i].text) := by
  obtain ⟨b, off, e, hA, hb, he⟩ := hr.2.2.2.2 hn
  refine ⟨b, off, e, hA, hb, fun i h => ?_⟩
  obtain ⟨xs, ⟨rfl, h1, h2, h3⟩, h4⟩ := he i l[i] (List.getElem?_eq_getElem h)
  exact ⟨h1, h2, h3, h4 0 _ rfl, h4 1 _ rfl, h4 2 _ rfl⟩

theorem bcell {W w1 : World} (hb : Below W.heap.size W w1) : (∀ b o, b < W.heap.size → w1.cell? ⟨b, o, none⟩ = W.cell? ⟨b, o, none⟩) ∧ (∀ b o, b < W.heap.size → w1.frozen? ⟨b, o, none⟩ = W.frozen? ⟨b, o, none⟩) :=
  ⟨fun b o h => hb.cell (p := ⟨b, o, none⟩) h, fun b o h => hb.frozen (p := ⟨b, o, none⟩) h⟩

theorem below_drewN {B : Nat} {a w : World} (h : Below B a w) (n : Nat) : Below B a (w.drewN n) := ⟨h.os, h.tape, h.output, h.size, h.block⟩
theorem ret_int {k : IntKind} {a b : Int} (h : a = b) : Ending.returned (.int k a) = .returned (.int k b) := by rw [h]

/-- what is said of a value and a world at the end of a call, closed to the walk -/
def Post (P : Ending → World → Prop) (e : Ending) (w : World) : Prop := P e w
end Go.Proofs.YtkhacogeffidoaaDoor

set_option linter.unusedVariables false
set_option linter.unusedSimpArgs false
namespace Go.Proofs.YtkhacogeffidoaaDoor
open Go.RowKit
/-- the tables of package unicode/utf8 lie in the world -/
structure Good (w : World) : Prop where
  size : 2 ≤ w.heap.size
  tabs : Lib.Utf8Tabs 0 1 w
theorem Good.keep {w w' : World} (h : Good w) (hs : w.heap.size ≤ w'.heap.size) (hk : ∀ b, b < 2 → w'.heap[b]? = w.heap[b]?) : Good w' := by
  have h2 := h.size
  refine ⟨by omega, fun c hc => (cell_keep (hk _ (by decide))).trans (h.tabs.1 c hc), fun i hi => ⟨(cell_keep (hk _ (by decide))).trans (h.tabs.2 i hi).1, (cell_keep (hk _ (by decide))).trans (h.tabs.2 i hi).2⟩⟩
theorem Good.below {w w' : World} {B : Nat} (h : Good w) (hb : Below B w w') (hB : 2 ≤ B) : Good w' := h.keep hb.size fun b hb2 => hb.block b (by omega)
theorem Good.below' {w w' : World} (h : Good w) (hb : Below w.heap.size w w') : Good w' := h.below hb h.size
end Go.Proofs.YtkhacogeffidoaaDoor

set_option linter.unusedVariables false
set_option linter.unusedSimpArgs false
namespace Go.Proofs.YtkhacogeffidoaaDoor
open Go.RowKit

def valid (s : Str) : Bool := Lib.validD s.data.toList
def rc (s : Str) : Int := Lib.runeCount s
def checkText (s : Str) : Int := if valid s = false then 4 else if 4000 < rc s then 1 else 0

theorem valid_any (s : Str) (w : World) (hg : Good w) (hs : s.size ≤ strMax) :
    Calls Tryd.prog 74 #[.string s] w fun e w' => e = .returned (.bool (valid s)) ∧ Below w.heap.size w w' :=
  Tryd.utf8_ValidString s w (by unfold strMax at hs; omega) hg.tabs
theorem rc_any (s : Str) (w : World) (hs : s.size ≤ strMax) :
    Calls Tryd.prog 57 #[.string s] w fun e w' => e = .returned (.int .i64 (rc s)) ∧ Below w.heap.size w w' := by
  refine (Tryd.utf8_RuneCountInString s w (by unfold strMax at hs; omega)).mono ?_
  rintro e w' ⟨rfl, pos, rfl⟩
  exact ⟨rfl, by unfold World.iter; (repeat (first | exact Below.refl _ _ | assumption | (refine Below.drew ?_) | (refine below_drewN ?_ _) | (refine Below.alloc ?_ (by first | (simp; done) | (simp; omega) | omega) _) | (refine Below.setCell ?_ (by first | (simp; done) | (simp; omega) | omega) _) | (refine Below.trans ?_ (Below.mono (by assumption) (by first | (simp; done) | (simp; omega) | omega)))))⟩
theorem rc_nonneg (s : Str) : 0 ≤ rc s := by unfold rc; omega
theorem rc_le (s : Str) : rc s ≤ s.size := by unfold rc; have := Lib.runeCount_le s; omega

set_option maxHeartbeats 400000 in
theorem length_any (s : Str) (w : World) (hg : Good w) (hs : s.size ≤ strMax) :
    Calls Tryd.prog 75 #[.string s] w fun e w' => e = .returned (.tuple #[.int .i64 (rc s), .bool (valid s && decide (rc s ≤ 4000))]) ∧ Below w.heap.size w w' := by
  have hv := fun W hW => valid_any s W hW hs
  have hrn := rc_nonneg s
  have hrl := rc_le s
  have hr := fun W => rc_any s W hs
  unfold strMax at hs
  have Hv := Lib.hid hv
  have Hr := Lib.hid hr
  clear hv hr
  generalize valid s = v at *
  generalize rc s = r at *
  cases v
  all_goals
    go_enter Tryd.func75, Tryd.ntmps75
    go_wp2_with fail
    refine (Hr.out _).mono ?_
    rintro e w1 ⟨rfl, hb1⟩
    go_wp2_with fail
    refine (Hv.out _ (hg.below' hb1)).mono ?_
    rintro e w2 ⟨rfl, hb2⟩
    go_wp2_with fail
    go_ret2
    exact ⟨by simp, hb1.trans (hb2.mono hb1.size)⟩

set_option maxHeartbeats 400000 in
theorem checkText_any (s : Str) (w : World) (hg : Good w) (hs : s.size ≤ strMax) :
    Calls Tryd.prog 58 #[.string s] w fun e w' => e = .returned (.int .i64 (checkText s)) ∧ Below w.heap.size w w' := by
  have hv := fun W hW => valid_any s W hW hs
  have hr := fun W hW => length_any s W hW hs
  have Hv := Lib.hid hv
  have Hr := Lib.hid hr
  clear hv hr
  unfold checkText
  generalize valid s = v at *
  generalize rc s = r at *
  cases v
  · go_enter Tryd.func58, Tryd.ntmps58
    go_wp2_with fail
    refine (Hv.out _ hg).mono ?_
    rintro e w1 ⟨rfl, hb1⟩
    go_wp2_with fail
    go_ret
    exact ⟨by simp, hb1⟩
  · by_cases h : 4000 < r
    · have hd : decide (r ≤ 4000) = false := by simp; omega
      rw [hd] at Hr
      go_enter Tryd.func58, Tryd.ntmps58
      go_wp2_with fail
      refine (Hv.out _ hg).mono ?_
      rintro e w1 ⟨rfl, hb1⟩
      go_wp2_with fail
      refine (Hr.out _ (hg.below' hb1)).mono ?_
      rintro e w2 ⟨rfl, hb2⟩
      go_wp2_with fail
      go_ret
      exact ⟨rfl, hb1.trans (hb2.mono hb1.size)⟩
    · have hd : decide (r ≤ 4000) = true := by simp; omega
      rw [hd] at Hr
      go_enter Tryd.func58, Tryd.ntmps58
      go_wp2_with fail
      refine (Hv.out _ hg).mono ?_
      rintro e w1 ⟨rfl, hb1⟩
      go_wp2_with fail
      refine (Hr.out _ (hg.below' hb1)).mono ?_
      rintro e w2 ⟨rfl, hb2⟩
      go_wp2_with fail
      go_ret
      exact ⟨rfl, hb1.trans (hb2.mono hb1.size)⟩
end Go.Proofs.YtkhacogeffidoaaDoor

set_option linter.unusedVariables false
set_option linter.unusedSimpArgs false
namespace Go.Proofs.YtkhacogeffidoaaDoor
open Go.RowKit

def partOk (p : Part) : Int :=
  if p.kind = 1 ∨ p.kind = 3 then (if p.n < 1 ∨ 4000 < p.n then 2 else if emptyS p.text = false then 4 else 0)
  else if p.kind = 2 then (if checkText p.text ≠ 0 then checkText p.text else if emptyS p.text = true ∨ p.n ≠ 0 then 4 else 0)
  else 3

set_option maxHeartbeats 400000 in
theorem part_any (p : Part) (w : World) (hg : Good w) (h1 : I64 p.kind) (h2 : I64 p.n) (h3 : p.text.size ≤ strMax) :
    Calls Tryd.prog 65 #[.agg #[.int .i64 p.kind, .int .i64 p.n, .string p.text]] w fun e w' => e = .returned (.int .i64 (partOk p)) ∧ Below w.heap.size w w' := by
  obtain ⟨k, n, t⟩ := p
  unfold I64 at h1 h2
  simp only at h1 h2 h3 ⊢
  go_enter Tryd.func65, Tryd.ntmps65
  go_wp2_with (go_at_call 58; refine (checkText_any t _ (hg.below' ?hb) h3).mono ?_; (case hb => (repeat (first | exact Below.refl _ _ | assumption | (refine Below.drew ?_) | (refine below_drewN ?_ _) | (refine Below.alloc ?_ (by first | (simp; done) | (simp; omega) | omega) _) | (refine Below.setCell ?_ (by first | (simp; done) | (simp; omega) | omega) _) | (refine Below.trans ?_ (Below.mono (by assumption) (by first | (simp; done) | (simp; omega) | omega)))))); rintro e w1 ⟨rfl, hb1⟩; obtain ⟨hc1, hf1⟩ := bcell hb1)
  all_goals go_ret
  all_goals refine ⟨ret_int ?_, ?_⟩
  all_goals first
    | (repeat (first | exact Below.refl _ _ | assumption | (refine Below.drew ?_) | (refine below_drewN ?_ _) | (refine Below.alloc ?_ (by first | (simp; done) | (simp; omega) | omega) _) | (refine Below.setCell ?_ (by first | (simp; done) | (simp; omega) | omega) _) | (refine Below.trans ?_ (Below.mono (by assumption) (by first | (simp; done) | (simp; omega) | omega))))); done
    | (simp_all [partOk, emptyS]; done)
    | (simp_all [partOk, emptyS]; omega)

def lenF (p : Part) : Int := if p.kind = 1 ∨ p.kind = 3 then p.n else 0
def lenT (p : Part) : Int := if p.kind = 1 then p.n else if p.kind = 2 then rc p.text else 0
def sumF (l : Op) : Int := (l.map lenF).sum
def sumT (l : Op) : Int := (l.map lenT).sum
theorem take_next {α : Type} (l : List α) (k : Nat) (h : k < l.length) : l.take (k + 1) = l.take k ++ [l[k]] := by
  rw [List.take_succ_eq_append_getElem h]
theorem sumF_next (l : Op) (k : Nat) (h : k < l.length) : sumF (l.take (k + 1)) = sumF (l.take k) + lenF l[k] := by
  unfold sumF; rw [take_next l k h, List.map_append, List.sum_append]; simp
theorem sumT_next (l : Op) (k : Nat) (h : k < l.length) : sumT (l.take (k + 1)) = sumT (l.take k) + lenT l[k] := by
  unfold sumT; rw [take_next l k h, List.map_append, List.sum_append]; simp
/-- parts whose lengths add up -/
def Small (l : Op) : Prop := l.length ≤ 2147483648 ∧ ∀ p ∈ l, 0 ≤ lenF p ∧ lenF p ≤ 2147483648 ∧ 0 ≤ lenT p ∧ lenT p ≤ 2147483648
theorem Small.bound {l : Op} (h : Small l) : ∀ k, k ≤ l.length → 0 ≤ sumF (l.take k) ∧ sumF (l.take k) ≤ k * 2147483648 ∧ 0 ≤ sumT (l.take k) ∧ sumT (l.take k) ≤ k * 2147483648 := by
  intro k
  induction k with
  | zero => intro _; simp [sumF, sumT]
  | succ k ih =>
    intro hk
    have h1 := ih (by omega)
    have h2 := h.2 l[k] (List.getElem_mem (by omega))
    rw [sumF_next l k (by omega), sumT_next l k (by omega)]
    refine ⟨by omega, by push_cast; omega, by omega, by push_cast; omega⟩

set_option maxHeartbeats 1000000 in
theorem lengths_any (A : Nat → Prop) (l : Op) (a : Option Addr) (n c : Nat) (w : World) (hr : RdS A w l a n c) (hs : Small l) :
    Calls Tryd.prog 36 #[.slice a n c] w fun e w' => e = .returned (.tuple #[.int .i64 (sumF l), .int .i64 (sumT l)]) ∧ Below w.heap.size w w' := by
  have hnl : n = l.length := hr.1
  have hn2 : n ≤ 2147483648 := by have := hs.1; omega
  have Hp : Hid (0 < n → ∃ b off, a = some ⟨b, off, none⟩ ∧ A b ∧ b < w.heap.size ∧ ∀ i (h : i < l.length), I64 l[i].kind ∧ I64 l[i].n ∧ l[i].text.size ≤ strMax ∧
      w.cell? ⟨b, off + i * 3, none⟩ = some (.int .i64 l[i].kind) ∧ w.cell? ⟨b, off + i * 3 + 1, none⟩ = some (.int .i64 l[i].n) ∧ w.cell? ⟨b, off + i * 3 + 2, none⟩ = some (.string l[i].text)) := fun h => hr.part h
  clear hr
  have Hl := Lib.hid hnl
  clear hnl
  go_enter Tryd.func36, Tryd.ntmps36
  go_wp2_with fail
  go_loopw [2, 3, 8] (fun f t i wr => ∃ k : Nat, k ≤ n ∧ i = .int .i64 k ∧ f = .int .i64 (sumF (l.take k)) ∧ t = .int .i64 (sumT (l.take k)) ∧ Below w.heap.size w wr) (fun _ _ i _ => n - (intOf i).toNat)
  case atStart => exact ⟨0, by omega, rfl, rfl, rfl, Below.refl _ _⟩
  case round =>
    obtain ⟨k, hk, rfl, rfl, rfl, hb⟩ := hrel
    by_cases hlt : k < n
    · obtain ⟨b, off, rfl, _, hbs, hcs⟩ := Hp.out (by omega)
      have hkl : k < l.length := by have := Hl.out; omega
      obtain ⟨_, hn64, ht, c0, c1, c2⟩ := hcs k hkl
      clear hcs
      have hbd := hs.bound k (by omega)
      have hbd' := hs.2 l[k] (List.getElem_mem hkl)
      have HF := Lib.hid (sumF_next l k hkl)
      have HT := Lib.hid (sumT_next l k hkl)
      have hz := hb.size
      unfold I64 at hn64
      obtain ⟨hcb, hfb⟩ := bcell hb
      generalize l[k] = p at *
      obtain ⟨pk, pn, pt⟩ := p
      simp only at *
      rcases Int.decEq pk 1 with h1 | rfl
      · rcases Int.decEq pk 2 with h2 | rfl
        · rcases Int.decEq pk 3 with h3 | rfl
          · have g1 : (pk == 1) = false := by simp [h1]
            have g2 : (pk == 2) = false := by simp [h2]
            have g3 : (pk == 3) = false := by simp [h3]
            have e1 : lenF ⟨pk, pn, pt⟩ = 0 := by simp [lenF, h1, h3]
            have e2 : lenT ⟨pk, pn, pt⟩ = 0 := by simp [lenT, h1, h2]
            rw [e1] at HF; rw [e2] at HT
            clear e1 e2 h1 h2 h3 hbd'
            go_wp2_with fail
            go_roundw
            case rel => exact ⟨k + 1, by omega, by go_num, by rw [HF.out]; go_num, by rw [HT.out]; go_num, by (repeat (first | exact Below.refl _ _ | assumption | (refine Below.drew ?_) | (refine below_drewN ?_ _) | (refine Below.alloc ?_ (by first | (simp; done) | (simp; omega) | omega) _) | (refine Below.setCell ?_ (by first | (simp; done) | (simp; omega) | omega) _) | (refine Below.trans ?_ (Below.mono (by assumption) (by first | (simp; done) | (simp; omega) | omega)))))⟩
            case measure => simp [intOf]; omega
          · have e1 : lenF ⟨3, pn, pt⟩ = pn := by simp [lenF]
            have e2 : lenT ⟨3, pn, pt⟩ = 0 := by simp [lenT]
            rw [e1] at HF hbd'; rw [e2] at HT hbd'
            clear e1 e2 h1 h2
            go_wp2_with fail
            go_roundw
            case rel => exact ⟨k + 1, by omega, by go_num, by rw [HF.out], by rw [HT.out]; go_num, by (repeat (first | exact Below.refl _ _ | assumption | (refine Below.drew ?_) | (refine below_drewN ?_ _) | (refine Below.alloc ?_ (by first | (simp; done) | (simp; omega) | omega) _) | (refine Below.setCell ?_ (by first | (simp; done) | (simp; omega) | omega) _) | (refine Below.trans ?_ (Below.mono (by assumption) (by first | (simp; done) | (simp; omega) | omega)))))⟩
            case measure => simp [intOf]; omega
        · have e1 : lenF ⟨2, pn, pt⟩ = 0 := by simp [lenF]
          have e2 : lenT ⟨2, pn, pt⟩ = rc pt := by simp [lenT]
          rw [e1] at HF hbd'; rw [e2] at HT hbd'
          clear e1 e2 h1
          go_wp2_with (go_at_call 57; refine (rc_any pt _ ht).mono ?_; rintro e w1 ⟨rfl, hb1⟩; obtain ⟨hc1, hf1⟩ := bcell hb1)
          go_roundw
          case rel => exact ⟨k + 1, by omega, by go_num, by rw [HF.out]; go_num, by rw [HT.out], by (repeat (first | exact Below.refl _ _ | assumption | (refine Below.drew ?_) | (refine below_drewN ?_ _) | (refine Below.alloc ?_ (by first | (simp; done) | (simp; omega) | omega) _) | (refine Below.setCell ?_ (by first | (simp; done) | (simp; omega) | omega) _) | (refine Below.trans ?_ (Below.mono (by assumption) (by first | (simp; done) | (simp; omega) | omega)))))⟩
          case measure => simp [intOf]; omega
      · have e1 : lenF ⟨1, pn, pt⟩ = pn := by simp [lenF]
        have e2 : lenT ⟨1, pn, pt⟩ = pn := by simp [lenT]
        rw [e1] at HF hbd'; rw [e2] at HT hbd'
        clear e1 e2
        go_wp2_with fail
        go_quiet (fail)
        go_wp2_with fail
        go_roundw
        case rel => exact ⟨k + 1, by omega, by go_num, by rw [HF.out], by rw [HT.out], by (repeat (first | exact Below.refl _ _ | assumption | (refine Below.drew ?_) | (refine below_drewN ?_ _) | (refine Below.alloc ?_ (by first | (simp; done) | (simp; omega) | omega) _) | (refine Below.setCell ?_ (by first | (simp; done) | (simp; omega) | omega) _) | (refine Below.trans ?_ (Below.mono (by assumption) (by first | (simp; done) | (simp; omega) | omega)))))⟩
        case measure => simp [intOf]; omega
    · have hkn : k = l.length := by have := Hl.out; omega
      subst hkn
      clear Hp hs
      go_wp2_with fail
      go_ret2
      exact ⟨by simp, hb⟩
end Go.Proofs.YtkhacogeffidoaaDoor

set_option linter.unusedVariables false
set_option linter.unusedSimpArgs false
namespace Go.Proofs.YtkhacogeffidoaaDoor
open Go.RowKit

def clash (q r : Int) : Bool := decide (q = r ∨ q = 3 ∧ r = 2)
def checkFrom : Option Int → Op → Int
  | _, [] => 0
  | q, p :: r => if partOk p ≠ 0 then partOk p else if (match q with | some q => clash q p.kind | none => false) = true then 4 else checkFrom (some p.kind) r
def check (l : Op) : Int := if 8001 < l.length then 1 else if checkFrom none l ≠ 0 then checkFrom none l else if 4000 < sumF l ∨ 4000 < sumT l then 1 else 0

theorem partOk_small {p : Part} (h : partOk p = 0) : 0 ≤ lenF p ∧ lenF p ≤ 4000 ∧ 0 ≤ lenT p ∧ lenT p ≤ 4000 := by
  obtain ⟨k, n, t⟩ := p
  have hr0 : 0 ≤ rc t := by unfold rc; omega
  unfold partOk at h
  unfold lenF lenT
  simp only at h ⊢
  by_cases h1 : k = 1 ∨ k = 3
  · rw [if_pos h1] at h
    by_cases h2 : n < 1 ∨ 4000 < n
    · rw [if_pos h2] at h; omega
    · rcases h1 with h1 | h1 <;> simp [h1] <;> omega
  · rw [if_neg h1] at h
    by_cases h2 : k = 2
    · rw [if_pos h2] at h
      subst h2
      have h3 : checkText t = 0 := by
        by_cases h4 : checkText t = 0
        · exact h4
        · rw [if_pos h4] at h; exact h
      unfold checkText at h3
      have h5 : rc t ≤ 4000 := by
        by_cases h5 : valid t = false
        · rw [if_pos h5] at h3; omega
        · rw [if_neg h5] at h3
          by_cases h6 : 4000 < rc t
          · rw [if_pos h6] at h3; omega
          · omega
      simp
      omega
    · rw [if_neg h2] at h; omega
theorem checkFrom_drop (q : Option Int) (p : Part) (l : Op) (h1 : partOk p = 0) (h2 : (match q with | some q => clash q p.kind | none => false) = false) : checkFrom q (p :: l) = checkFrom (some p.kind) l := by
  cases q <;> simp only [checkFrom, h1, h2] <;> simp_all
theorem checkFrom_clash (q : Option Int) (p : Part) (l : Op) (h1 : partOk p = 0) (h2 : (match q with | some q => clash q p.kind | none => false) = true) : checkFrom q (p :: l) = 4 := by
  cases q <;> simp only [checkFrom, h1, h2] <;> simp_all
/-- the kind ahead of place k -/
def ahead (l : Op) : Nat → Option Int
  | 0 => none
  | k + 1 => (l[k]?).map (·.kind)

set_option maxHeartbeats 1000000 in
theorem check_any (A : Nat → Prop) (l : Op) (a : Option Addr) (n c : Nat) (w : World) (hg : Good w) (hA : ∀ b, A b → b < w.heap.size) (hr : RdS A w l a n c) :
    Calls Tryd.prog 52 #[.slice a n c] w fun e w' => e = .returned (.int .i64 (check l)) ∧ Below w.heap.size w w' := by
  have hnl : n = l.length := hr.1
  have hnm : n ≤ maxLen := by have h1 := hr.2.1; have h2 := hr.2.2.1; omega
  unfold maxLen at hnm
  have Hl := Lib.hid hnl
  by_cases h8 : 8001 < n
  · have hfin : check l = 1 := by unfold check; rw [if_pos (by omega)]
    rw [hfin]
    clear hfin hnl hr
    go_enter Tryd.func52, Tryd.ntmps52
    go_wp2_with fail
    go_ret
    exact ⟨rfl, Below.refl _ _⟩
  · have Hr := Lib.hid hr
    have HF : Hid (check l = if checkFrom none l ≠ 0 then checkFrom none l else if 4000 < sumF l ∨ 4000 < sumT l then 1 else 0) := by unfold Hid check; rw [if_neg (by omega)]
    clear hr hnl
    have h8' : n ≤ 8001 := by omega
    clear h8
    go_enter Tryd.func52, Tryd.ntmps52
    go_wp2_with fail
    go_loopw [13] (fun i wr => ∃ k : Nat, k ≤ n ∧ i = .int .i64 k ∧ checkFrom none l = checkFrom (ahead l k) (l.drop k) ∧ (∀ p ∈ l.take k, partOk p = 0) ∧ Below w.heap.size w wr) (fun i _ => n - (intOf i).toNat)
    case atStart => exact ⟨0, by omega, rfl, rfl, by simp, Below.refl _ _⟩
    case round =>
      obtain ⟨k, hk, rfl, hcf, hall, hb⟩ := hrel
      have Hcf := Lib.hid hcf
      have Hall := Lib.hid hall
      clear hcf hall
      by_cases hlt : k < n
      · have hrw := Hr.out.below hA hb
        obtain ⟨b, off, rfl, hAb, hbs, hcs⟩ := hrw.part (by omega)
        have hkl : k < l.length := by have := Hl.out; omega
        obtain ⟨hk64, hn64, ht, c0, c1, c2⟩ := hcs k hkl
        have Hd := Lib.hid (List.drop_eq_getElem_cons hkl)
        have hgw : Good wr := hg.below' hb
        have hbz := hb.size
        have Hah : Hid (ahead l (k + 1) = some l[k].kind) := by unfold Hid; simp only [ahead]; rw [List.getElem?_eq_getElem hkl]; rfl
        have Htk := Lib.hid (take_next l k hkl)
        by_cases hpo : partOk l[k] = 0
        · have Hall2 : Hid (∀ p ∈ l.take (k + 1), partOk p = 0) := by
            unfold Hid; rw [Htk.out]; intro p hp
            rcases List.mem_append.1 hp with h | h
            · exact Hall.out p h
            · simp at h; rw [h]; exact hpo
          have Hst : Hid ((match ahead l k with | some q => clash q l[k].kind | none => false) = false → checkFrom none l = checkFrom (ahead l (k + 1)) (l.drop (k + 1))) := by
            unfold Hid; intro h; rw [Hcf.out, Hd.out, Hah.out, checkFrom_drop _ _ _ hpo h]
          have Hbad : Hid ((match ahead l k with | some q => clash q l[k].kind | none => false) = true → check l = 4) := by
            unfold Hid; intro h
            have h1 : checkFrom none l = 4 := by rw [Hcf.out, Hd.out, checkFrom_clash _ _ _ hpo h]
            rw [HF.out, h1]; rfl
          have hpart := fun W (hW : Good W) => part_any l[k] W hW hk64 hn64 ht
          rw [hpo] at hpart
          have Hpart := Lib.hid hpart
          clear hpart HF Hcf Hd Hah Htk Hall
          cases k with
          | zero =>
            have Hst2 := Lib.hid (Hst.out rfl)
            clear Hst Hbad hcs hrw
            simp only [Nat.zero_mul, Nat.add_zero] at c0 c1 c2
            generalize l[0] = p at *
            obtain ⟨pk, pn, pt⟩ := p
            simp only at *
            go_wp2_with (go_at_call 65; refine (Hpart.out _ (hgw.below' ?hb)).mono ?_; (case hb => (repeat (first | exact Below.refl _ _ | assumption | (refine Below.drew ?_) | (refine below_drewN ?_ _) | (refine Below.alloc ?_ (by first | (simp; done) | (simp; omega) | omega) _) | (refine Below.setCell ?_ (by first | (simp; done) | (simp; omega) | omega) _) | (refine Below.trans ?_ (Below.mono (by assumption) (by first | (simp; done) | (simp; omega) | omega)))))); rintro e w1 ⟨rfl, hb1⟩; obtain ⟨hc1, hf1⟩ := bcell hb1)
            go_quiet (fail)
            go_wp2_with fail
            go_roundw
            case rel => exact ⟨1, by omega, by go_num, Hst2.out, Hall2.out, by (repeat (first | exact Below.refl _ _ | assumption | (refine Below.drew ?_) | (refine below_drewN ?_ _) | (refine Below.alloc ?_ (by first | (simp; done) | (simp; omega) | omega) _) | (refine Below.setCell ?_ (by first | (simp; done) | (simp; omega) | omega) _) | (refine Below.trans ?_ (Below.mono (by assumption) (by first | (simp; done) | (simp; omega) | omega)))))⟩
            case measure => simp [intOf]; omega
          | succ j =>
            obtain ⟨_, _, _, d0, _, _⟩ := hcs j (by omega)
            have hah : ahead l (j + 1) = some l[j].kind := by simp only [ahead]; rw [List.getElem?_eq_getElem (by omega)]; rfl
            rw [hah] at Hst Hbad
            clear hah hcs hrw
            generalize l[j + 1] = p at *
            generalize l[j] = q at *
            obtain ⟨pk, pn, pt⟩ := p
            obtain ⟨qk, qn, qt⟩ := q
            simp only at *
            have hp0 : 0 < j + 1 := by omega
            cases hqp : (qk == pk) with
            | true =>
              have Hbad2 := Lib.hid (Hbad.out (by simp only [clash]; simp at hqp; simp [hqp]))
              clear Hst Hbad
              go_wp2_with (go_at_call 65; refine (Hpart.out _ (hgw.below' ?hb)).mono ?_; (case hb => (repeat (first | exact Below.refl _ _ | assumption | (refine Below.drew ?_) | (refine below_drewN ?_ _) | (refine Below.alloc ?_ (by first | (simp; done) | (simp; omega) | omega) _) | (refine Below.setCell ?_ (by first | (simp; done) | (simp; omega) | omega) _) | (refine Below.trans ?_ (Below.mono (by assumption) (by first | (simp; done) | (simp; omega) | omega)))))); rintro e w1 ⟨rfl, hb1⟩; obtain ⟨hc1, hf1⟩ := bcell hb1)
              go_quiet (fail)
              go_wp2_with fail
              go_ret
              exact ⟨ret_int Hbad2.out.symm, by (repeat (first | exact Below.refl _ _ | assumption | (refine Below.drew ?_) | (refine below_drewN ?_ _) | (refine Below.alloc ?_ (by first | (simp; done) | (simp; omega) | omega) _) | (refine Below.setCell ?_ (by first | (simp; done) | (simp; omega) | omega) _) | (refine Below.trans ?_ (Below.mono (by assumption) (by first | (simp; done) | (simp; omega) | omega)))))⟩
            | false =>
              cases hq3 : (qk == 3) with
              | true =>
                cases hp2 : (pk == 2) with
                | true =>
                  have Hbad2 := Lib.hid (Hbad.out (by simp only [clash]; simp at hq3 hp2; simp [hq3, hp2]))
                  clear Hst Hbad
                  go_wp2_with (go_at_call 65; refine (Hpart.out _ (hgw.below' ?hb)).mono ?_; (case hb => (repeat (first | exact Below.refl _ _ | assumption | (refine Below.drew ?_) | (refine below_drewN ?_ _) | (refine Below.alloc ?_ (by first | (simp; done) | (simp; omega) | omega) _) | (refine Below.setCell ?_ (by first | (simp; done) | (simp; omega) | omega) _) | (refine Below.trans ?_ (Below.mono (by assumption) (by first | (simp; done) | (simp; omega) | omega)))))); rintro e w1 ⟨rfl, hb1⟩; obtain ⟨hc1, hf1⟩ := bcell hb1)
                  go_quiet (fail)
                  go_wp2_with fail
                  go_ret
                  exact ⟨ret_int Hbad2.out.symm, by (repeat (first | exact Below.refl _ _ | assumption | (refine Below.drew ?_) | (refine below_drewN ?_ _) | (refine Below.alloc ?_ (by first | (simp; done) | (simp; omega) | omega) _) | (refine Below.setCell ?_ (by first | (simp; done) | (simp; omega) | omega) _) | (refine Below.trans ?_ (Below.mono (by assumption) (by first | (simp; done) | (simp; omega) | omega)))))⟩
                | false =>
                  have Hst2 := Lib.hid (Hst.out (by simp only [clash]; simp at hqp hp2; simp [hqp, hp2]))
                  clear Hst Hbad
                  go_wp2_with (go_at_call 65; refine (Hpart.out _ (hgw.below' ?hb)).mono ?_; (case hb => (repeat (first | exact Below.refl _ _ | assumption | (refine Below.drew ?_) | (refine below_drewN ?_ _) | (refine Below.alloc ?_ (by first | (simp; done) | (simp; omega) | omega) _) | (refine Below.setCell ?_ (by first | (simp; done) | (simp; omega) | omega) _) | (refine Below.trans ?_ (Below.mono (by assumption) (by first | (simp; done) | (simp; omega) | omega)))))); rintro e w1 ⟨rfl, hb1⟩; obtain ⟨hc1, hf1⟩ := bcell hb1)
                  go_quiet (fail)
                  go_wp2_with fail
                  go_roundw
                  case rel => exact ⟨j + 1 + 1, by omega, by go_num, Hst2.out, Hall2.out, by (repeat (first | exact Below.refl _ _ | assumption | (refine Below.drew ?_) | (refine below_drewN ?_ _) | (refine Below.alloc ?_ (by first | (simp; done) | (simp; omega) | omega) _) | (refine Below.setCell ?_ (by first | (simp; done) | (simp; omega) | omega) _) | (refine Below.trans ?_ (Below.mono (by assumption) (by first | (simp; done) | (simp; omega) | omega)))))⟩
                  case measure => simp [intOf]; omega
              | false =>
                have Hst2 := Lib.hid (Hst.out (by simp only [clash]; simp at hqp hq3; simp [hqp, hq3]))
                clear Hst Hbad
                go_wp2_with (go_at_call 65; refine (Hpart.out _ (hgw.below' ?hb)).mono ?_; (case hb => (repeat (first | exact Below.refl _ _ | assumption | (refine Below.drew ?_) | (refine below_drewN ?_ _) | (refine Below.alloc ?_ (by first | (simp; done) | (simp; omega) | omega) _) | (refine Below.setCell ?_ (by first | (simp; done) | (simp; omega) | omega) _) | (refine Below.trans ?_ (Below.mono (by assumption) (by first | (simp; done) | (simp; omega) | omega)))))); rintro e w1 ⟨rfl, hb1⟩; obtain ⟨hc1, hf1⟩ := bcell hb1)
                go_quiet (fail)
                go_wp2_with fail
                go_roundw
                case rel => exact ⟨j + 1 + 1, by omega, by go_num, Hst2.out, Hall2.out, by (repeat (first | exact Below.refl _ _ | assumption | (refine Below.drew ?_) | (refine below_drewN ?_ _) | (refine Below.alloc ?_ (by first | (simp; done) | (simp; omega) | omega) _) | (refine Below.setCell ?_ (by first | (simp; done) | (simp; omega) | omega) _) | (refine Below.trans ?_ (Below.mono (by assumption) (by first | (simp; done) | (simp; omega) | omega)))))⟩
                case measure => simp [intOf]; omega
        · have hfin : checkFrom none l = partOk l[k] := by rw [Hcf.out, Hd.out]; cases ahead l k <;> rw [checkFrom, if_pos hpo]
          rw [hfin, if_pos hpo] at HF
          clear hfin Hd Hcf Hah Htk hcs hrw
          generalize l[k] = p at *
          obtain ⟨pk, pn, pt⟩ := p
          simp only at *
          have hpb : (partOk ⟨pk, pn, pt⟩ != 0) = true := by simpa using hpo
          clear hpo
          have hpart := fun W (hW : Good W) => part_any ⟨pk, pn, pt⟩ W hW hk64 hn64 ht
          simp only at hpart
          generalize partOk ⟨pk, pn, pt⟩ = r at *
          have Hpart := Lib.hid hpart
          clear hpart
          go_wp2_with (go_at_call 65; refine (Hpart.out _ (hgw.below' ?hb)).mono ?_; (case hb => (repeat (first | exact Below.refl _ _ | assumption | (refine Below.drew ?_) | (refine below_drewN ?_ _) | (refine Below.alloc ?_ (by first | (simp; done) | (simp; omega) | omega) _) | (refine Below.setCell ?_ (by first | (simp; done) | (simp; omega) | omega) _) | (refine Below.trans ?_ (Below.mono (by assumption) (by first | (simp; done) | (simp; omega) | omega)))))); rintro e w1 ⟨rfl, hb1⟩; obtain ⟨hc1, hf1⟩ := bcell hb1)
          go_ret
          exact ⟨ret_int HF.out.symm, by (repeat (first | exact Below.refl _ _ | assumption | (refine Below.drew ?_) | (refine below_drewN ?_ _) | (refine Below.alloc ?_ (by first | (simp; done) | (simp; omega) | omega) _) | (refine Below.setCell ?_ (by first | (simp; done) | (simp; omega) | omega) _) | (refine Below.trans ?_ (Below.mono (by assumption) (by first | (simp; done) | (simp; omega) | omega)))))⟩
      · have hkn : k = l.length := by have := Hl.out; omega
        have hall2 : ∀ p ∈ l, partOk p = 0 := by have h := Hall.out; rw [hkn, List.take_length] at h; exact h
        have h0 : checkFrom none l = 0 := by rw [Hcf.out, hkn, List.drop_length]; cases ahead l l.length <;> rfl
        have hsm : Small l := ⟨by omega, fun p hp => by have := partOk_small (hall2 p hp); omega⟩
        have HF2 : Hid (check l = if 4000 < sumF l ∨ 4000 < sumT l then 1 else 0) := by unfold Hid; rw [HF.out, h0]; rfl
        have Hlen := Lib.hid (fun W h => lengths_any A l a n c W h hsm)
        have hbd := hsm.bound l.length (by omega)
        rw [List.take_length] at hbd
        clear h0 hsm hall2 HF Hcf Hall
        have Hrw := Lib.hid (Hr.out.below hA hb)
        generalize sumF l = x at *
        generalize sumT l = y at *
        clear hkn
        by_cases hx : 4000 < x
        · go_wp2_with (go_at_call 36; refine (Hlen.out _ Hrw.out).mono ?_; rintro e w1 ⟨rfl, hb1⟩)
          go_ret
          exact ⟨ret_int (by rw [HF2.out, if_pos (.inl hx)]), hb.trans (hb1.mono hb.size)⟩
        · by_cases hy : 4000 < y
          · go_wp2_with (go_at_call 36; refine (Hlen.out _ Hrw.out).mono ?_; rintro e w1 ⟨rfl, hb1⟩)
            go_ret
            exact ⟨ret_int (by rw [HF2.out, if_pos (.inr hy)]), hb.trans (hb1.mono hb.size)⟩
          · go_wp2_with (go_at_call 36; refine (Hlen.out _ Hrw.out).mono ?_; rintro e w1 ⟨rfl, hb1⟩)
            go_ret
            exact ⟨ret_int (by rw [HF2.out, if_neg (by omega)]), hb.trans (hb1.mono hb.size)⟩
end Go.Proofs.YtkhacogeffidoaaDoor

set_option linter.unusedVariables false
set_option linter.unusedSimpArgs false
namespace Go.Proofs.YtkhacogeffidoaaDoor
open Go.RowKit

def partCells (p : Part) : List Value := [.int .i64 p.kind, .int .i64 p.n, .string p.text]
def flat (l : Op) : List Value := l.flatMap partCells
theorem flat_len (l : Op) : (flat l).length = l.length * 3 := by
  induction l with
  | nil => rfl
  | cons p l ih => simp only [flat, List.flatMap_cons, List.length_append, List.length_cons] at ih ⊢; rw [ih]; simp [partCells]; omega
theorem flat_append (a b : Op) : flat (a ++ b) = flat a ++ flat b := by simp [flat]
theorem flat_one (p : Part) : flat [p] = partCells p := by simp [flat]
theorem flat_at (l : Op) (i : Nat) (p : Part) (h : l[i]? = some p) : (flat l)[i * 3]? = some (.int .i64 p.kind) ∧ (flat l)[i * 3 + 1]? = some (.int .i64 p.n) ∧ (flat l)[i * 3 + 2]? = some (.string p.text) := by
  induction l generalizing i with
  | nil => simp at h
  | cons q l ih =>
    cases i with
    | zero => simp at h; subst h; simp [flat, partCells]
    | succ i =>
      simp at h
      obtain ⟨h1, h2, h3⟩ := ih i h
      have e : flat (q :: l) = partCells q ++ flat l := by simp [flat]
      rw [e]
      have e2 : (partCells q).length = 3 := rfl
      refine ⟨?_, ?_, ?_⟩
      · rw [List.getElem?_append_right (by rw [e2]; omega), e2, show (i + 1) * 3 - 3 = i * 3 from by omega]; exact h1
      · rw [List.getElem?_append_right (by rw [e2]; omega), e2, show (i + 1) * 3 + 1 - 3 = i * 3 + 1 from by omega]; exact h2
      · rw [List.getElem?_append_right (by rw [e2]; omega), e2, show (i + 1) * 3 + 2 - 3 = i * 3 + 2 from by omega]; exact h3
theorem flat_snoc (p : Part) (r : List Part) : flat (p :: r).reverse = flat r.reverse ++ partCells p := by rw [List.reverse_cons, flat_append, flat_one]
theorem flat_set (p q : Part) (r : List Part) (hk : p.kind = q.kind) : ((flat (q :: r).reverse).set (r.length * 3 + 1) (.int .i64 p.n)).set (r.length * 3 + 2) (.string p.text) = flat (p :: r).reverse := by
  rw [flat_snoc, flat_snoc, List.set_append_right _ _ (by rw [flat_len]; simp), List.set_append_right _ _ (by rw [flat_len]; simp), flat_len]
  simp [partCells, hk]
theorem flat_one' (l : Op) : ∀ v ∈ flat l, v.oneCell' = true := by
  intro v hv
  simp only [flat, List.mem_flatMap] at hv
  obtain ⟨p, _, hp⟩ := hv
  simp only [partCells, List.mem_cons, List.not_mem_nil, or_false] at hp
  rcases hp with rfl | rfl | rfl <;> rfl

theorem ownsRow_drewN {w : World} {B e size n : Nat} {v : Value} {xs : List Value} (h : w.ownsRow B e size v n xs) (k : Nat) : (w.drewN k).ownsRow B e size v n xs := h
theorem ownsRow_drew {w : World} {B e size n : Nat} {v : Value} {xs : List Value} (h : w.ownsRow B e size v n xs) : w.drew.ownsRow B e size v n xs := h
theorem heap_new_at (w : World) (o : Obj) (H : Nat) (h : w.heap.size = H) : (w.alloc o).heap[H]? = some o := by subst h; exact heap_alloc_new w o
theorem news_at {w : World} {H t : Nat} {l : List Value} (h : w.heap[H]? = some (.cells l.toArray t (0, 0))) : ∀ j u, l[j]? = some u → w.cell? ((⟨H, 0, none⟩ : Addr).add j) = some u := by
  intro j u hu
  have e : (⟨H, 0, none⟩ : Addr).add j = ⟨H, j, none⟩ := by
    unfold Addr.add
    split
    · rename_i h0; rw [h0]
    · simp
  rw [e, cell_of_row w H j _ t (0, 0) h]
  simpa using hu

/-- only the blocks of S, and new ones, have turned -/
structure Touch (S : Nat → Prop) (w w' : World) : Prop where
  os : w'.os = w.os
  tape : w'.tape = w.tape
  output : w'.output = w.output
  size : w.heap.size ≤ w'.heap.size
  block : ∀ k, k < w.heap.size → ¬ S k → w'.heap[k]? = w.heap[k]?
theorem Touch.refl (S : Nat → Prop) (w : World) : Touch S w w := ⟨rfl, rfl, rfl, Nat.le_refl _, fun _ _ _ => rfl⟩
theorem Touch.trans {S : Nat → Prop} {a b c : World} (h : Touch S a b) (k : Touch S b c) : Touch S a c :=
  ⟨k.os.trans h.os, k.tape.trans h.tape, k.output.trans h.output, Nat.le_trans h.size k.size, fun i hi hs => (k.block i (Nat.lt_of_lt_of_le hi h.size) hs).trans (h.block i hi hs)⟩
theorem Touch.mono {S S' : Nat → Prop} {a b : World} (h : Touch S a b) (hs : ∀ k, k < a.heap.size → S k → S' k) : Touch S' a b :=
  ⟨h.os, h.tape, h.output, h.size, fun i hi hn => h.block i hi (fun hh => hn (hs i hi hh))⟩
/-- two steps of different reach: what the second one touches was touched by the first, or is new -/
theorem Touch.then_ {S S' : Nat → Prop} {a b c : World} (h : Touch S a b) (k : Touch S' b c) (hs : ∀ i, i < a.heap.size → S' i → S i) : Touch S a c :=
  ⟨k.os.trans h.os, k.tape.trans h.tape, k.output.trans h.output, Nat.le_trans h.size k.size, fun i hi hn => (k.block i (Nat.lt_of_lt_of_le hi h.size) (fun hh => hn (hs i hi hh))).trans (h.block i hi hn)⟩
theorem Touch.drew {S : Nat → Prop} {a w : World} (h : Touch S a w) : Touch S a w.drew := ⟨h.os, h.tape, h.output, h.size, h.block⟩
theorem Touch.drewN {S : Nat → Prop} {a w : World} (h : Touch S a w) (n : Nat) : Touch S a (w.drewN n) := ⟨h.os, h.tape, h.output, h.size, h.block⟩
theorem Touch.alloc {S : Nat → Prop} {a w : World} (h : Touch S a w) (o : Obj) : Touch S a (w.alloc o) :=
  ⟨h.os, h.tape, h.output, Nat.le_trans h.size (by simp), fun i hi hs => (Below.heap_alloc w o i (Nat.lt_of_lt_of_le hi h.size)).trans (h.block i hi hs)⟩
theorem Touch.setCell {S : Nat → Prop} {a w : World} (h : Touch S a w) {p : Addr} (hp : S p.block ∨ a.heap.size ≤ p.block) (u : Value) : Touch S a (w.setCell p u) :=
  ⟨h.os, h.tape, h.output, by simpa [World.setCell] using h.size, fun i hi hs => (Below.heap_setCell w p u i (by
    rintro rfl
    rcases hp with hp | hp
    · exact hs hp
    · omega)).trans (h.block i hi hs)⟩
theorem Touch.grown {S : Nat → Prop} {a w w' : World} {row : Option Nat} (h : Touch S a w) (hg : w.grownBy w' row) (hr : ∀ k, row = some k → S k ∨ a.heap.size ≤ k) : Touch S a w' :=
  ⟨hg.os.trans h.os, hg.tape.trans h.tape, hg.output.trans h.output, Nat.le_trans h.size hg.size, fun i hi hs => (hg.block i (Nat.lt_of_lt_of_le hi h.size) (fun e => by
    rcases hr i e.symm with hh | hh
    · exact hs hh
    · omega)).trans (h.block i hi hs)⟩
theorem Touch.below {S : Nat → Prop} {a w w' : World} {B : Nat} (h : Touch S a w) (hb : Below B w w') (hB : a.heap.size ≤ B) : Touch S a w' :=
  ⟨hb.os.trans h.os, hb.tape.trans h.tape, hb.output.trans h.output, Nat.le_trans h.size hb.size, fun i hi hs => (hb.block i (by omega)).trans (h.block i hi hs)⟩
theorem Touch.toBelow {S : Nat → Prop} {w w' : World} {B : Nat} (h : Touch S w w') (hB : B ≤ w.heap.size) (hs : ∀ k, S k → B ≤ k) : Below B w w' :=
  ⟨h.os, h.tape, h.output, h.size, fun k hk => h.block k (by omega) (fun hh => by have := hs k hh; omega)⟩
theorem Touch.of_below {S : Nat → Prop} {w w' : World} (h : Below w.heap.size w w') : Touch S w w' := ⟨h.os, h.tape, h.output, h.size, fun k hk _ => h.block k hk⟩
theorem Touch.cell {S : Nat → Prop} {w w' : World} (h : Touch S w w') {b o : Nat} (hb : b < w.heap.size) (hs : ¬ S b) : w'.cell? ⟨b, o, none⟩ = w.cell? ⟨b, o, none⟩ := cell_keep (h.block b hb hs)

/-- Block b is a struct of the call's own: a slice v of parts of the call's own, and the cells ex. -/
structure Bag (T : TypeId) (B b : Nat) (v : Value) (ex : List Value) (l : Op) (w : World) : Prop where
  base : B ≤ b
  blk : w.heap[b]? = some (.cells (v :: ex).toArray T (0, 0))
  own : w.ownsRow B 110 3 v l.length (flat l)
  ne : v.ownBlock ≠ some b
def Bag.S (b : Nat) (v : Value) : Nat → Prop := fun k => k = b ∨ v.ownBlock = some k

section
variable {T : TypeId} {B b : Nat} {v : Value} {ex : List Value} {l : Op} {w w' : World}
theorem Bag.lt (h : Bag T B b v ex l w) : b < w.heap.size := (Array.getElem?_eq_some_iff.1 h.blk).1
theorem Bag.cell (h : Bag T B b v ex l w) (i : Nat) : w.cell? ⟨b, i, none⟩ = (v :: ex)[i]? := by
  rw [cell_of_row w b i _ T (0, 0) h.blk]; simp
theorem Bag.frozen (h : Bag T B b v ex l w) (i : Nat) : w.frozen? ⟨b, i, none⟩ = false := frozen_of_row w b i _ T h.blk
theorem Bag.form (h : Bag T B b v ex l w) : ∃ a c, v = .slice a l.length c := by
  rcases h.own.2 with ⟨hv, h0⟩ | ⟨g, cap, cur, hv, _⟩
  · exact ⟨none, 0, by rw [hv, h0]⟩
  · exact ⟨_, _, hv⟩
theorem Bag.rowlt (h : Bag T B b v ex l w) : ∀ k, v.ownBlock = some k → B ≤ k ∧ k < w.heap.size := h.own.lt
theorem Bag.keep (h : Bag T B b v ex l w) (hk : ∀ k, (k = b ∨ v.ownBlock = some k) → w'.heap[k]? = w.heap[k]?) : Bag T B b v ex l w' := by
  refine ⟨h.base, (hk b (.inl rfl)).trans h.blk, ?_, h.ne⟩
  refine ⟨h.own.1, ?_⟩
  rcases h.own.2 with hn | ⟨g, cap, cur, hv, hb, hg, rest⟩
  · exact .inl hn
  · exact .inr ⟨g, cap, cur, hv, hb, (hk g (.inr (by rw [hv]; rfl))).trans hg, rest⟩
theorem Bag.below (h : Bag T B b v ex l w) (hb : Below w.heap.size w w') : Bag T B b v ex l w' := h.keep fun k hk => hb.block k (by
  rcases hk with rfl | hk
  · exact h.lt
  · exact (h.rowlt k hk).2)
theorem Bag.touch {S : Nat → Prop} (h : Bag T B b v ex l w) (ht : Touch S w w') (hs : ∀ k, (k = b ∨ v.ownBlock = some k) → ¬ S k) : Bag T B b v ex l w' := h.keep fun k hk => ht.block k (by
  rcases hk with rfl | hk
  · exact h.lt
  · exact (h.rowlt k hk).2) (hs k hk)
theorem Bag.alloc (h : Bag T B b v ex l w) (o : Obj) : Bag T B b v ex l (w.alloc o) := h.below ((Below.refl _ _).alloc (Nat.le_refl _) _)
/-- the slice in it is another one now -/
theorem Bag.put {v' : Value} {l' : Op} (hB : B ≤ b) (hb : w.heap[b]? = some (.cells (v :: ex).toArray T (0, 0))) (hown : w.ownsRow B 110 3 v' l'.length (flat l')) (hT : T ≠ 110) :
    Bag T B b v' ex l' (w.setCell ⟨b, 0, none⟩ v') := by
  have hne : v'.ownBlock ≠ some b := by
    rcases hown.2 with ⟨hv, _⟩ | ⟨g, cap, cur, hv, _, hg, _⟩
    · rw [hv]; simp [Value.ownBlock]
    · rw [hv]; simp only [Value.ownBlock]; intro e
      have e2 : g = b := by injection e
      rw [e2, hb] at hg
      injection hg with hg
      injection hg with _ ht
      exact hT ht
  refine ⟨hB, ?_, ?_, hne⟩
  · simp [World.setCell, Array.getElem?_modify, hb]
  · exact hown.kept (row := some b) ⟨rfl, rfl, rfl, by simp [World.setCell], fun k _ hk => Below.heap_setCell _ _ _ _ (fun e => hk (by simp [e]))⟩ (.inr hne)
theorem ownsRow_cut {w : World} {B e size : Nat} {a : Option Addr} {n c : Nat} {xs : List Value} (h : w.ownsRow B e size (.slice a n c) n xs) (m : Nat) (hm : m < n) : w.ownsRow B e size (.slice a m c) m (xs.take (m * size)) := by
  rcases h.2 with ⟨_, h0⟩ | ⟨g, cap, cur, hv, hg, hh, hnc, hcm, hcs, ht⟩
  · omega
  · have hle : m * size ≤ n * size := Nat.mul_le_mul_right _ (by omega)
    injection hv with hv1 hv2 hv3
    subst hv1 hv3
    refine ⟨by rw [List.length_take, h.1]; omega, .inr ⟨g, c, cur, rfl, hg, hh, by omega, hcm, hcs, ?_⟩⟩
    rw [← ht, List.take_take, Nat.min_eq_left hle]
theorem flat_take (l r : Op) : (flat (l ++ r)).take (l.length * 3) = flat l := by
  rw [flat_append, ← flat_len, List.take_left]
/-- the last part -/
theorem Bag.last {q : Part} {r : List Part} {a : Option Addr} {n c : Nat} (h : Bag T B b v ex (q :: r).reverse w) (hv : v = .slice a n c) :
    ∃ g, a = some ⟨g, 0, none⟩ ∧ v.ownBlock = some g ∧ w.cell? ⟨g, r.length * 3, none⟩ = some (.int .i64 q.kind) ∧ w.cell? ⟨g, r.length * 3 + 1, none⟩ = some (.int .i64 q.n) ∧ w.cell? ⟨g, r.length * 3 + 2, none⟩ = some (.string q.text) := by
  have hown := h.own
  have hq := flat_at (q :: r).reverse r.length q (by simp)
  simp only [List.length_reverse, List.length_cons] at hown
  rcases hown.2 with ⟨_, h0⟩ | ⟨g, cap, cur, hv2, _⟩
  · omega
  · rw [hv2] at hown hv
    injection hv with h1 h2 h3
    refine ⟨g, h1.symm, by rw [hv2]; rfl, ?_, ?_, ?_⟩
    · rw [hown.cellAt _ (by omega)]; exact hq.1
    · rw [hown.cellAt _ (by omega)]; exact hq.2.1
    · rw [hown.cellAt _ (by omega)]; exact hq.2.2
theorem Bag.rd (h : Bag T B b v ex l w) (hp : ∀ p ∈ l, I64 p.kind ∧ I64 p.n ∧ p.text.size ≤ strMax) {A : Nat → Prop} (hA : ∀ k, v.ownBlock = some k → A k) : ∃ a c, v = .slice a l.length c ∧ RdS A w l a l.length c := by
  obtain ⟨a, n, c, hv, hr⟩ := RdS.of_row (α := Part) h.own hA (fun i x hx => ⟨partCells x, ⟨rfl, hp x (List.mem_of_getElem? hx)⟩, fun j u hu => by
    obtain ⟨h1, h2, h3⟩ := flat_at l i x hx
    simp only [Rep.n]
    match j, hu with
    | 0, hu => simp [partCells] at hu; rw [← hu]; exact h1
    | 1, hu => simp [partCells] at hu; rw [← hu]; exact h2
    | 2, hu => simp [partCells] at hu; rw [← hu]; exact h3⟩)
  have hn := hr.1
  subst hn
  exact ⟨a, c, hv, hr⟩
end
end Go.Proofs.YtkhacogeffidoaaDoor

set_option linter.unusedVariables false
set_option linter.unusedSimpArgs false
namespace Go.Proofs.YtkhacogeffidoaaDoor
open Go.RowKit

def num (x : Int) : Bool := decide (0 ≤ x) && decide (x ≤ 1048576)
theorem number_any (x : Int) (w : World) (_ : I64 x) :
    Calls Tryd.prog 61 #[.int .i64 x] w fun e w' => e = .returned (.bool (num x)) ∧ w = w' := by
  unfold num
  by_cases h0 : 0 ≤ x
  · by_cases h1 : x ≤ 1048576
    · have d0 : decide (0 ≤ x) = true := by simpa using h0
      have d1 : decide (x ≤ 1048576) = true := by simpa using h1
      go_enter Tryd.func61, Tryd.ntmps61
      go_wp2_with fail
      go_ret
      exact ⟨by simp [d0, d1], rfl⟩
    · have d0 : decide (0 ≤ x) = true := by simpa using h0
      have d1 : decide (x ≤ 1048576) = false := by simpa using h1
      go_enter Tryd.func61, Tryd.ntmps61
      go_wp2_with fail
      go_ret
      exact ⟨by simp [d0, d1], rfl⟩
  · have d0 : decide (0 ≤ x) = false := by simpa using h0
    go_enter Tryd.func61, Tryd.ntmps61
    go_wp2_with fail
    go_ret
    exact ⟨by simp [d0], rfl⟩

def frameOdd (k h e : Int) (n : Nat) (t : Str) : Bool := ((k == 1) == decide (0 < e)) || (!(k == 1) && decide (0 < n)) || ((k == 3) && decide (0 < h)) || (!(k == 3) && !(emptyS t))
def checkFrame (k h e : Int) (o : Op) (t : Str) : Int :=
  if k < 1 ∨ 3 < k then 3 else if num h = false ∨ num e = false then 2 else if check o ≠ 0 then check o else if checkText t ≠ 0 then checkText t else if frameOdd k h e o.length t = true then 4 else 0

set_option maxRecDepth 100000 in
set_option maxHeartbeats 2000000 in
theorem checkFrame_any (A : Nat → Prop) (k h e : Int) (o : Op) (t : Str) (a : Option Addr) (n c : Nat) (w : World) (hg : Good w) (hA : ∀ b, A b → b < w.heap.size) (hr : RdS A w o a n c) (hk : I64 k) (hh : I64 h) (he : I64 e) (ht : t.size ≤ strMax) :
    Calls Tryd.prog 46 #[.agg #[.int .i64 k, .int .i64 h, .int .i64 e, .slice a n c, .string t]] w fun ee w' => ee = .returned (.int .i64 (checkFrame k h e o t)) ∧ Below w.heap.size w w' := by
  have hn : o.length = n := hr.1.symm
  have hn2 : n ≤ maxLen := Nat.le_trans hr.2.1 hr.2.2.1
  unfold maxLen at hn2
  generalize hu : checkFrame k h e o t = u
  unfold checkFrame at hu
  rw [hn] at hu
  have HC := Lib.hid (fun W (hb : Below w.heap.size w W) => check_any A o a n c W (hg.below' hb) (fun b hb' => Nat.lt_of_lt_of_le (hA b hb') hb.size) (hr.below hA hb))
  have HT := Lib.hid (fun W (hb : Below w.heap.size w W) => checkText_any t W (hg.below' hb) ht)
  have HH := Lib.hid (fun W => number_any h W hh)
  have HE := Lib.hid (fun W => number_any e W he)
  clear hr hn ht
  unfold I64 at hk hh he
  generalize check o = co at *
  generalize checkText t = ct at *
  generalize num h = nh at *
  generalize num e = ne at *
  have Hu := Lib.hid hu
  clear hu
  by_cases k1 : k < 1
  · have d : decide (k < 1) = true := by simpa using k1
    have hu := Hu.out
    rw [if_pos (.inl k1)] at hu
    subst hu
    clear Hu
    go_enter Tryd.func46, Tryd.ntmps46
    go_wp2_with fail
    go_ret
    exact ⟨rfl, by (repeat (first | exact Below.refl _ _ | assumption | (refine Below.drew ?_) | (refine below_drewN ?_ _) | (refine Below.alloc ?_ (by first | (simp; done) | (simp; omega) | omega) _) | (refine Below.setCell ?_ (by first | (simp; done) | (simp; omega) | omega) _) | (refine Below.trans ?_ (Below.mono (by assumption) (by first | (simp; done) | (simp; omega) | omega)))))⟩
  by_cases k3 : 3 < k
  · have d : decide (k < 1) = false := by simpa using k1
    have d3 : decide (3 < k) = true := by simpa using k3
    have hu := Hu.out
    rw [if_pos (.inr k3)] at hu
    subst hu
    clear Hu
    go_enter Tryd.func46, Tryd.ntmps46
    go_wp2_with fail
    go_ret
    exact ⟨rfl, by (repeat (first | exact Below.refl _ _ | assumption | (refine Below.drew ?_) | (refine below_drewN ?_ _) | (refine Below.alloc ?_ (by first | (simp; done) | (simp; omega) | omega) _) | (refine Below.setCell ?_ (by first | (simp; done) | (simp; omega) | omega) _) | (refine Below.trans ?_ (Below.mono (by assumption) (by first | (simp; done) | (simp; omega) | omega)))))⟩
  have d : decide (k < 1) = false := by simpa using k1
  have d3 : decide (3 < k) = false := by simpa using k3
  have hu := Hu.out
  rw [if_neg (by omega)] at hu
  clear Hu
  have Hu := Lib.hid hu
  clear hu
  go_enter Tryd.func46, Tryd.ntmps46
  go_wp2_with fail
  refine (HH.out _).mono ?_
  rintro ee w1 ⟨rfl, rfl⟩
  cases nh with
  | false =>
    have hu := Hu.out
    rw [if_pos (.inl rfl)] at hu
    subst hu
    clear Hu
    go_wp2_with fail
    go_ret
    exact ⟨rfl, by (repeat (first | exact Below.refl _ _ | assumption | (refine Below.drew ?_) | (refine below_drewN ?_ _) | (refine Below.alloc ?_ (by first | (simp; done) | (simp; omega) | omega) _) | (refine Below.setCell ?_ (by first | (simp; done) | (simp; omega) | omega) _) | (refine Below.trans ?_ (Below.mono (by assumption) (by first | (simp; done) | (simp; omega) | omega)))))⟩
  | true =>
  go_wp2_with fail
  refine (HE.out _).mono ?_
  rintro ee w1 ⟨rfl, rfl⟩
  cases ne with
  | false =>
    have hu := Hu.out
    rw [if_pos (.inr rfl)] at hu
    subst hu
    clear Hu
    go_wp2_with fail
    go_ret
    exact ⟨rfl, by (repeat (first | exact Below.refl _ _ | assumption | (refine Below.drew ?_) | (refine below_drewN ?_ _) | (refine Below.alloc ?_ (by first | (simp; done) | (simp; omega) | omega) _) | (refine Below.setCell ?_ (by first | (simp; done) | (simp; omega) | omega) _) | (refine Below.trans ?_ (Below.mono (by assumption) (by first | (simp; done) | (simp; omega) | omega)))))⟩
  | true =>
  have hu := Hu.out
  rw [if_neg (by simp)] at hu
  clear Hu
  go_wp2_with fail
  refine (HC.out _ (by (repeat (first | exact Below.refl _ _ | assumption | (refine Below.drew ?_) | (refine below_drewN ?_ _) | (refine Below.alloc ?_ (by first | (simp; done) | (simp; omega) | omega) _) | (refine Below.setCell ?_ (by first | (simp; done) | (simp; omega) | omega) _) | (refine Below.trans ?_ (Below.mono (by assumption) (by first | (simp; done) | (simp; omega) | omega))))))).mono ?_
  rintro ee w1 ⟨rfl, hb1⟩
  obtain ⟨hc1, hf1⟩ := bcell hb1
  have hB1 : Below w.heap.size w w1 := by (repeat (first | exact Below.refl _ _ | assumption | (refine Below.drew ?_) | (refine below_drewN ?_ _) | (refine Below.alloc ?_ (by first | (simp; done) | (simp; omega) | omega) _) | (refine Below.setCell ?_ (by first | (simp; done) | (simp; omega) | omega) _) | (refine Below.trans ?_ (Below.mono (by assumption) (by first | (simp; done) | (simp; omega) | omega)))))
  have hz1 : w.heap.size + 1 ≤ w1.heap.size := by have := hb1.size; simpa using this
  by_cases hco : co = 0
  case neg =>
    rw [if_pos hco] at hu
    subst hu
    have d4 : (co != 0) = true := by simpa using hco
    clear hco
    go_wp2_with fail
    go_ret
    exact ⟨rfl, by (repeat (first | exact Below.refl _ _ | assumption | (refine Below.drew ?_) | (refine below_drewN ?_ _) | (refine Below.alloc ?_ (by first | (simp; done) | (simp; omega) | omega) _) | (refine Below.setCell ?_ (by first | (simp; done) | (simp; omega) | omega) _) | (refine Below.trans ?_ (Below.mono (by assumption) (by first | (simp; done) | (simp; omega) | omega)))))⟩
  subst hco
  rw [if_neg (by simp)] at hu
  go_wp2_with fail
  refine (HT.out _ (by (repeat (first | exact Below.refl _ _ | assumption | (refine Below.drew ?_) | (refine below_drewN ?_ _) | (refine Below.alloc ?_ (by first | (simp; done) | (simp; omega) | omega) _) | (refine Below.setCell ?_ (by first | (simp; done) | (simp; omega) | omega) _) | (refine Below.trans ?_ (Below.mono (by assumption) (by first | (simp; done) | (simp; omega) | omega))))))).mono ?_
  rintro ee w2 ⟨rfl, hb2⟩
  obtain ⟨hc2, hf2⟩ := bcell hb2
  have hB2 := hB1.trans (hb2.mono hB1.size)
  by_cases hct : ct = 0
  case neg =>
    rw [if_pos hct] at hu
    subst hu
    have d4 : (ct != 0) = true := by simpa using hct
    clear hct
    go_wp2_with fail
    go_ret
    exact ⟨rfl, hB2⟩
  subst hct
  rw [if_neg (by simp)] at hu
  have Hu := Lib.hid hu
  clear hu
  have hrow : w2.heap[w.heap.size]? = some (.cells #[.int .i64 k, .int .i64 h, .int .i64 e, .slice a n c, .string t] 30 (0, 0)) :=
    (hb2.block _ (by omega)).trans ((hb1.block _ (by simp)).trans (heap_new_at _ _ _ rfl))
  have q0 : w2.cell? ⟨w.heap.size, 0, none⟩ = some (.int .i64 k) := by rw [cell_of_row _ _ _ _ _ _ hrow]; rfl
  have q1 : w2.cell? ⟨w.heap.size, 1, none⟩ = some (.int .i64 h) := by rw [cell_of_row _ _ _ _ _ _ hrow]; rfl
  have q2 : w2.cell? ⟨w.heap.size, 2, none⟩ = some (.int .i64 e) := by rw [cell_of_row _ _ _ _ _ _ hrow]; rfl
  have q3 : w2.cell? ⟨w.heap.size, 3, none⟩ = some (.slice a n c) := by rw [cell_of_row _ _ _ _ _ _ hrow]; rfl
  have q4 : w2.cell? ⟨w.heap.size, 4, none⟩ = some (.string t) := by rw [cell_of_row _ _ _ _ _ _ hrow]; rfl
  clear hrow hc1 hf1 hc2 hf2 hb1
  have Hb2 := Lib.hid hB2
  clear hb2
  clear hB2 hB1 HC HT HH HE hk hh he
  have hk3 : k = 1 ∨ k = 2 ∨ k = 3 := by omega
  clear k1 k3 d d3

  rcases hk3 with rfl | rfl | rfl
  · by_cases de : 0 < e
    · have d5 : decide (0 < e) = true := by simpa using de
      have hu := Hu.out
      rw [show frameOdd 1 h e n t = true by simp [frameOdd, *]] at hu
      rw [if_pos rfl] at hu
      subst hu
      clear Hu
      go_wp2_with fail
      go_ret
      exact ⟨rfl, Hb2.out⟩
    · have d5 : decide (0 < e) = false := by simpa using de
      cases em : emptyS t with
      | true =>
        have d6 : t.toList.isEmpty = true := em
        have hu := Hu.out
        rw [show frameOdd 1 h e n t = false by simp [frameOdd, *]] at hu
        rw [if_neg (by decide)] at hu
        subst hu
        clear Hu
        go_wp2_with fail
        go_ret
        exact ⟨rfl, Hb2.out⟩
      | false =>
        have d6 : t.toList.isEmpty = false := em
        have hu := Hu.out
        rw [show frameOdd 1 h e n t = true by simp [frameOdd, *]] at hu
        rw [if_pos rfl] at hu
        subst hu
        clear Hu
        go_wp2_with fail
        go_ret
        exact ⟨rfl, Hb2.out⟩
  · by_cases de : 0 < e
    · have d5 : decide (0 < e) = true := by simpa using de
      by_cases dn : 0 < n
      · have d7 : decide (0 < n) = true := by simpa using dn
        have hu := Hu.out
        rw [show frameOdd 2 h e n t = true by simp [frameOdd, *]] at hu
        rw [if_pos rfl] at hu
        subst hu
        clear Hu
        go_wp2_with fail
        go_ret
        exact ⟨rfl, Hb2.out⟩
      · have d7 : decide (0 < n) = false := by simpa using dn
        cases em : emptyS t with
        | true =>
          have d6 : t.toList.isEmpty = true := em
          have hu := Hu.out
          rw [show frameOdd 2 h e n t = false by simp [frameOdd, *]] at hu
          rw [if_neg (by decide)] at hu
          subst hu
          clear Hu
          go_wp2_with fail
          go_ret
          exact ⟨rfl, Hb2.out⟩
        | false =>
          have d6 : t.toList.isEmpty = false := em
          have hu := Hu.out
          rw [show frameOdd 2 h e n t = true by simp [frameOdd, *]] at hu
          rw [if_pos rfl] at hu
          subst hu
          clear Hu
          go_wp2_with fail
          go_ret
          exact ⟨rfl, Hb2.out⟩
    · have d5 : decide (0 < e) = false := by simpa using de
      have hu := Hu.out
      rw [show frameOdd 2 h e n t = true by simp [frameOdd, *]] at hu
      rw [if_pos rfl] at hu
      subst hu
      clear Hu
      go_wp2_with fail
      go_ret
      exact ⟨rfl, Hb2.out⟩
  · by_cases de : 0 < e
    · have d5 : decide (0 < e) = true := by simpa using de
      by_cases dn : 0 < n
      · have d7 : decide (0 < n) = true := by simpa using dn
        have hu := Hu.out
        rw [show frameOdd 3 h e n t = true by simp [frameOdd, *]] at hu
        rw [if_pos rfl] at hu
        subst hu
        clear Hu
        go_wp2_with fail
        go_ret
        exact ⟨rfl, Hb2.out⟩
      · have d7 : decide (0 < n) = false := by simpa using dn
        by_cases dh : 0 < h
        · have d8 : decide (0 < h) = true := by simpa using dh
          have hu := Hu.out
          rw [show frameOdd 3 h e n t = true by simp [frameOdd, *]] at hu
          rw [if_pos rfl] at hu
          subst hu
          clear Hu
          go_wp2_with fail
          go_ret
          exact ⟨rfl, Hb2.out⟩
        · have d8 : decide (0 < h) = false := by simpa using dh
          have hu := Hu.out
          rw [show frameOdd 3 h e n t = false by simp [frameOdd, *]] at hu
          rw [if_neg (by decide)] at hu
          subst hu
          clear Hu
          go_wp2_with fail
          go_ret
          exact ⟨rfl, Hb2.out⟩
    · have d5 : decide (0 < e) = false := by simpa using de
      have hu := Hu.out
      rw [show frameOdd 3 h e n t = true by simp [frameOdd, *]] at hu
      rw [if_pos rfl] at hu
      subst hu
      clear Hu
      go_wp2_with fail
      go_ret
      exact ⟨rfl, Hb2.out⟩
end Go.Proofs.YtkhacogeffidoaaDoor

set_option linter.unusedVariables false
set_option linter.unusedSimpArgs false
namespace Go.Proofs.YtkhacogeffidoaaDoor.Uni
open Go.Lib

/-- a rune that may stand in a text -/
def vr (r : Nat) : Prop := r < 55296 ∨ (57344 ≤ r ∧ r ≤ 1114111)
instance (r : Nat) : Decidable (vr r) := by unfold vr; infer_instance
/-- its bytes -/
def encR (r : Nat) : List UInt8 := (Utf8.encode (r : Int)).data.toList
def encL (rs : List Nat) : List UInt8 := rs.flatMap encR
def enc (rs : List Nat) : ByteArray := ⟨(encL rs).toArray⟩
def decAll : Nat → List UInt8 → List Nat
  | 0, _ => []
  | f + 1, l => if l = [] then [] else (decodeL l).1 :: decAll f (l.drop (decodeL l).2)
/-- the runes of bytes -/
def dec (l : List UInt8) : List Nat := decAll l.length l

theorem valid_vr (r : Nat) (h : vr r) : Utf8.valid (r : Int) = true := by
  unfold vr at h
  simp only [Utf8.valid, Bool.or_eq_true, Bool.and_eq_true, decide_eq_true_eq]
  omega
theorem vr_of (r : Nat) (h : Utf8.valid (r : Int) = true) : vr r := by
  unfold vr
  simp only [Utf8.valid, Bool.or_eq_true, Bool.and_eq_true, decide_eq_true_eq] at h
  omega

set_option maxRecDepth 100000 in
theorem encR_cases (r : Nat) (h : vr r) :
    (r < 128 ∧ encR r = [UInt8.ofNat r]) ∨
    (128 ≤ r ∧ r < 2048 ∧ encR r = [UInt8.ofNat (192 + r / 64), UInt8.ofNat (128 + r % 64)]) ∨
    (2048 ≤ r ∧ r < 65536 ∧ encR r = [UInt8.ofNat (224 + r / 4096), UInt8.ofNat (128 + r / 64 % 64), UInt8.ofNat (128 + r % 64)]) ∨
    (65536 ≤ r ∧ encR r = [UInt8.ofNat (240 + r / 262144), UInt8.ofNat (128 + r / 4096 % 64), UInt8.ofNat (128 + r / 64 % 64), UInt8.ofNat (128 + r % 64)]) := by
  have hv := valid_vr r h
  unfold encR Utf8.encode
  rw [hv]
  simp only [if_true, Int.toNat_natCast]
  by_cases h1 : r < 128
  · left; refine ⟨h1, ?_⟩; rw [if_pos h1]
  · by_cases h2 : r < 2048
    · right; left; refine ⟨by omega, h2, ?_⟩; rw [if_neg h1, if_pos h2]
    · by_cases h3 : r < 65536
      · right; right; left; refine ⟨by omega, h3, ?_⟩; rw [if_neg h1, if_neg h2, if_pos h3]
      · right; right; right; refine ⟨by omega, ?_⟩; rw [if_neg h1, if_neg h2, if_neg h3]

theorem ofNat_lt (n : Nat) (h : n < 256) : (UInt8.ofNat n).toNat = n := by rw [UInt8.toNat_ofNat']; exact Nat.mod_eq_of_lt h

theorem dec_enc (r : Nat) (h : vr r) (t : List UInt8) : decodeL (encR r ++ t) = (r, (encR r).length) := by
  have hv : r < 55296 ∨ (57344 ≤ r ∧ r ≤ 1114111) := h
  rw [decodeL_N]
  rcases encR_cases r h with ⟨h1, e⟩ | ⟨h1, h2, e⟩ | ⟨h1, h2, e⟩ | ⟨h1, e⟩
  · rw [e]
    simp only [List.cons_append, List.nil_append, List.getD_cons_zero, List.getD_cons_succ, List.length_cons, List.length_nil]
    rw [ofNat_lt _ (by omega)]
    unfold decodeN
    rw [if_pos h1]
  · rw [e]
    simp only [List.cons_append, List.nil_append, List.getD_cons_zero, List.getD_cons_succ, List.length_cons, List.length_nil]
    rw [ofNat_lt (192 + r / 64) (by omega), ofNat_lt (128 + r % 64) (by omega)]
    unfold decodeN
    rw [if_neg (by omega), if_pos (by omega), if_pos (by omega)]
    exact Prod.ext (by show _ = r; omega) rfl
  · rw [e]
    simp only [List.cons_append, List.nil_append, List.getD_cons_zero, List.getD_cons_succ, List.length_cons, List.length_nil]
    rw [ofNat_lt (224 + r / 4096) (by omega), ofNat_lt (128 + r / 64 % 64) (by omega), ofNat_lt (128 + r % 64) (by omega)]
    unfold decodeN
    have e3 : (224 + r / 4096) % 16 * 4096 + (128 + r / 64 % 64) % 64 * 64 + (128 + r % 64) % 64 = r := by omega
    rw [if_neg (by omega), if_neg (by omega), if_pos (by omega), e3, if_pos (by omega)]
  · rw [e]
    simp only [List.cons_append, List.nil_append, List.getD_cons_zero, List.getD_cons_succ, List.length_cons, List.length_nil]
    rw [ofNat_lt (240 + r / 262144) (by omega), ofNat_lt (128 + r / 4096 % 64) (by omega), ofNat_lt (128 + r / 64 % 64) (by omega), ofNat_lt (128 + r % 64) (by omega)]
    unfold decodeN
    have e3 : (240 + r / 262144) % 8 * 262144 + (128 + r / 4096 % 64) % 64 * 4096 + (128 + r / 64 % 64) % 64 * 64 + (128 + r % 64) % 64 = r := by omega
    rw [if_neg (by omega), if_neg (by omega), if_neg (by omega), if_pos (by omega), e3, if_pos (by omega)]

theorem encR_len (r : Nat) (h : vr r) : 1 ≤ (encR r).length ∧ (encR r).length ≤ 4 := by
  rcases encR_cases r h with ⟨_, e⟩ | ⟨_, _, e⟩ | ⟨_, _, e⟩ | ⟨_, e⟩ <;> rw [e] <;> simp
theorem encR_bad (r : Nat) (h : vr r) : ¬ (r = 65533 ∧ (encR r).length = 1) := by
  rintro ⟨rfl, h1⟩
  rcases encR_cases 65533 h with ⟨h2, _⟩ | ⟨_, h2, _⟩ | ⟨_, _, e⟩ | ⟨h2, _⟩
  · omega
  · omega
  · rw [e] at h1; simp at h1
  · omega
theorem encL_nil : encL [] = [] := rfl
theorem encL_cons (r : Nat) (rs : List Nat) : encL (r :: rs) = encR r ++ encL rs := by simp [encL]
theorem encL_append (a b : List Nat) : encL (a ++ b) = encL a ++ encL b := by simp [encL]

theorem validD_enc (rs : List Nat) (h : ∀ r ∈ rs, vr r) (t : List UInt8) : validD (encL rs ++ t) = validD t := by
  induction rs with
  | nil => rfl
  | cons r rs ih =>
    have hr := h r (by simp)
    have hl := encR_len r hr
    rw [encL_cons, List.append_assoc, validD_step _ (by intro e; have h9 := congrArg List.length e; rw [List.length_append, List.length_nil] at h9; omega), dec_enc r hr, if_neg (encR_bad r hr)]
    simp only [List.drop_left]
    exact ih fun x hx => h x (by simp [hx])

theorem decAll_fuel : ∀ (n m : Nat) (l : List UInt8), l.length ≤ n → l.length ≤ m → decAll n l = decAll m l
  | 0, m, l, hn, _ => by
    obtain rfl : l = [] := List.eq_nil_of_length_eq_zero (by omega)
    cases m <;> simp [decAll]
  | n + 1, 0, l, _, hm => by
    obtain rfl : l = [] := List.eq_nil_of_length_eq_zero (by omega)
    simp [decAll]
  | n + 1, m + 1, l, hn, hm => by
    unfold decAll
    by_cases hne : l = []
    · simp [hne]
    · have hw := decodeL_width l
      have hl : 0 < l.length := List.length_pos_iff.2 hne
      rw [if_neg hne, if_neg hne, decAll_fuel n m (l.drop (decodeL l).2) (by rw [List.length_drop]; omega) (by rw [List.length_drop]; omega)]
theorem dec_step (l : List UInt8) (hne : l ≠ []) : dec l = (decodeL l).1 :: dec (l.drop (decodeL l).2) := by
  have hl : 0 < l.length := List.length_pos_iff.2 hne
  have hw := decodeL_width l
  obtain ⟨n, hn⟩ : ∃ n, l.length = n + 1 := ⟨l.length - 1, by omega⟩
  unfold dec
  rw [hn]
  show (if l = [] then [] else _) = _
  rw [if_neg hne, decAll_fuel n (l.drop (decodeL l).2).length _ (by rw [List.length_drop]; omega) (Nat.le_refl _)]
theorem dec_encL (rs : List Nat) (h : ∀ r ∈ rs, vr r) (t : List UInt8) : dec (encL rs ++ t) = rs ++ dec t := by
  induction rs with
  | nil => rfl
  | cons r rs ih =>
    have hr := h r (by simp)
    have hl := encR_len r hr
    rw [encL_cons, List.append_assoc, dec_step _ (by intro e; have h9 := congrArg List.length e; rw [List.length_append, List.length_nil] at h9; omega), dec_enc r hr]
    simp only [List.drop_left, List.cons_append]
    rw [ih fun x hx => h x (by simp [hx])]
theorem dec_nil : dec [] = [] := rfl
theorem dec_enc_all (rs : List Nat) (h : ∀ r ∈ rs, vr r) : dec (encL rs) = rs := by
  have := dec_encL rs h []
  simpa [dec_nil] using this
theorem valid_encL (rs : List Nat) (h : ∀ r ∈ rs, vr r) : validD (encL rs) = true := by
  have := validD_enc rs h []
  simpa [validD_nil] using this

theorem decode_vr (l : List UInt8) (hv : ¬ ((decodeL l).1 = 65533 ∧ (decodeL l).2 = 1)) : vr (decodeL l).1 := by
  rw [decodeL_N] at hv
  rw [decodeL_N]
  have h0 := (l.getD 0 0).toNat_lt
  have h1 := (l.getD 1 0).toNat_lt
  have h2 := (l.getD 2 0).toNat_lt
  have h3 := (l.getD 3 0).toNat_lt
  generalize (l.getD 0 0).toNat = b0 at *
  generalize (l.getD 1 0).toNat = b1 at *
  generalize (l.getD 2 0).toNat = b2 at *
  generalize (l.getD 3 0).toNat = b3 at *
  unfold decodeN at hv ⊢
  unfold vr
  repeat' split
  all_goals (first | (simp only; omega) | (exfalso; revert hv; simp; done))
set_option maxRecDepth 100000 in
theorem encode_same (r : Nat) (h : vr r) : encodeRune (r : Int) = encR r := by
  have hv : r < 55296 ∨ (57344 ≤ r ∧ r ≤ 1114111) := h
  have e (n : Nat) : (Int.toNat ((n : Nat) : Int)).toUInt8 = UInt8.ofNat n := rfl
  unfold encodeRune encodeRuneZ
  rcases encR_cases r h with ⟨h1, e1⟩ | ⟨h1, h2, e1⟩ | ⟨h1, h2, e1⟩ | ⟨h1, e1⟩
  · rw [if_pos (by omega), e1]; rfl
  · rw [if_neg (by omega), if_pos (by omega), e1]
    rw [show (192 + (r : Int) / 64) = ((192 + r / 64 : Nat) : Int) from by simp only [Int.natCast_add, Int.natCast_ediv, Int.natCast_emod]; rfl, show (128 + (r : Int) % 64) = ((128 + r % 64 : Nat) : Int) from by simp only [Int.natCast_add, Int.natCast_ediv, Int.natCast_emod]; rfl]
    rfl
  · rw [if_neg (by omega), if_neg (by omega), if_pos (by omega), e1]
    rw [show (224 + (r : Int) / 4096) = ((224 + r / 4096 : Nat) : Int) from by simp only [Int.natCast_add, Int.natCast_ediv, Int.natCast_emod]; rfl, show (128 + (r : Int) / 64 % 64) = ((128 + r / 64 % 64 : Nat) : Int) from by simp only [Int.natCast_add, Int.natCast_ediv, Int.natCast_emod]; rfl, show (128 + (r : Int) % 64) = ((128 + r % 64 : Nat) : Int) from by simp only [Int.natCast_add, Int.natCast_ediv, Int.natCast_emod]; rfl]
    rfl
  · rw [if_neg (by omega), if_neg (by omega), if_neg (by omega), if_pos (by omega), e1]
    rw [show (240 + (r : Int) / 262144) = ((240 + r / 262144 : Nat) : Int) from by simp only [Int.natCast_add, Int.natCast_ediv, Int.natCast_emod]; rfl, show (128 + (r : Int) / 4096 % 64) = ((128 + r / 4096 % 64 : Nat) : Int) from by simp only [Int.natCast_add, Int.natCast_ediv, Int.natCast_emod]; rfl, show (128 + (r : Int) / 64 % 64) = ((128 + r / 64 % 64 : Nat) : Int) from by simp only [Int.natCast_add, Int.natCast_ediv, Int.natCast_emod]; rfl, show (128 + (r : Int) % 64) = ((128 + r % 64 : Nat) : Int) from by simp only [Int.natCast_add, Int.natCast_ediv, Int.natCast_emod]; rfl]
    rfl
theorem enc_dec (n : Nat) : ∀ (l : List UInt8), l.length ≤ n → validD l = true → encL (dec l) = l ∧ ∀ r ∈ dec l, vr r := by
  induction n with
  | zero =>
    intro l hl _
    obtain rfl : l = [] := List.eq_nil_of_length_eq_zero (by omega)
    exact ⟨rfl, by simp [dec_nil]⟩
  | succ n ih =>
    intro l hl hv
    by_cases hne : l = []
    · subst hne; exact ⟨rfl, by simp [dec_nil]⟩
    · have hw := decodeL_width l
      have hp : 0 < l.length := List.length_pos_iff.2 hne
      rw [validD_step l hne] at hv
      by_cases hb : (decodeL l).1 = 65533 ∧ (decodeL l).2 = 1
      · rw [if_pos hb] at hv; cases hv
      · rw [if_neg hb] at hv
        obtain ⟨h1, h2⟩ := ih (l.drop (decodeL l).2) (by rw [List.length_drop]; omega) hv
        rw [dec_step l hne, encL_cons, h1, ← encode_same _ (decode_vr l hb), encode_decode l hne hb]
        refine ⟨List.take_append_drop _ _, fun r hr => ?_⟩
        rcases List.mem_cons.1 hr with rfl | hr
        · exact decode_vr l hb
        · exact h2 r hr
theorem enc_dec_all (l : List UInt8) (h : validD l = true) : encL (dec l) = l ∧ ∀ r ∈ dec l, vr r := enc_dec l.length l (Nat.le_refl _) h

theorem count_from (s : ByteArray) : ∀ (f pos : Nat), runeCountFrom s f pos = (decAll f (s.data.toList.drop pos)).length
  | 0, _ => rfl
  | f + 1, pos => by
    unfold runeCountFrom decAll
    by_cases h : pos < s.size
    · have hne : s.data.toList.drop pos ≠ [] := by
        intro e; have := congrArg List.length e; rw [List.length_drop] at this; simp at this
        have : s.size = s.data.size := rfl
        omega
      rw [if_pos h, if_neg hne, decodeL_drop, count_from s f, List.drop_drop, List.length_cons]
      omega
    · have he : s.data.toList.drop pos = [] := List.drop_eq_nil_of_le (by have : s.size = s.data.size := rfl; simp; omega)
      rw [if_neg h, if_pos he]; rfl
theorem count_dec (s : ByteArray) : runeCount s = (dec s.data.toList).length := by
  unfold runeCount dec
  rw [count_from, List.drop_zero]
  rfl
theorem runesFrom_dec (s : ByteArray) : ∀ (f pos : Nat) (acc : Array Value), Conv.runesFrom s f pos acc = acc ++ ((decAll f (s.data.toList.drop pos)).map fun r : Nat => Value.int .i32 ((r : Nat) : Int)).toArray
  | 0, _, acc => by simp [Conv.runesFrom, decAll]
  | f + 1, pos, acc => by
    unfold Conv.runesFrom decAll
    by_cases h : pos < s.size
    · have hne : s.data.toList.drop pos ≠ [] := by
        intro e; have := congrArg List.length e; rw [List.length_drop] at this; simp at this
        have : s.size = s.data.size := rfl
        omega
      rw [if_pos h, if_neg hne, decodeL_drop]
      simp only
      rw [runesFrom_dec s f, List.drop_drop]
      simp
    · have he : s.data.toList.drop pos = [] := List.drop_eq_nil_of_le (by have : s.size = s.data.size := rfl; simp; omega)
      rw [if_neg h, if_pos he]; simp
end Go.Proofs.YtkhacogeffidoaaDoor.Uni

set_option linter.unusedVariables false
set_option linter.unusedSimpArgs false
namespace Go.Proofs.YtkhacogeffidoaaDoor
open Go.RowKit

def pk (n m : Int) : Int := if n < 0 then (-(n + 1)) % m else n % m
theorem pk_range (n m : Int) (hm : 1 ≤ m) : 0 ≤ pk n m ∧ pk n m < m := by
  unfold pk
  split
  · exact ⟨Int.emod_nonneg _ (by omega), Int.emod_lt_of_pos _ (by omega)⟩
  · exact ⟨Int.emod_nonneg _ (by omega), Int.emod_lt_of_pos _ (by omega)⟩

set_option maxHeartbeats 400000 in
theorem picked_any (n m : Int) (w : World) (hn : I64 n) (hm : 1 ≤ m) (hm' : m ≤ 9223372036854775807) :
    Calls Tryd.prog 14 #[.int .i64 n, .int .i64 m] w fun e w' => e = .returned (.int .i64 (pk n m)) ∧ w = w' := by
  unfold I64 at hn
  by_cases h : n < 0
  · have h1 : 0 ≤ -(n+1) := by omega
    go_enter Tryd.func14, Tryd.ntmps14
    go_wp2
    go_ret
    refine ⟨?_, rfl⟩
    show Ending.returned (.int .i64 (-((n + 1).tmod m))) = _
    rw [pk, if_pos h, ← Int.neg_tmod, Int.tmod_eq_emod_of_nonneg h1]
  · go_enter Tryd.func14, Tryd.ntmps14
    go_wp2
    go_ret
    exact ⟨by rw [pk, if_neg (by omega)]; rfl, rfl⟩

end Go.Proofs.YtkhacogeffidoaaDoor

set_option linter.unusedVariables false
set_option linter.unusedSimpArgs false
namespace Go.Proofs.YtkhacogeffidoaaDoor
open Go.RowKit

/-- the rune that letters makes of a byte -/
def lt (c : Nat) : Nat := if c % 8 = 6 then 224 + c / 8 else if c % 8 = 7 then 128512 + c / 8 else 97 + c / 8
def lets (s : Str) (most : Nat) : List Nat := (s.data.toList.take most).map fun c => lt c.toNat
def letters (s : Str) (most : Nat) : Str := Uni.enc (lets s most)
theorem lt_vr (c : Nat) (h : c < 256) : Uni.vr (lt c) := by
  unfold lt Uni.vr; (repeat' split) <;> omega
theorem take_next' (s : Str) (k : Nat) (h : k < s.size) : s.data.toList.take (k + 1) = s.data.toList.take k ++ [s[k]] := by
  rw [List.take_succ_eq_append_getElem (by simpa using h)]; rfl
theorem lets_vr (s : Str) (m : Nat) : ∀ r ∈ lets s m, Uni.vr r := by
  intro r hr
  simp only [lets, List.mem_map] at hr
  obtain ⟨c, _, rfl⟩ := hr
  exact lt_vr _ c.toNat_lt
theorem lets_len (s : Str) (m : Nat) : (lets s m).length = min m s.size := by
  simp [lets]
theorem rc_enc (rs : List Nat) (h : ∀ r ∈ rs, Uni.vr r) : rc (Uni.enc rs) = rs.length := by
  unfold rc Uni.enc
  rw [Uni.count_dec]
  simp only
  rw [Uni.dec_enc_all rs h]
theorem valid_enc (rs : List Nat) (h : ∀ r ∈ rs, Uni.vr r) : valid (Uni.enc rs) = true := by
  unfold valid Uni.enc
  exact Uni.valid_encL rs h
theorem encL_size (rs : List Nat) (h : ∀ r ∈ rs, Uni.vr r) : (Uni.encL rs).length ≤ rs.length * 4 := by
  induction rs with
  | nil => simp [Uni.encL]
  | cons r rs ih =>
    rw [Uni.encL_cons, List.length_append, List.length_cons]
    have h1 := Uni.encR_len r (h r (by simp))
    have h2 := ih fun x hx => h x (by simp [hx])
    omega
theorem enc_size (rs : List Nat) (h : ∀ r ∈ rs, Uni.vr r) : (Uni.enc rs).size ≤ rs.length * 4 := by
  have := encL_size rs h
  show (Uni.encL rs).toArray.size ≤ _
  simpa using this
set_option maxRecDepth 100000 in
/-- the walk's own word for the bytes of runes -/
theorem runesBytes_enc (rs : List Nat) : runesBytes (rs.map fun r : Nat => (r : Int)) = Uni.enc rs := by
  have key : ∀ (rs : List Nat) (s : ByteArray), (rs.map fun r : Nat => (r : Int)).foldl (fun s n => s ++ Utf8.encode n) s = s ++ Uni.enc rs := by
    intro rs
    induction rs with
    | nil => intro s; apply ByteArray.ext; simp [Uni.enc, Uni.encL]
    | cons r rs ih =>
      intro s
      simp only [List.map_cons, List.foldl_cons]
      rw [ih]
      apply ByteArray.ext
      apply Array.ext'
      simp [Uni.enc, Uni.encL_cons, Uni.encR, ByteArray.data_append]
  unfold runesBytes
  rw [key]
  apply ByteArray.ext
  simp

theorem infoR : (Tryd.prog.info? 21).map (fun i => (i.zero, i.size, i.bytes)) = some (some (.int .i32 0), 1, 4) := by kernel_rfl

set_option maxHeartbeats 400000 in
theorem runes_any (s : Str) (w : World) (hs : s.size ≤ 70368744177664) :
    Calls Tryd.prog 30 #[.string s] w fun e w' => e = .returned (.int .i64 (rc s)) ∧ Below w.heap.size w w' := by
  have hcv := fun W : World => run_runes_of_string (P := Tryd.prog) W 9 90 21 s Tryd.underlying9 Tryd.underlying90 Tryd.underlying21
    (by have h := Uni.runesFrom_dec s s.size 0 #[]; rw [h]; have h2 := Uni.count_dec s; have h3 := Lib.runeCount_le s; simp only [List.drop_zero]; simp [Uni.dec] at h2 ⊢; omega)
  have hlen : (Conv.runesFrom s s.size 0 #[]).size = Lib.runeCount s := by
    rw [Uni.runesFrom_dec, Uni.count_dec]; simp [Uni.dec]
  rw [hlen] at hcv
  have Hl := Lib.hid hlen
  clear hlen
  generalize Conv.runesFrom s s.size 0 #[] = R at *
  unfold rc
  generalize Lib.runeCount s = k at *
  go_enter Tryd.func30, Tryd.ntmps30
  go_wp2_with fail
  go_ret
  exact ⟨rfl, by (repeat (first | exact Below.refl _ _ | assumption | (refine Below.drew ?_) | (refine below_drewN ?_ _) | (refine Below.alloc ?_ (by first | (simp; done) | (simp; omega) | omega) _) | (refine Below.setCell ?_ (by first | (simp; done) | (simp; omega) | omega) _) | (refine Below.trans ?_ (Below.mono (by assumption) (by first | (simp; done) | (simp; omega) | omega)))))⟩

theorem lets_next (s : Str) (k : Nat) (h : k < s.size) : lets s (k + 1) = lets s k ++ [lt s[k].toNat] := by
  unfold lets
  rw [take_next' s k h, List.map_append]; rfl
/-- runes in a row of the call's own, as a string -/
theorem conv_own {W : World} {B k c : Nat} {a : Option Addr} {rs : List Nat} (h : W.ownsRow B 21 1 (.slice a k c) k (rs.map fun r : Nat => .int .i32 (r : Int))) :
    (convert 90 9 (.slice a k c)).run Tryd.prog W = .ok (.string (Uni.enc rs)) W := by
  have hk : rs.length = k := by have := h.1; simpa using this
  rcases h.2 with ⟨hv, h0⟩ | ⟨g, cap, cur, hv, _⟩
  · have h1 : a = none := (Value.slice.injEq .. ▸ hv : a = none ∧ k = 0 ∧ c = 0).1
    subst h1
    have hr : rs = [] := List.eq_nil_of_length_eq_zero (by omega)
    subst hr
    have e : Uni.enc [] = ByteArray.empty := rfl
    rw [e]
    exact run_convert_runes_nil W _ _ _ _ _ Tryd.underlying90 Tryd.underlying21 Tryd.underlying9
  · have hc := h.cells (g := g) (by rw [hv]; rfl)
    have h1 : a = some ⟨g, 0, none⟩ := (Value.slice.injEq .. ▸ hv : a = some ⟨g, 0, none⟩ ∧ k = k ∧ c = cap).1
    subst h1
    have hz : ∀ j, j < (rs.map fun r : Nat => (r : Int)).length → W.cell? ((⟨g, 0, none⟩ : Addr).add j) = some (.int .i32 ((rs.map fun r : Nat => (r : Int)).getD j 0)) := by
      intro j hj
      refine hc j _ ?_
      simp only [List.length_map] at hj
      simp [List.getD, List.getElem?_eq_getElem hj]
    have hr := run_convert_runes W _ _ _ _ k c (rs.map fun r : Nat => (r : Int)) (by simp; omega) Tryd.underlying90 Tryd.underlying21 Tryd.underlying9 hz
    rw [List.take_of_length_le (by simp; omega), runesBytes_enc] at hr
    exact hr

set_option maxRecDepth 100000 in
set_option maxHeartbeats 2000000 in
theorem letters_any (s : Str) (m : Nat) (w : World) (hs : s.size ≤ maxLen) (hm : m ≤ 1000000) :
    Calls Tryd.prog 31 #[.string s, .int .i64 m] w fun e w' => e = .returned (.string (letters s m)) ∧ Below w.heap.size w w' := by
  obtain ⟨i0, hi, hz0, hz1, hz2⟩ := info_parts infoR
  unfold maxLen at hs
  go_enter Tryd.func31, Tryd.ntmps31
  go_wp2_with fail
  go_loopw [5, 6] (fun v i wr => ∃ k : Nat, k ≤ s.size ∧ k ≤ m ∧ i = .int .i64 k ∧ wr.ownsRow w.heap.size 21 1 v k ((lets s k).map fun r : Nat => .int .i32 (r : Int)) ∧ Below w.heap.size w wr) (fun _ i _ => s.size - (intOf i).toNat)
  case atStart => exact ⟨0, by omega, by omega, rfl, World.ownsRow_nil _ _ _ _, Below.refl _ _⟩
  case round =>
    obtain ⟨k, hk, hkm, rfl, hown, hb⟩ := hrel
    obtain ⟨ta, tc, rfl⟩ : ∃ ta tc, u5 = .slice ta k tc := by
      rcases hown.2 with ⟨h, h0⟩ | ⟨g, cap, cur, hv, _⟩
      · exact ⟨none, 0, by rw [h, h0]⟩
      · exact ⟨_, _, hv⟩
    by_cases hgo : k < s.size ∧ k < m
    · obtain ⟨hlt, hltm⟩ := hgo
      have hnx := lets_next s k hlt
      have Hb8 := Lib.hid s[k].toNat_lt
      have Hnx := Lib.hid hnx
      clear hnx
      by_cases h6 : s[k].toNat % 8 = 6
      · have b6 : ((s[k].toNat : Int) % 8 == 6) = true := by simp; omega
        have Hval : Hid ( 224 + (s[k].toNat : Int) / 8 % 256 = ((lt s[k].toNat : Nat) : Int) ) := by unfold Hid; have h8 := Hb8.out; unfold lt; rw [if_pos h6]; omega
        clear h6
        go_wp2_with (at_builtin; refine wpList_append_own _ rfl _ _ 90 rfl w.heap.size 21 i0 (.int .i32 0) 1 4 Tryd.underlying90 hi hz0 hz1 hz2 rfl (by decide) _ _ _ rfl (hown.alloc _) ⟨wr.heap.size, 0, none⟩ 1 1 [.int .i32 (224 + (s[k].toNat : Int) / 8 % 256)] rfl rfl ?c1 ?c2 ?c3 ?c4 ?c5 ?_)
        case c1 => exact cell_one_new _ _ _
        case c2 => intro u hu; simp at hu; subst hu; rfl
        case c3 => unfold maxLen; omega
        case c4 => omega
        case c5 => have := hb.size; simp; omega
        intro v' w1 hown' hgrow _
        go_wp2
        go_roundw
        case rel =>
          refine ⟨k + 1, by omega, by omega, by go_num, ?_, ?_⟩
          · rw [Hnx.out, List.map_append, List.map_cons, List.map_nil, ← Hval.out]; exact hown'
          · exact (hb.alloc hb.size _).grown hgrow (by have := hb.size; simp; omega) (fun g hg => (hown.lt g hg).1)
        case measure => simp [intOf]; omega
      · by_cases h7 : s[k].toNat % 8 = 7
        · have b6 : ((s[k].toNat : Int) % 8 == 6) = false := by simp; omega
          have b7 : ((s[k].toNat : Int) % 8 == 7) = true := by simp; omega
          have Hval : Hid ( 128512 + (s[k].toNat : Int) / 8 % 256 = ((lt s[k].toNat : Nat) : Int) ) := by unfold Hid; have h8 := Hb8.out; unfold lt; rw [if_neg h6, if_pos h7]; omega
          clear h6 h7
          go_wp2_with (at_builtin; refine wpList_append_own _ rfl _ _ 90 rfl w.heap.size 21 i0 (.int .i32 0) 1 4 Tryd.underlying90 hi hz0 hz1 hz2 rfl (by decide) _ _ _ rfl (hown.alloc _) ⟨wr.heap.size, 0, none⟩ 1 1 [.int .i32 (128512 + (s[k].toNat : Int) / 8 % 256)] rfl rfl ?c1 ?c2 ?c3 ?c4 ?c5 ?_)
          case c1 => exact cell_one_new _ _ _
          case c2 => intro u hu; simp at hu; subst hu; rfl
          case c3 => unfold maxLen; omega
          case c4 => omega
          case c5 => have := hb.size; simp; omega
          intro v' w1 hown' hgrow _
          go_wp2
          go_roundw
          case rel =>
            refine ⟨k + 1, by omega, by omega, by go_num, ?_, ?_⟩
            · rw [Hnx.out, List.map_append, List.map_cons, List.map_nil, ← Hval.out]; exact hown'
            · exact (hb.alloc hb.size _).grown hgrow (by have := hb.size; simp; omega) (fun g hg => (hown.lt g hg).1)
          case measure => simp [intOf]; omega
        · have b6 : ((s[k].toNat : Int) % 8 == 6) = false := by simp; omega
          have b7 : ((s[k].toNat : Int) % 8 == 7) = false := by simp; omega
          have Hval : Hid ( 97 + (s[k].toNat : Int) / 8 % 256 = ((lt s[k].toNat : Nat) : Int) ) := by unfold Hid; have h8 := Hb8.out; unfold lt; rw [if_neg h6, if_neg h7]; omega
          clear h6 h7
          go_wp2_with (at_builtin; refine wpList_append_own _ rfl _ _ 90 rfl w.heap.size 21 i0 (.int .i32 0) 1 4 Tryd.underlying90 hi hz0 hz1 hz2 rfl (by decide) _ _ _ rfl (hown.alloc _) ⟨wr.heap.size, 0, none⟩ 1 1 [.int .i32 (97 + (s[k].toNat : Int) / 8 % 256)] rfl rfl ?c1 ?c2 ?c3 ?c4 ?c5 ?_)
          case c1 => exact cell_one_new _ _ _
          case c2 => intro u hu; simp at hu; subst hu; rfl
          case c3 => unfold maxLen; omega
          case c4 => omega
          case c5 => have := hb.size; simp; omega
          intro v' w1 hown' hgrow _
          go_wp2
          go_roundw
          case rel =>
            refine ⟨k + 1, by omega, by omega, by go_num, ?_, ?_⟩
            · rw [Hnx.out, List.map_append, List.map_cons, List.map_nil, ← Hval.out]; exact hown'
            · exact (hb.alloc hb.size _).grown hgrow (by have := hb.size; simp; omega) (fun g hg => (hown.lt g hg).1)
          case measure => simp [intOf]; omega
    · have hk2 : k = min m s.size := by omega
      have hfin : lets s k = lets s m := by
        unfold lets
        rw [hk2, List.take_eq_take_iff.2]
        have : s.data.toList.length = s.size := by simp
        omega
      rw [hfin] at hown
      have hcv := conv_own hown
      have Hfin : Hid (Ending.returned (.string (Uni.enc (lets s m))) = Ending.returned (.string (letters s m))) := rfl
      clear hfin hown hk2
      generalize Uni.enc (lets s m) = T at *
      by_cases hlt : k < s.size
      · have hltm : ¬ k < m := fun h => hgo ⟨hlt, h⟩
        clear hgo
        go_wp2_with fail
        go_ret
        exact ⟨Hfin.out, hb⟩
      · clear hgo
        go_wp2_with fail
        go_ret
        exact ⟨Hfin.out, hb⟩
end Go.Proofs.YtkhacogeffidoaaDoor

set_option linter.unusedVariables false
set_option linter.unusedSimpArgs false
namespace Go.Proofs.YtkhacogeffidoaaDoor
open Go.RowKit

def triv (p : Part) : Bool := (decide (p.kind ≠ 2) && decide (p.n = 0)) || (decide (p.kind = 2) && emptyS p.text)
/-- add a part to parts, the last one first -/
def addR : List Part → Part → List Part
  | [], p => if triv p then [] else [p]
  | q :: r, p => if triv p then q :: r else if q.kind = p.kind then ⟨q.kind, q.n + p.n, q.text ++ p.text⟩ :: r else if p.kind = 2 ∧ q.kind = 3 then q :: addR r p else p :: q :: r
/-- numbers and texts that leave room -/
structure Mild (p : Part) : Prop where
  k : 0 ≤ p.kind ∧ p.kind ≤ 1000
  n : 0 ≤ p.n ∧ p.n ≤ 1000000000000
  t : p.text.size ≤ 1000000000000
theorem infoP : (Tryd.prog.info? 110).map (fun i => (i.zero, i.size, i.bytes)) = some (some (.agg #[.int .i64 0, .int .i64 0, .string ByteArray.empty]), 3, 32) := by kernel_rfl

def AddPost (T B b : Nat) (v : Value) (ex : List Value) (r : List Part) (w : World) (e : Ending) (w' : World) : Prop :=
  ∃ v', e = .returned (.tuple #[]) ∧ Bag T B b v' ex r.reverse w' ∧ Touch (Bag.S b v) w w' ∧ (v'.ownBlock = v.ownBlock ∨ ∀ g, v'.ownBlock = some g → w.heap.size ≤ g)

set_option maxHeartbeats 2000000 in
theorem add_triv (B b : Nat) (v : Value) (left : Int) (r : List Part) (p : Part) (w : World) (hm : Mild p) (hl : r.length ≤ 1000000000000) (ht : triv p = true)
    (hbag : Bag 115 B b v [.int .i64 left] r.reverse w) :
    Calls Tryd.prog 56 #[.pointer (some ⟨b, 0, none⟩), .agg #[.int .i64 p.kind, .int .i64 p.n, .string p.text]] w (AddPost 115 B b v [.int .i64 left] (addR r p) w) := by
  have he : addR r p = r := by cases r <;> simp [addR, ht]
  rw [he]
  clear he
  obtain ⟨a, c, hv⟩ := hbag.form
  have hlt := hbag.lt
  have hc0 := hbag.cell 0
  have hc1 := hbag.cell 1
  simp only [List.getElem?_cons_zero, List.getElem?_cons_succ] at hc0 hc1
  obtain ⟨pk, pn, pt⟩ := p
  have hfin : AddPost 115 B b v [.int .i64 left] r w (.returned (.tuple #[])) (w.alloc (.cells #[.int .i64 pk, .int .i64 pn, .string pt] 110)) :=
    ⟨v, rfl, hbag.keep fun k hk => Below.heap_alloc w _ k (by
      rcases hk with rfl | hk
      · exact hlt
      · exact (hbag.rowlt k hk).2), (Touch.refl _ _).alloc _, .inl rfl⟩
  have Hfin := Lib.hid hfin
  rw [hv] at hc0
  clear hfin hbag hv
  simp only [List.length_reverse] at hc0
  simp only [triv] at ht
  by_cases h2 : pk = 2
  · subst h2
    have he : pt.toList.isEmpty = true := by simpa [emptyS] using ht
    clear ht
    go_enter Tryd.func56, Tryd.ntmps56
    go_wp2_with fail
    go_end0
    exact Hfin.out
  · have h3 : (pk != 2) = true := by simpa using h2
    have h4 : (pn == 0) = true := by simpa [h2] using ht
    clear ht h2
    go_enter Tryd.func56, Tryd.ntmps56
    go_wp2_with fail
    go_end0
    exact Hfin.out

theorem add_fin {T B b : Nat} {v : Value} {a : Option Addr} {n c gg cap : Nat} {ex : List Value} {r : List Part} {w W w1 : World} (hbase : B ≤ b) (hv : v = .slice a n c) (hblk : w.heap[b]? = some (.cells (v :: ex).toArray T (0, 0)))
    (hbk1 : w1.heap[b]? = w.heap[b]?) (hown1 : w1.ownsRow B 110 3 (.slice (some ⟨gg, 0, none⟩) r.length cap) r.length (flat r.reverse)) (ht : Touch (Bag.S b v) w W) (hgrow : W.grownBy w1 (Value.slice a n c).ownBlock)
    (hat : (Value.slice a n c).ownBlock = some gg ∨ w.heap.size ≤ gg) (hT : T ≠ 110 := by decide) :
    AddPost T B b v ex r w (.returned (.tuple #[])) (w1.setCell ⟨b, 0, none⟩ (.slice (some ⟨gg, 0, none⟩) r.length cap)) := by
  subst hv
  refine ⟨_, rfl, Bag.put hbase (hbk1.trans hblk) (by simpa using hown1) hT, ?_, ?_⟩
  · exact (ht.grown hgrow (fun k hk => .inl (.inr hk))).setCell (p := ⟨b, 0, none⟩) (.inl (.inl rfl)) _
  · rcases hat with h | h
    · exact .inl h.symm
    · exact .inr fun g hg => by simp [Value.ownBlock] at hg; omega

set_option maxRecDepth 100000 in
set_option maxHeartbeats 2000000 in
theorem add_empty (B b : Nat) (v : Value) (left : Int) (p : Part) (w : World) (hm : Mild p) (ht : triv p = false)
    (hbag : Bag 115 B b v [.int .i64 left] [] w) :
    Calls Tryd.prog 56 #[.pointer (some ⟨b, 0, none⟩), .agg #[.int .i64 p.kind, .int .i64 p.n, .string p.text]] w (AddPost 115 B b v [.int .i64 left] [p] w) := by
  obtain ⟨i0, hi, hz0, hz1, hz2⟩ := info_parts infoP
  obtain ⟨a, c, hv⟩ := hbag.form
  have hlt := hbag.lt
  have hc0 := hbag.cell 0
  have hc1 := hbag.cell 1
  have hf0 := hbag.frozen 0
  simp only [List.getElem?_cons_zero, List.getElem?_cons_succ, List.length_nil] at hc0 hc1 hv
  rw [hv] at hc0
  have hown := hbag.own
  have hbase := hbag.base
  simp only [List.length_nil] at hown
  rw [hv] at hown
  have hrow := hbag.rowlt
  obtain ⟨pk, pn, pt⟩ := p
  simp only [triv] at ht
  have Hbag := Lib.hid hbag
  have Hv := Lib.hid hv
  clear hbag hv
  have hne : b ≠ w.heap.size := by omega
  have Hrow := Lib.hid hrow
  clear hrow
  have Hne : Hid ((Value.slice a 0 c).ownBlock ≠ some b) := by unfold Hid; rw [← Hv.out]; exact Hbag.out.ne
  have Hnw : Hid ((Value.slice a 0 c).ownBlock ≠ some w.heap.size) := by unfold Hid; rw [← Hv.out]; intro e; have := Hrow.out _ e; omega
  by_cases h2 : pk = 2
  · subst h2
    have he : pt.toList.isEmpty = false := by simpa [emptyS] using ht
    clear ht
    go_enter Tryd.func56, Tryd.ntmps56
    go_wp2_with fail
    go_quiet (fail)
    go_wp2_with fail
    go_region_law (((first | (refine step_append_lies _ (by rfl) _ _ _ (by rfl) B 110 i0 _ 3 32 Tryd.underlying28 hi hz0 hz1 hz2 rfl (by omega) (.slice a 0 c) 0 [] (by rfl) ((ownsRow_drewN (hown.alloc _) _).alloc _) ⟨w.heap.size + 1, 0, none⟩ 1 1 [.int .i64 2, .int .i64 pn, .string pt] (by rfl) (by rfl) (news_at (heap_new_at _ _ _ (by simp))) (by simp [Value.oneCell']) (by omega) (by unfold maxLen; omega) (by omega) (by simp; omega) (w.heap.size + 2) (by simp) ?_; intro gg cap w1 hown1 hgrow hat hlt1; have hbk1 : w1.heap[b]? = w.heap[b]? := (hgrow.block b (by simp; omega) (Ne.symm Hne.out)).trans ((Below.heap_alloc _ _ b (by simp; omega)).trans (Below.heap_alloc w _ b hlt)); have hf1 : w1.frozen? ⟨b, 0, none⟩ = false := (World.frozen?_of_block (a := ⟨b, 0, none⟩) hbk1).trans hf0; have hd1 := (cell_keep (o := 0) hbk1).trans hc0))))
    all_goals
      (try go_wp2_with fail)
      go_end0
      exact add_fin hbase Hv.out Hbag.out.blk hbk1 hown1 ((((Touch.refl _ w).alloc _).drewN _).alloc _) hgrow (hat.imp_right (fun h => by omega))
  · have h3 : (pk != 2) = true := by simpa using h2
    have h3' : (pk == 2) = false := by simpa using h2
    have h4 : (pn == 0) = false := by simpa [h2] using ht
    clear ht h2
    go_enter Tryd.func56, Tryd.ntmps56
    go_wp2_with fail
    go_quiet (fail)
    go_wp2_with fail
    go_region_law (((first | (refine step_append_lies _ (by rfl) _ _ _ (by rfl) B 110 i0 _ 3 32 Tryd.underlying28 hi hz0 hz1 hz2 rfl (by omega) (.slice a 0 c) 0 [] (by rfl) ((ownsRow_drewN (hown.alloc _) _).alloc _) ⟨w.heap.size + 1, 0, none⟩ 1 1 [.int .i64 pk, .int .i64 pn, .string pt] (by rfl) (by rfl) (news_at (heap_new_at _ _ _ (by simp))) (by simp [Value.oneCell']) (by omega) (by unfold maxLen; omega) (by omega) (by simp; omega) (w.heap.size + 2) (by simp) ?_; intro gg cap w1 hown1 hgrow hat hlt1; have hbk1 : w1.heap[b]? = w.heap[b]? := (hgrow.block b (by simp; omega) (Ne.symm Hne.out)).trans ((Below.heap_alloc _ _ b (by simp; omega)).trans (Below.heap_alloc w _ b hlt)); have hf1 : w1.frozen? ⟨b, 0, none⟩ = false := (World.frozen?_of_block (a := ⟨b, 0, none⟩) hbk1).trans hf0; have hd1 := (cell_keep (o := 0) hbk1).trans hc0))))
    all_goals
      (try go_wp2_with fail)
      go_end0
      exact add_fin hbase Hv.out Hbag.out.blk hbk1 hown1 ((((Touch.refl _ w).alloc _).drewN _).alloc _) hgrow (hat.imp_right (fun h => by omega))
set_option maxRecDepth 100000 in
set_option maxHeartbeats 2000000 in
theorem add_append (B b : Nat) (v : Value) (left : Int) (q : Part) (r : List Part) (p : Part) (w : World) (hm : Mild p) (hl : r.length ≤ 1000000000000) (ht : triv p = false) (hqp : q.kind ≠ p.kind) (hsw : ¬ (p.kind = 2 ∧ q.kind = 3))
    (hbag : Bag 115 B b v [.int .i64 left] (q :: r).reverse w) :
    Calls Tryd.prog 56 #[.pointer (some ⟨b, 0, none⟩), .agg #[.int .i64 p.kind, .int .i64 p.n, .string p.text]] w (AddPost 115 B b v [.int .i64 left] (p :: q :: r) w) := by
  obtain ⟨i0, hi, hz0, hz1, hz2⟩ := info_parts infoP
  obtain ⟨a, c, hv⟩ := hbag.form
  have hlt := hbag.lt
  have hc0 := hbag.cell 0
  have hc1 := hbag.cell 1
  have hf0 := hbag.frozen 0
  simp only [List.getElem?_cons_zero, List.getElem?_cons_succ, List.length_reverse, List.length_cons] at hc0 hc1 hv
  rw [hv] at hc0
  have hown := hbag.own
  have hbase := hbag.base
  simp only [List.length_reverse, List.length_cons] at hown
  rw [hv] at hown
  have hrow := hbag.rowlt
  obtain ⟨g, rfl, hg, hq0, hq1, hq2⟩ := hbag.last hv
  simp only [Value.ownBlock] at hg
  obtain ⟨pk, pn, pt⟩ := p
  obtain ⟨qk, qn, qt⟩ := q
  simp only at hqp hsw hq0 hq1 hq2
  have hnn : 0 < r.length + 1 := by omega
  have hgs := (hrow g (by rw [hv]; rfl)).2
  have hgne : g ≠ w.heap.size := by omega
  simp only [triv] at ht
  have Hbag := Lib.hid hbag
  have Hv := Lib.hid hv
  clear hbag hv
  have hne : b ≠ w.heap.size := by omega
  have Hrow := Lib.hid hrow
  clear hrow
  have Hne : Hid ((Value.slice (some ⟨g, 0, none⟩) (r.length + 1) c).ownBlock ≠ some b) := by unfold Hid; rw [← Hv.out]; exact Hbag.out.ne
  have Hnw : Hid ((Value.slice (some ⟨g, 0, none⟩) (r.length + 1) c).ownBlock ≠ some w.heap.size) := by unfold Hid; rw [← Hv.out]; intro e; have := Hrow.out _ e; omega
  by_cases h2 : pk = 2
  · subst h2
    have he : pt.toList.isEmpty = false := by simpa [emptyS] using ht
    have hb1 : (qk == 2) = false := by simpa using hqp
    have hb2 : (qk == 3) = false := by simpa using hsw
    clear ht hqp hsw
    go_enter Tryd.func56, Tryd.ntmps56
    go_wp2_with fail
    go_quiet (fail)
    go_wp2_with fail
    go_region_law (((first | (refine step_append_lies _ (by rfl) _ _ _ (by rfl) B 110 i0 _ 3 32 Tryd.underlying28 hi hz0 hz1 hz2 rfl (by omega) (.slice (some ⟨g, 0, none⟩) (r.length + 1) c) (r.length + 1) (flat ((⟨qk, qn, qt⟩ : Part) :: r).reverse) (by rfl) ((ownsRow_drewN (hown.alloc _) _).alloc _) ⟨w.heap.size + 1, 0, none⟩ 1 1 [.int .i64 2, .int .i64 pn, .string pt] (by rfl) (by rfl) (news_at (heap_new_at _ _ _ (by simp))) (by simp [Value.oneCell']) (by omega) (by unfold maxLen; omega) (by omega) (by simp; omega) (w.heap.size + 2) (by simp) ?_; intro gg cap w1 hown1 hgrow hat hlt1; have hbk1 : w1.heap[b]? = w.heap[b]? := (hgrow.block b (by simp; omega) (Ne.symm Hne.out)).trans ((Below.heap_alloc _ _ b (by simp; omega)).trans (Below.heap_alloc w _ b hlt)); have hf1 : w1.frozen? ⟨b, 0, none⟩ = false := (World.frozen?_of_block (a := ⟨b, 0, none⟩) hbk1).trans hf0; have hd1 := (cell_keep (o := 0) hbk1).trans hc0))))
    all_goals
      (try go_wp2_with fail)
      go_end0
      exact add_fin hbase Hv.out Hbag.out.blk hbk1 (by rw [flat_snoc]; exact hown1) ((((Touch.refl _ w).alloc _).drewN _).alloc _) hgrow (hat.imp_right (fun h => by omega))
  · have h3 : (pk != 2) = true := by simpa using h2
    have h3' : (pk == 2) = false := by simpa using h2
    have h4 : (pn == 0) = false := by simpa [h2] using ht
    have hb1 : (qk == pk) = false := by simpa using hqp
    clear ht h2 hqp hsw
    go_enter Tryd.func56, Tryd.ntmps56
    go_wp2_with fail
    go_quiet (fail)
    go_wp2_with fail
    go_region_law (((first | (refine step_append_lies _ (by rfl) _ _ _ (by rfl) B 110 i0 _ 3 32 Tryd.underlying28 hi hz0 hz1 hz2 rfl (by omega) (.slice (some ⟨g, 0, none⟩) (r.length + 1) c) (r.length + 1) (flat ((⟨qk, qn, qt⟩ : Part) :: r).reverse) (by rfl) ((ownsRow_drewN (hown.alloc _) _).alloc _) ⟨w.heap.size + 1, 0, none⟩ 1 1 [.int .i64 pk, .int .i64 pn, .string pt] (by rfl) (by rfl) (news_at (heap_new_at _ _ _ (by simp))) (by simp [Value.oneCell']) (by omega) (by unfold maxLen; omega) (by omega) (by simp; omega) (w.heap.size + 2) (by simp) ?_; intro gg cap w1 hown1 hgrow hat hlt1; have hbk1 : w1.heap[b]? = w.heap[b]? := (hgrow.block b (by simp; omega) (Ne.symm Hne.out)).trans ((Below.heap_alloc _ _ b (by simp; omega)).trans (Below.heap_alloc w _ b hlt)); have hf1 : w1.frozen? ⟨b, 0, none⟩ = false := (World.frozen?_of_block (a := ⟨b, 0, none⟩) hbk1).trans hf0; have hd1 := (cell_keep (o := 0) hbk1).trans hc0))))
    all_goals
      (try go_wp2_with fail)
      go_end0
      exact add_fin hbase Hv.out Hbag.out.blk hbk1 (by rw [flat_snoc]; exact hown1) ((((Touch.refl _ w).alloc _).drewN _).alloc _) hgrow (hat.imp_right (fun h => by omega))

set_option maxRecDepth 100000 in
set_option maxHeartbeats 2000000 in
theorem add_merge (B b : Nat) (v : Value) (left : Int) (q : Part) (r : List Part) (p : Part) (w : World) (hm : Mild p) (hmq : Mild q) (hl : r.length ≤ 1000000000000) (ht : triv p = false) (hqp : q.kind = p.kind)
    (hbag : Bag 115 B b v [.int .i64 left] (q :: r).reverse w) :
    Calls Tryd.prog 56 #[.pointer (some ⟨b, 0, none⟩), .agg #[.int .i64 p.kind, .int .i64 p.n, .string p.text]] w (AddPost 115 B b v [.int .i64 left] (⟨q.kind, q.n + p.n, q.text ++ p.text⟩ :: r) w) := by
  obtain ⟨a, c, hv⟩ := hbag.form
  have hlt := hbag.lt
  have hc0 := hbag.cell 0
  have hc1 := hbag.cell 1
  simp only [List.getElem?_cons_zero, List.getElem?_cons_succ, List.length_reverse, List.length_cons] at hc0 hc1 hv
  rw [hv] at hc0
  have hrow := hbag.rowlt
  obtain ⟨g, rfl, hg, hq0, hq1, hq2⟩ := hbag.last hv
  have hgs := (hrow g hg).2
  have hbgn : b ≠ g := fun e => hbag.ne (by rw [hg, e])
  have hown := hbag.own
  rw [hv] at hown
  simp only [List.length_reverse, List.length_cons] at hown
  have hf1 := hown.frozenAt (r.length * 3 + 1)
  have hf2 := hown.frozenAt (r.length * 3 + 2)
  have hgne : g ≠ w.heap.size := by omega
  have hne : b ≠ w.heap.size := by omega
  have hnn : 0 < r.length + 1 := by omega
  have hm1 := hm.n
  have hm2 := hmq.n
  have hadd : ∀ W : World, (Op.stringOp .add q.text p.text).run Tryd.prog W = .ok (.string (q.text ++ p.text)) W := fun W => run_string_add_sum W _ _ (by have h1 := hm.t; have h2 := hmq.t; omega)
  have Hfin : Hid (∀ W : World, Touch (fun _ => False) w W → AddPost 115 B b v [.int .i64 left] (⟨q.kind, q.n + p.n, q.text ++ p.text⟩ :: r) w (.returned (.tuple #[]))
      ((W.setCell ⟨g, r.length * 3 + 1, none⟩ (.int .i64 (q.n + p.n))).setCell ⟨g, r.length * 3 + 2, none⟩ (.string (q.text ++ p.text))).drew) := by
    unfold Hid
    intro W hW
    have hbW := hbag.touch hW (fun _ _ h => h)
    have hoW := hbW.own
    rw [hv] at hoW
    simp only [List.length_reverse, List.length_cons] at hoW
    have h1 := (hoW.stored (r.length * 3 + 1) (.int .i64 (q.n + p.n))).1
    have h2 := (h1.stored (r.length * 3 + 2) (.string (q.text ++ p.text))).1
    rw [flat_set ⟨q.kind, q.n + p.n, q.text ++ p.text⟩ q r rfl] at h2
    refine ⟨v, rfl, ⟨hbag.base, ?_, ?_, hbag.ne⟩, ?_, .inl rfl⟩
    · show ((W.setCell ⟨g, r.length * 3 + 1, none⟩ (.int .i64 (q.n + p.n))).setCell ⟨g, r.length * 3 + 2, none⟩ (.string (q.text ++ p.text))).heap[b]? = _
      rw [Below.heap_setCell _ _ _ _ hbgn, Below.heap_setCell _ _ _ _ hbgn]
      exact hbW.blk
    · rw [hv]
      exact ownsRow_drew (by simpa using h2)
    · exact (((hW.mono (fun _ _ h => h.elim)).setCell (p := ⟨g, r.length * 3 + 1, none⟩) (.inl (.inr hg)) _).setCell (p := ⟨g, r.length * 3 + 2, none⟩) (.inl (.inr hg)) _).drew
  clear hown hbag hrow hm hmq hv hg
  obtain ⟨pk, pn, pt⟩ := p
  obtain ⟨qk, qn, qt⟩ := q
  simp only at hqp hq0 hq1 hq2 hm1 hm2 hadd Hfin
  subst hqp
  simp only [triv] at ht
  by_cases h2 : qk = 2
  · subst h2
    have he : pt.toList.isEmpty = false := by simpa [emptyS] using ht
    clear ht
    go_enter Tryd.func56, Tryd.ntmps56
    go_wp2_with fail
    go_quiet (fail)
    go_wp2_with fail
    go_region
    go_wp2_with fail
    go_region
    go_wp2_with fail
    go_end0
    exact Hfin.out _ (((Touch.refl _ w).alloc _).drewN _)
  · have h3 : (qk != 2) = true := by simpa using h2
    have h3' : (qk == 2) = false := by simpa using h2
    have h4 : (pn == 0) = false := by simpa [h2] using ht
    clear ht h2
    go_enter Tryd.func56, Tryd.ntmps56
    go_wp2_with fail
    go_quiet (fail)
    go_wp2_with fail
    go_region
    go_wp2_with fail
    go_region
    go_wp2_with fail
    go_end0
    exact Hfin.out _ (((Touch.refl _ w).alloc _).drewN _)

theorem addR_len (r : List Part) (p : Part) : (addR r p).length ≤ r.length + 1 := by
  induction r with
  | nil => simp only [addR]; split <;> simp
  | cons q r ih => simp only [addR]; (repeat' split) <;> simp <;> omega

set_option maxRecDepth 100000 in
set_option maxHeartbeats 4000000 in
theorem add_swap (B b : Nat) (v : Value) (left : Int) (q : Part) (r : List Part) (p : Part) (w : World) (hl : r.length ≤ 1000000000000) (ht : triv p = false) (hp2 : p.kind = 2) (hq3 : q.kind = 3)
    (ih : ∀ (v : Value) (w : World), Bag 115 B b v [.int .i64 left] r.reverse w →
      Calls Tryd.prog 56 #[.pointer (some ⟨b, 0, none⟩), .agg #[.int .i64 p.kind, .int .i64 p.n, .string p.text]] w (AddPost 115 B b v [.int .i64 left] (addR r p) w))
    (hbag : Bag 115 B b v [.int .i64 left] (q :: r).reverse w) :
    Calls Tryd.prog 56 #[.pointer (some ⟨b, 0, none⟩), .agg #[.int .i64 p.kind, .int .i64 p.n, .string p.text]] w (AddPost 115 B b v [.int .i64 left] (q :: addR r p) w) := by
  obtain ⟨i0, hi, hz0, hz1, hz2⟩ := info_parts infoP
  obtain ⟨a, c, hv⟩ := hbag.form
  have hlt := hbag.lt
  have hc0 := hbag.cell 0
  have hc1 := hbag.cell 1
  have hf0 := hbag.frozen 0
  simp only [List.getElem?_cons_zero, List.getElem?_cons_succ, List.length_reverse, List.length_cons] at hc0 hc1 hv
  rw [hv] at hc0
  have hrow := hbag.rowlt
  obtain ⟨g, rfl, hg, hq0, hq1, hq2⟩ := hbag.last hv
  have hgs := (hrow g hg).2
  have hbgn : b ≠ g := fun e => hbag.ne (by rw [hg, e])
  have hgne : g ≠ w.heap.size := by omega
  have hne : b ≠ w.heap.size := by omega
  have hnn : 0 < r.length + 1 := by omega
  have hcap : r.length + 1 ≤ c := by
    rcases hbag.own.2 with ⟨_, h0⟩ | ⟨g', cap, cur, hv', _, _, hnc, _⟩
    · simp at h0
    · rw [hv] at hv'; injection hv' with _ _ h3; simp at hnc; omega
  -- the world in which the inner call begins
  have Hcut : Hid (∀ W : World, Touch (fun _ => False) w W → Bag 115 B b (.slice (some ⟨g, 0, none⟩) r.length c) [.int .i64 left] r.reverse (W.setCell ⟨b, 0, none⟩ (.slice (some ⟨g, 0, none⟩) r.length c))) := by
    unfold Hid
    intro W hW
    have hbW := hbag.touch hW (fun _ _ h => h)
    have hoW := hbW.own
    rw [hv] at hoW
    simp only [List.length_reverse, List.length_cons] at hoW
    have h1 := ownsRow_cut hoW r.length (by omega)
    rw [flat_snoc] at h1
    have h2 : (flat r.reverse ++ partCells q).take (r.length * 3) = flat r.reverse := by
      have := flat_len r.reverse
      rw [List.length_reverse] at this
      rw [← this, List.take_left]
    rw [h2] at h1
    exact Bag.put hbag.base hbW.blk (by simpa using h1) (by decide)
  have Hbag := Lib.hid hbag
  have Hv := Lib.hid hv
  have Hg := Lib.hid hg
  have Hih := Lib.hid ih
  clear hbag hv hg ih hrow
  obtain ⟨pk, pn, pt⟩ := p
  obtain ⟨qk, qn, qt⟩ := q
  simp only at hp2 hq3 hq0 hq1 hq2 Hih
  subst hp2 hq3
  have he : pt.toList.isEmpty = false := by simpa [emptyS, triv] using ht
  clear ht
  go_enter Tryd.func56, Tryd.ntmps56
  go_wp2_with fail
  go_quiet (fail)
  go_wp2_with fail
  refine (Hih.out _ _ ((Hcut.out _ ?ht).alloc _)).mono ?_
  case ht => exact (((Touch.refl _ w).alloc _).drewN _)
  rintro e w2 ⟨v2, rfl, hbag2, ht2, hat2⟩
  obtain ⟨a2, c2, hv2⟩ := hbag2.form
  simp only [List.length_reverse] at hv2
  have hsz2 := ht2.size
  simp at hsz2
  have hS : ∀ k, w.heap.size ≤ k → ¬ Bag.S b (.slice (some ⟨g, 0, none⟩) r.length c) k := by
    rintro k hk (rfl | h)
    · omega
    · simp [Value.ownBlock] at h; omega
  have d0 : w2.cell? ⟨w.heap.size + 1, 0, none⟩ = some (.int .i64 3) := (ht2.cell (b := w.heap.size + 1) (o := 0) (by simp) (hS _ (by omega))).trans (by rw [cell_of_row _ _ _ _ _ _ (heap_new_at _ _ _ (by simp))]; rfl)
  have d1 : w2.cell? ⟨w.heap.size + 1, 1, none⟩ = some (.int .i64 qn) := (ht2.cell (b := w.heap.size + 1) (o := 1) (by simp) (hS _ (by omega))).trans (by rw [cell_of_row _ _ _ _ _ _ (heap_new_at _ _ _ (by simp))]; rfl)
  have d2 : w2.cell? ⟨w.heap.size + 1, 2, none⟩ = some (.string qt) := (ht2.cell (b := w.heap.size + 1) (o := 2) (by simp) (hS _ (by omega))).trans (by rw [cell_of_row _ _ _ _ _ _ (heap_new_at _ _ _ (by simp))]; rfl)
  have hown := hbag2.own
  rw [hv2] at hown
  simp only [List.length_reverse] at hown
  have c0 := hbag2.cell 0
  have f0 := hbag2.frozen 0
  have hlt2 := hbag2.lt
  simp only [List.getElem?_cons_zero] at c0
  rw [hv2] at c0
  have hne2 := hbag2.ne
  rw [hv2] at hne2
  have Hne2 := Lib.hid hne2
  have Hv2 := Lib.hid hv2
  have Hbag2 := Lib.hid hbag2
  have Ht2 := Lib.hid ht2
  have Hat2 := Lib.hid hat2
  have hbase := hbag2.base
  have hlen := addR_len r ⟨2, pn, pt⟩
  clear hne2 hv2 hbag2 ht2 hat2 hS Hcut Hih
  generalize addR r ⟨2, pn, pt⟩ = R at *
  clear hc0 hc1 hq0 hq1 hq2 hf0
  go_wp2_with fail
  go_region_law (((first | (refine step_append_lies _ (by rfl) _ _ _ (by rfl) B 110 i0 _ 3 32 Tryd.underlying28 hi hz0 hz1 hz2 rfl (by omega) (.slice a2 R.length c2) R.length (flat R.reverse) (by rfl) ((ownsRow_drew hown).alloc _) ⟨w2.heap.size, 0, none⟩ 1 1 [.int .i64 3, .int .i64 qn, .string qt] (by rfl) (by rfl) (news_at (heap_new_at _ _ _ (by simp))) (by simp [Value.oneCell']) (by omega) (by unfold maxLen; omega) (by omega) (by simp; omega) (w2.heap.size + 1) (by simp) ?_; intro gg cap w3 hown1 hgrow hat hlt1; have hbk1 : w3.heap[b]? = w2.heap[b]? := (hgrow.block b (by first | (simp; omega) | (simp only [World.size_alloc]; omega) | omega) (Ne.symm Hne2.out)).trans (Below.heap_alloc _ _ b (by first | (simp; omega) | omega)); have hf1 : w3.frozen? ⟨b, 0, none⟩ = false := (World.frozen?_of_block (a := ⟨b, 0, none⟩) hbk1).trans f0; have hd1 := (cell_keep (o := 0) hbk1).trans c0))))
  all_goals
    (try go_wp2_with fail)
    go_end0
    have hbag2 := Hbag2.out
    have hbk := hbag2.blk
    refine ⟨_, rfl, Bag.put hbase (hbk1.trans hbk) (by rw [flat_snoc]; simpa [partCells] using hown1) (by decide), ?_, ?_⟩
    · have t0 : Touch (Bag.S b v) w _ := ((((Touch.refl (Bag.S b v) w).alloc (.cells #[.int .i64 2, .int .i64 pn, .string pt] 110)).drewN nq).setCell (p := ⟨b, 0, none⟩) (.inl (.inl rfl)) (.slice (some ⟨g, 0, none⟩) r.length c)).alloc (.cells #[.int .i64 3, .int .i64 qn, .string qt] 110)
      have t1 := t0.then_ Ht2.out (fun k _ h => by
        rcases h with rfl | h
        · exact .inl rfl
        · exact .inr (Hg.out.trans h))
      refine ((t1.drew.alloc _).grown hgrow (fun k hk => ?_)).setCell (p := ⟨b, 0, none⟩) (.inl (.inl rfl)) _
      rw [← Hv2.out] at hk
      rcases Hat2.out with h | h
      · exact .inl (.inr (by rw [Hg.out, ← hk, h]; rfl))
      · have := h k hk; simp at this; exact .inr (by omega)
    · rcases hat with h | h
      · rw [← Hv2.out] at h
        rcases Hat2.out with h2 | h2
        · exact .inl (by rw [Hg.out]; show some gg = some g; rw [← h, h2]; rfl)
        · exact .inr fun k hk => by simp [Value.ownBlock] at hk; subst hk; have := h2 _ h; simp at this; omega
      · exact .inr fun k hk => by simp [Value.ownBlock] at hk; omega

theorem addR_nil {p : Part} (ht : triv p = false) : addR [] p = [p] := by simp [addR, ht]
theorem addR_merge {p q : Part} {r : List Part} (ht : triv p = false) (h : q.kind = p.kind) : addR (q :: r) p = ⟨q.kind, q.n + p.n, q.text ++ p.text⟩ :: r := by simp only [addR, ht]; rw [if_neg (by decide), if_pos h]
theorem addR_swap {p q : Part} {r : List Part} (ht : triv p = false) (h : ¬ q.kind = p.kind) (h2 : p.kind = 2 ∧ q.kind = 3) : addR (q :: r) p = q :: addR r p := by simp only [addR, ht]; rw [if_neg (by decide), if_neg h, if_pos h2]
theorem addR_more {p q : Part} {r : List Part} (ht : triv p = false) (h : ¬ q.kind = p.kind) (h2 : ¬ (p.kind = 2 ∧ q.kind = 3)) : addR (q :: r) p = p :: q :: r := by simp only [addR, ht]; rw [if_neg (by decide), if_neg h, if_neg h2]
theorem add_any (B b : Nat) (left : Int) (p : Part) (hm : Mild p) : ∀ (r : List Part) (v : Value) (w : World), (∀ q ∈ r, Mild q) → r.length ≤ 1000000000000 →
    Bag 115 B b v [.int .i64 left] r.reverse w →
    Calls Tryd.prog 56 #[.pointer (some ⟨b, 0, none⟩), .agg #[.int .i64 p.kind, .int .i64 p.n, .string p.text]] w (AddPost 115 B b v [.int .i64 left] (addR r p) w)
  | [], v, w, _, hl, hbag => by
    cases ht : triv p with
    | true => exact add_triv B b v left [] p w hm hl ht hbag
    | false => rw [addR_nil ht]; exact add_empty B b v left p w hm ht hbag
  | q :: r, v, w, hq, hl, hbag => by
    have hl' : r.length ≤ 1000000000000 := by simp at hl; omega
    cases ht : triv p with
    | true => exact add_triv B b v left (q :: r) p w hm hl ht hbag
    | false =>
      by_cases h1 : q.kind = p.kind
      · rw [addR_merge ht h1]; exact add_merge B b v left q r p w hm (hq q (by simp)) hl' ht h1 hbag
      · by_cases h2 : p.kind = 2 ∧ q.kind = 3
        · rw [addR_swap ht h1 h2]; exact add_swap B b v left q r p w hl' ht h2.1 h2.2 (fun v w hb => add_any B b left p hm r v w (fun q hq' => hq q (by simp [hq'])) hl' hb) hbag
        · rw [addR_more ht h1 h2]; exact add_append B b v left q r p w hm hl' ht h1 h2 hbag
end Go.Proofs.YtkhacogeffidoaaDoor

set_option linter.unusedVariables false
set_option linter.unusedSimpArgs false
namespace Go.Proofs.YtkhacogeffidoaaDoor
open Go.RowKit

structure Raw where
  kind : Int
  a : Int
  b : Int
  c : Int
  text : Str
def rawCells (x : Raw) : List Value := [.int .i64 x.kind, .int .i64 x.a, .int .i64 x.b, .int .i64 x.c, .string x.text]
def rawV (x : Raw) : Value := .agg #[.int .i64 x.kind, .int .i64 x.a, .int .i64 x.b, .int .i64 x.c, .string x.text]
def Raw.ok (x : Raw) : Prop := I64 x.kind ∧ I64 x.a ∧ I64 x.b ∧ I64 x.c ∧ x.text.size ≤ maxLen
instance : Rep Raw where
  n := 5
  rd := fun _ _ x cs => cs = rawCells x ∧ x.ok
  len := fun h => by rw [h.1]; rfl
  mono := fun _ h => h
  one := fun h => by rw [h.1]; simp [rawCells, Value.oneCell']
  pos := by decide
/-- one element of a slice of raw things -/
theorem RdS.raw {A : Nat → Prop} {w : World} {l : List Raw} {a : Option Addr} {n c : Nat} (hr : RdS A w l a n c) (hn : 0 < n) :
    ∃ b off, a = some ⟨b, off, none⟩ ∧ A b ∧ b < w.heap.size ∧ ∀ i (h : i < l.length), l[i].ok ∧
      w.cell? ⟨b, off + i * 5, none⟩ = some (.int .i64 l[i].kind) ∧ w.cell? ⟨b, off + i * 5 + 1, none⟩ = some (.int .i64 l[i].a) ∧ w.cell? ⟨b, off + i * 5 + 2, none⟩ = some (.int .i64 l[i].b) ∧
      w.cell? ⟨b, off + i * 5 + 3, none⟩ = some (.int .i64 l[i].c) ∧ w.cell? ⟨b, off + i * 5 + 4, none⟩ = some (.string l[i].text) := by
  obtain ⟨b, off, e, hA, hb, he⟩ := hr.2.2.2.2 hn
  refine ⟨b, off, e, hA, hb, fun i h => ?_⟩
  obtain ⟨xs, ⟨rfl, h1⟩, h4⟩ := he i l[i] (List.getElem?_eq_getElem h)
  exact ⟨h1, h4 0 _ rfl, h4 1 _ rfl, h4 2 _ rfl, h4 3 _ rfl, h4 4 _ rfl⟩

set_option maxHeartbeats 400000 in
theorem opText_any (x : Raw) (w : World) (hx : x.ok) :
    Calls Tryd.prog 51 #[rawV x] w fun e w' => e = .returned (.string (letters x.text 4)) ∧ Below w.heap.size w w' := by
  obtain ⟨k, a, b, c, t⟩ := x
  have ht : t.size ≤ maxLen := hx.2.2.2.2
  have Hl := Lib.hid (fun W => letters_any t 4 W ht (by omega))
  clear hx ht
  unfold rawV
  simp only
  go_enter Tryd.func51, Tryd.ntmps51
  go_wp2_with fail
  refine (Hl.out _).mono ?_
  rintro e w1 ⟨rfl, hb1⟩
  go_wp2_with fail
  go_ret
  exact ⟨rfl, by (repeat (first | exact Below.refl _ _ | assumption | (refine Below.drew ?_) | (refine below_drewN ?_ _) | (refine Below.alloc ?_ (by first | (simp; done) | (simp; omega) | omega) _) | (refine Below.setCell ?_ (by first | (simp; done) | (simp; omega) | omega) _) | (refine Below.trans ?_ (Below.mono (by assumption) (by first | (simp; done) | (simp; omega) | omega)))))⟩

def noText : Str := ⟨#[]⟩
/-- one round of op: what stands (the last part first), and what is left -/
def opStep (f : Raw → Str) (st : List Part × Int) (x : Raw) : List Part × Int :=
  let k := min (pk x.a 6) st.2
  let st1 := if pk x.kind 4 = 0 ∨ pk x.kind 4 = 1 then (addR st.1 ⟨1, k, noText⟩, st.2 - k) else if pk x.kind 4 = 2 then (addR st.1 ⟨3, k, noText⟩, st.2 - k) else st
  if pk x.b 2 = 0 then (addR st1.1 ⟨2, 0, f x⟩, st1.2) else st1
def opRun (f : Raw → Str) (n : Int) (l : List Raw) : List Part × Int := l.foldl (opStep f) ([], n)
def opOf (f : Raw → Str) (n : Int) (l : List Raw) : Op :=
  let st := opRun f n (l.take 6)
  (addR st.1 ⟨1, st.2, noText⟩).reverse
def rawText (x : Raw) : Str := letters x.text 4
/-- Op of raw things -/
def mkOp (n : Int) (l : List Raw) : Op := opOf rawText n l
theorem opRun_next (f : Raw → Str) (n : Int) (l : List Raw) (k : Nat) (h : k < l.length) : opRun f n (l.take (k + 1)) = opStep f (opRun f n (l.take k)) l[k] := by
  unfold opRun
  rw [List.take_succ_eq_append_getElem h, List.foldl_append]; rfl

/-- what holds of what stands after some rounds -/
structure Stands (n : Int) (i : Nat) (st : List Part × Int) : Prop where
  left : 0 ≤ st.2 ∧ st.2 ≤ n
  len : st.1.length ≤ 2 * i
  each : ∀ q ∈ st.1, (1 ≤ q.kind ∧ q.kind ≤ 3) ∧ 0 ≤ q.n ∧ q.n ≤ n - st.2 ∧ q.text.size ≤ 16 * i
theorem addR_each (P0 P : Part → Prop) (p : Part) (hp : P p) (h01 : ∀ q, P0 q → P q) (hadd : ∀ q, P0 q → q.kind = p.kind → P ⟨q.kind, q.n + p.n, q.text ++ p.text⟩) : ∀ r : List Part, (∀ q ∈ r, P0 q) → ∀ q ∈ addR r p, P q := by
  intro r
  induction r with
  | nil =>
    intro _ q hq
    simp only [addR] at hq
    split at hq
    · cases hq
    · simp at hq; rw [hq]; exact hp
  | cons x r ih =>
    intro hr q hq
    have hx := hr x (by simp)
    have ih' := ih (fun q h => hr q (by simp [h]))
    simp only [addR] at hq
    split at hq
    · exact h01 q (hr q hq)
    · split at hq
      · rename_i hk
        rcases List.mem_cons.1 hq with h | h
        · rw [h]; exact hadd x hx hk
        · exact h01 q (hr q (by simp [h]))
      · split at hq
        · rcases List.mem_cons.1 hq with h | h
          · rw [h]; exact h01 x hx
          · exact ih' q h
        · rcases List.mem_cons.1 hq with h | h
          · rw [h]; exact hp
          · exact h01 q (hr q h)
theorem size_app (a b : Str) : (a ++ b).size = a.size + b.size := by simp [ByteArray.size_append]
theorem noText_size : noText.size = 0 := rfl
theorem letters_size (s : Str) (m : Nat) : (letters s m).size ≤ m * 4 := by
  have h1 := enc_size (lets s m) (lets_vr s m)
  have h2 := lets_len s m
  unfold letters
  omega
theorem Stands.keep {n : Int} {i : Nat} {st : List Part × Int} (h : Stands n i st) (kd : Int) (hkd : 1 ≤ kd ∧ kd ≤ 3) (k : Int) (hk : 0 ≤ k ∧ k ≤ st.2) :
    (∀ q ∈ addR st.1 ⟨kd, k, noText⟩, (1 ≤ q.kind ∧ q.kind ≤ 3) ∧ 0 ≤ q.n ∧ q.n ≤ n - (st.2 - k) ∧ q.text.size ≤ 16 * i) ∧ (addR st.1 ⟨kd, k, noText⟩).length ≤ 2 * i + 1 := by
  have h0 := h.left
  refine ⟨addR_each (fun q => (1 ≤ q.kind ∧ q.kind ≤ 3) ∧ 0 ≤ q.n ∧ q.n ≤ n - st.2 ∧ q.text.size ≤ 16 * i) _ _ ⟨hkd, by simp only; omega, by simp only; omega, by simp only [noText_size]; omega⟩ (fun q h => ⟨h.1, h.2.1, by omega, h.2.2.2⟩) ?_ _ h.each, by have := addR_len st.1 ⟨kd, k, noText⟩; have := h.len; omega⟩
  rintro q ⟨h1, h2, h3, h4⟩ _
  exact ⟨h1, by simp only; omega, by simp only; omega, by simp only [size_app, noText_size]; omega⟩
theorem opStep_stands {n : Int} {i : Nat} {st : List Part × Int} (f : Raw → Str) (x : Raw) (hf : (f x).size ≤ 16) (h : Stands n i st) : Stands n (i + 1) (opStep f st x) := by
  have h0 := h.left
  have ha := pk_range x.a 6 (by omega)
  have hk1 : 0 ≤ min (pk x.a 6) st.2 := by omega
  have hk2 : min (pk x.a 6) st.2 ≤ st.2 := by omega
  have main : ∀ st1 : List Part × Int, 0 ≤ st1.2 ∧ st1.2 ≤ n → st1.1.length ≤ 2 * i + 1 → (∀ q ∈ st1.1, (1 ≤ q.kind ∧ q.kind ≤ 3) ∧ 0 ≤ q.n ∧ q.n ≤ n - st1.2 ∧ q.text.size ≤ 16 * i) →
      Stands n (i + 1) (if pk x.b 2 = 0 then (addR st1.1 ⟨2, 0, f x⟩, st1.2) else st1) := by
    intro st1 g1 g2 g3
    by_cases hb : pk x.b 2 = 0
    · rw [if_pos hb]
      refine ⟨g1, by have := addR_len st1.1 ⟨2, 0, f x⟩; simp only; omega, ?_⟩
      refine addR_each (fun q => (1 ≤ q.kind ∧ q.kind ≤ 3) ∧ 0 ≤ q.n ∧ q.n ≤ n - st1.2 ∧ q.text.size ≤ 16 * i) _ _ ⟨⟨by simp only; omega, by simp only; omega⟩, by simp only; omega, by simp only; omega, by simp only; omega⟩ (fun q h => ⟨h.1, h.2.1, h.2.2.1, by omega⟩) ?_ _ g3
      rintro q ⟨h1, h2, h3, h4⟩ _
      exact ⟨h1, by simp only; omega, by simp only; omega, by simp only [size_app]; omega⟩
    · rw [if_neg hb]
      exact ⟨g1, by omega, fun q hq => by have := g3 q hq; exact ⟨this.1, this.2.1, this.2.2.1, by omega⟩⟩
  unfold opStep
  simp only
  generalize min (pk x.a 6) st.2 = k at *
  by_cases h1 : pk x.kind 4 = 0 ∨ pk x.kind 4 = 1
  · rw [if_pos h1]
    have hs := h.keep 1 (by omega) k ⟨hk1, hk2⟩
    exact main _ (by simp only; omega) hs.2 hs.1
  · rw [if_neg h1]
    by_cases h2 : pk x.kind 4 = 2
    · rw [if_pos h2]
      have hs := h.keep 3 (by omega) k ⟨hk1, hk2⟩
      exact main _ (by simp only; omega) hs.2 hs.1
    · rw [if_neg h2]
      exact main _ h0 (by have := h.len; omega) h.each
theorem opRun_stands (f : Raw → Str) (n : Int) (hn : 0 ≤ n) (l : List Raw) (hf : ∀ x ∈ l, (f x).size ≤ 16) : ∀ k, k ≤ l.length → Stands n k (opRun f n (l.take k)) := by
  intro k
  induction k with
  | zero => intro _; simp only [List.take_zero, opRun, List.foldl_nil]; exact ⟨by simp only; omega, by simp, by simp⟩
  | succ k ih =>
    intro hk
    rw [opRun_next f n l k (by omega)]
    exact opStep_stands f _ (hf _ (List.getElem_mem (by omega))) (ih (by omega))

theorem Mild.of {n : Int} {i : Nat} {left : Int} {r : List Part} (hn : n ≤ 1000000000) (hi : i ≤ 6) (h0 : 0 ≤ left) (h : ∀ q ∈ r, (1 ≤ q.kind ∧ q.kind ≤ 3) ∧ 0 ≤ q.n ∧ q.n ≤ n - left ∧ q.text.size ≤ 16 * i) : ∀ q ∈ r, Mild q := by
  intro q hq
  have := h q hq
  exact ⟨by omega, by omega, by omega⟩
theorem Bag.drewN {T B b : Nat} {v : Value} {ex : List Value} {l : Op} {w : World} (h : Bag T B b v ex l w) (n : Nat) : Bag T B b v ex l (w.drewN n) := h.keep fun _ _ => rfl
theorem Bag.sB {T B b : Nat} {v : Value} {ex : List Value} {l : Op} {w : World} (h : Bag T B b v ex l w) : ∀ g, Bag.S b v g → B ≤ g := by
  rintro g (rfl | h2)
  · exact h.base
  · exact (h.rowlt g h2).1
theorem Bag.put1 {T B b : Nat} {v : Value} {x u : Value} {l : Op} {w : World} (h : Bag T B b v [x] l w) : Bag T B b v [u] l (w.setCell ⟨b, 1, none⟩ u) := by
  refine ⟨h.base, ?_, ?_, h.ne⟩
  · simp [World.setCell, Array.getElem?_modify, h.blk]
  · exact h.own.kept (row := some b) ⟨rfl, rfl, rfl, by simp [World.setCell], fun k _ hk => Below.heap_setCell _ _ _ _ (fun e => hk (by simp [e]))⟩ (.inr h.ne)
theorem picked_same (n m : Int) (w : World) (hn : I64 n) (hm : 1 ≤ m) (hm' : m ≤ 9223372036854775807) :
    Calls Tryd.prog 14 #[.int .i64 n, .int .i64 m] w fun e w' => e = .returned (.int .i64 (pk n m)) ∧ w' = w :=
  (picked_any n m w hn hm hm').mono fun _ _ ⟨h1, h2⟩ => ⟨h1, h2.symm⟩

/-- what op leaves -/
def OpPost (n : Int) (l : List Raw) (f : Raw → Str) (w : World) (e : Ending) (w' : World) : Prop :=
  ∃ a c, e = .returned (.slice a (opOf f n l).length c) ∧ w'.ownsRow w.heap.size 110 3 (.slice a (opOf f n l).length c) (opOf f n l).length (flat (opOf f n l)) ∧ Below w.heap.size w w'

set_option maxRecDepth 100000 in
set_option maxHeartbeats 4000000 in
theorem op_any (A : Nat → Prop) (n : Int) (l : List Raw) (a : Option Addr) (m c : Nat) (w : World) (hA : ∀ b, A b → b < w.heap.size) (hr : RdS A w l a m c) (hn : 0 ≤ n) (hn' : n ≤ 1000000000) :
    Calls Tryd.prog 50 #[.int .i64 n, .slice a m c, .func (.func 51) #[] #[]] w (OpPost n l rawText w) := by
  have hl : m = l.length := hr.1
  have hmm : m ≤ maxLen := by have h1 := hr.2.1; have h2 := hr.2.2.1; omega
  unfold maxLen at hmm
  have Hst := Lib.hid (opRun_stands rawText n hn (l.take 6) (fun x _ => by unfold rawText; have := letters_size x.text 4; omega))
  have Hl := Lib.hid hl
  have Hr := Lib.hid hr
  clear hl hr
  go_enter Tryd.func50, Tryd.ntmps50
  go_wp2_with fail
  go_loopw [8] (fun i wr => ∃ k : Nat, ∃ v : Value, k ≤ m ∧ k ≤ 6 ∧ i = .int .i64 k ∧ Bag 115 w.heap.size w.heap.size v [.int .i64 (opRun rawText n (l.take k)).2] (opRun rawText n (l.take k)).1.reverse wr ∧ Below w.heap.size w wr) (fun i _ => m - (intOf i).toNat)
  case atStart =>
    refine ⟨0, .slice none 0 0, by omega, by omega, rfl, ⟨Nat.le_refl _, heap_alloc_new w _, World.ownsRow_nil _ _ _ _, by simp [Value.ownBlock]⟩, by (repeat (first | exact Below.refl _ _ | assumption | (refine Below.drew ?_) | (refine below_drewN ?_ _) | (refine Below.alloc ?_ (by first | (simp; done) | (simp; omega) | omega) _) | (refine Below.setCell ?_ (by first | (simp; done) | (simp; omega) | omega) _) | (refine Below.trans ?_ (Below.mono (by assumption) (by first | (simp; done) | (simp; omega) | omega)))))⟩
  case round =>
    obtain ⟨k, v, hk, hk6, rfl, hbag, hb⟩ := hrel
    have hstk : Stands n k (opRun rawText n (l.take k)) := by
      have := Hst.out k (by rw [List.length_take]; have := Hl.out; omega)
      rw [List.take_take, Nat.min_eq_left hk6] at this
      exact this
    obtain ⟨av, cv, hv⟩ := hbag.form
    have hc0 := hbag.cell 0
    have hc1 := hbag.cell 1
    have hf1 := hbag.frozen 1
    simp only [List.getElem?_cons_zero, List.getElem?_cons_succ] at hc0 hc1
    rw [hv] at hc0
    have hlt := hbag.lt
    by_cases hgo : k < m ∧ k < 6
    · obtain ⟨hkm, hkl6⟩ := hgo
      have hnx := opRun_next rawText n l k (by have := Hl.out; omega)
      obtain ⟨b, off, rfl, hAb, hbs, hcs⟩ := Hr.out.raw (by omega)
      obtain ⟨hcb, hfb⟩ := bcell hb
      obtain ⟨hok, r0, r1, r2, r3, r4⟩ := hcs k (by have := Hl.out; omega)
      have hbw := hA b hAb
      have hkl : k < l.length := by have := Hl.out; omega
      clear hcs
      generalize opRun rawText n (l.take k) = st at *
      generalize l[k] = x at *
      obtain ⟨r, left⟩ := st
      have hleft := hstk.left
      simp only at hc1 hleft hbag
      have Hok := Lib.hid hok
      obtain ⟨hk1, ha1, hb1, _, ht1⟩ := hok
      have hra := pk_range x.a 6 (by omega)
      have hrk := pk_range x.kind 4 (by omega)
      have hrb := pk_range x.b 2 (by omega)
      have Hpa := Lib.hid (fun W => picked_same x.a 6 W ha1 (by omega) (by omega))
      have Hpk := Lib.hid (fun W => picked_any x.kind 4 W hk1 (by omega) (by omega))
      have Hpb := Lib.hid (fun W => picked_any x.b 2 W hb1 (by omega) (by omega))
      have Hnx := Lib.hid hnx
      have Hstk := Lib.hid hstk
      have Hbag := Lib.hid hbag
      have Hv := Lib.hid hv
      clear hnx hstk hbag hv hk1 ha1 hb1
      have HS : Hid (opStep rawText (r, left) x = (let k := min (pk x.a 6) left; let st1 := if pk x.kind 4 = 0 ∨ pk x.kind 4 = 1 then (addR r ⟨1, k, noText⟩, left - k) else if pk x.kind 4 = 2 then (addR r ⟨3, k, noText⟩, left - k) else (r, left); if pk x.b 2 = 0 then (addR st1.1 ⟨2, 0, rawText x⟩, st1.2) else st1)) := rfl
      generalize pk x.a 6 = da at *
      generalize pk x.kind 4 = dk at *
      generalize pk x.b 2 = db at *
      go_wp2_with fail
      go_quiet ((go_at_call 14; exact Calls.quiet_of_same (Hpa.out _)))
      have hkk : 0 ≤ min da left ∧ min da left ≤ left := by omega
      generalize min da left = kk at *
      go_wp2_with fail
      refine (Hpk.out _).mono ?_
      rintro e w1 ⟨rfl, rfl⟩
      obtain h4 | h4 | h4 | h4 : dk = 0 ∨ dk = 1 ∨ dk = 2 ∨ dk = 3 := by omega
      · subst h4
        by_cases hdb : db = 0
        · subst hdb
          go_wp2_with fail
          refine (add_any w.heap.size w.heap.size left ⟨1, kk, noText⟩ ⟨by simp only; omega, by simp only; omega, by simp only [noText_size]; omega⟩ r v _ (Mild.of hn' hk6 Hstk.out.left.1 Hstk.out.each) (by have := Hstk.out.len; simp only at this; omega) (Hbag.out.drewN _)).mono ?_
          rintro e w2 ⟨v2, rfl, hbag2, ht2, hat2⟩
          have hb2 : Below w.heap.size w w2 := (below_drewN hb _).trans (ht2.toBelow hb.size Hbag.out.sB)
          obtain ⟨hcb2, hfb2⟩ := bcell hb2
          have e1 := hbag2.cell 1
          have e2 := hbag2.frozen 1
          simp only [List.getElem?_cons_zero, List.getElem?_cons_succ] at e1
          have hput := hbag2.put1 (u := .int .i64 (left - kk))
          have Hput := Lib.hid hput
          have Hbag2 := Lib.hid hbag2
          clear hput hbag2 ht2 hat2
          go_wp2_with fail
          refine (Hpb.out _).mono ?_
          rintro e w3 ⟨rfl, rfl⟩
          have Hkeep := Lib.hid (Hstk.out.keep 1 (by omega) kk ⟨hkk.1, hkk.2⟩)
          simp only at Hkeep
          go_wp2_with fail
          refine (opText_any x _ Hok.out).mono ?_
          rintro e w4 ⟨rfl, hb4⟩
          have hbW := (hb2.setCell (p := ⟨w.heap.size, 1, none⟩) (Nat.le_refl _) (.int .i64 (left - kk)))
          have hbW4 := hbW.trans (hb4.mono hbW.size)
          clear hbW
          have HbW4 := Lib.hid hbW4
          have hbag4 := Bag.below Hput.out hb4
          have Hbag4 := Lib.hid hbag4
          clear hbW4 hbag4
          go_wp2_with fail
          refine (add_any w.heap.size w.heap.size (left - kk) ⟨2, 0, letters x.text 4⟩ ⟨by simp only; omega, by simp only; omega, by have := letters_size x.text 4; simp only; omega⟩ (addR r ⟨1, kk, noText⟩) v2 _ (Mild.of hn' hk6 (by omega) Hkeep.out.1) (by have := Hkeep.out.2; (try simp only at this); omega) Hbag4.out).mono ?_
          rintro e w5 ⟨v5, rfl, hbag5, ht5, hat5⟩
          have hb5 : Below w.heap.size w w5 := HbW4.out.trans (ht5.toBelow HbW4.out.size Hbag4.out.sB)
          have Hbag5 := Lib.hid hbag5
          clear hbag5 ht5 hat5 hb4
          go_wp2
          go_roundw
          case rel =>
            have hS : opStep rawText (r, left) x = (addR (addR r ⟨1, kk, noText⟩) ⟨2, 0, letters x.text 4⟩, (left - kk)) := by rw [HS.out]; simp [rawText]
            refine ⟨k + 1, v5, by omega, by omega, by go_num, ?_, hb5⟩
            rw [Hnx.out, hS]; exact Hbag5.out
          case measure => simp [intOf]; omega
        · have hdb2 : (db == 0) = false := by simpa using hdb
          go_wp2_with fail
          refine (add_any w.heap.size w.heap.size left ⟨1, kk, noText⟩ ⟨by simp only; omega, by simp only; omega, by simp only [noText_size]; omega⟩ r v _ (Mild.of hn' hk6 Hstk.out.left.1 Hstk.out.each) (by have := Hstk.out.len; simp only at this; omega) (Hbag.out.drewN _)).mono ?_
          rintro e w2 ⟨v2, rfl, hbag2, ht2, hat2⟩
          have hb2 : Below w.heap.size w w2 := (below_drewN hb _).trans (ht2.toBelow hb.size Hbag.out.sB)
          obtain ⟨hcb2, hfb2⟩ := bcell hb2
          have e1 := hbag2.cell 1
          have e2 := hbag2.frozen 1
          simp only [List.getElem?_cons_zero, List.getElem?_cons_succ] at e1
          have hput := hbag2.put1 (u := .int .i64 (left - kk))
          have Hput := Lib.hid hput
          have Hbag2 := Lib.hid hbag2
          clear hput hbag2 ht2 hat2
          go_wp2_with fail
          refine (Hpb.out _).mono ?_
          rintro e w3 ⟨rfl, rfl⟩
          have Hkeep := Lib.hid (Hstk.out.keep 1 (by omega) kk ⟨hkk.1, hkk.2⟩)
          simp only at Hkeep
          go_wp2
          go_roundw
          case rel =>
            have hS : opStep rawText (r, left) x = ((addR r ⟨1, kk, noText⟩), (left - kk)) := by rw [HS.out]; simp [hdb]
            refine ⟨k + 1, v2, by omega, by omega, by go_num, ?_, (hb2.setCell (p := ⟨w.heap.size, 1, none⟩) (Nat.le_refl _) (.int .i64 (left - kk)))⟩
            rw [Hnx.out, hS]; exact Hput.out
          case measure => simp [intOf]; omega
      · subst h4
        by_cases hdb : db = 0
        · subst hdb
          go_wp2_with fail
          refine (add_any w.heap.size w.heap.size left ⟨1, kk, noText⟩ ⟨by simp only; omega, by simp only; omega, by simp only [noText_size]; omega⟩ r v _ (Mild.of hn' hk6 Hstk.out.left.1 Hstk.out.each) (by have := Hstk.out.len; simp only at this; omega) (Hbag.out.drewN _)).mono ?_
          rintro e w2 ⟨v2, rfl, hbag2, ht2, hat2⟩
          have hb2 : Below w.heap.size w w2 := (below_drewN hb _).trans (ht2.toBelow hb.size Hbag.out.sB)
          obtain ⟨hcb2, hfb2⟩ := bcell hb2
          have e1 := hbag2.cell 1
          have e2 := hbag2.frozen 1
          simp only [List.getElem?_cons_zero, List.getElem?_cons_succ] at e1
          have hput := hbag2.put1 (u := .int .i64 (left - kk))
          have Hput := Lib.hid hput
          have Hbag2 := Lib.hid hbag2
          clear hput hbag2 ht2 hat2
          go_wp2_with fail
          refine (Hpb.out _).mono ?_
          rintro e w3 ⟨rfl, rfl⟩
          have Hkeep := Lib.hid (Hstk.out.keep 1 (by omega) kk ⟨hkk.1, hkk.2⟩)
          simp only at Hkeep
          go_wp2_with fail
          refine (opText_any x _ Hok.out).mono ?_
          rintro e w4 ⟨rfl, hb4⟩
          have hbW := (hb2.setCell (p := ⟨w.heap.size, 1, none⟩) (Nat.le_refl _) (.int .i64 (left - kk)))
          have hbW4 := hbW.trans (hb4.mono hbW.size)
          clear hbW
          have HbW4 := Lib.hid hbW4
          have hbag4 := Bag.below Hput.out hb4
          have Hbag4 := Lib.hid hbag4
          clear hbW4 hbag4
          go_wp2_with fail
          refine (add_any w.heap.size w.heap.size (left - kk) ⟨2, 0, letters x.text 4⟩ ⟨by simp only; omega, by simp only; omega, by have := letters_size x.text 4; simp only; omega⟩ (addR r ⟨1, kk, noText⟩) v2 _ (Mild.of hn' hk6 (by omega) Hkeep.out.1) (by have := Hkeep.out.2; (try simp only at this); omega) Hbag4.out).mono ?_
          rintro e w5 ⟨v5, rfl, hbag5, ht5, hat5⟩
          have hb5 : Below w.heap.size w w5 := HbW4.out.trans (ht5.toBelow HbW4.out.size Hbag4.out.sB)
          have Hbag5 := Lib.hid hbag5
          clear hbag5 ht5 hat5 hb4
          go_wp2
          go_roundw
          case rel =>
            have hS : opStep rawText (r, left) x = (addR (addR r ⟨1, kk, noText⟩) ⟨2, 0, letters x.text 4⟩, (left - kk)) := by rw [HS.out]; simp [rawText]
            refine ⟨k + 1, v5, by omega, by omega, by go_num, ?_, hb5⟩
            rw [Hnx.out, hS]; exact Hbag5.out
          case measure => simp [intOf]; omega
        · have hdb2 : (db == 0) = false := by simpa using hdb
          go_wp2_with fail
          refine (add_any w.heap.size w.heap.size left ⟨1, kk, noText⟩ ⟨by simp only; omega, by simp only; omega, by simp only [noText_size]; omega⟩ r v _ (Mild.of hn' hk6 Hstk.out.left.1 Hstk.out.each) (by have := Hstk.out.len; simp only at this; omega) (Hbag.out.drewN _)).mono ?_
          rintro e w2 ⟨v2, rfl, hbag2, ht2, hat2⟩
          have hb2 : Below w.heap.size w w2 := (below_drewN hb _).trans (ht2.toBelow hb.size Hbag.out.sB)
          obtain ⟨hcb2, hfb2⟩ := bcell hb2
          have e1 := hbag2.cell 1
          have e2 := hbag2.frozen 1
          simp only [List.getElem?_cons_zero, List.getElem?_cons_succ] at e1
          have hput := hbag2.put1 (u := .int .i64 (left - kk))
          have Hput := Lib.hid hput
          have Hbag2 := Lib.hid hbag2
          clear hput hbag2 ht2 hat2
          go_wp2_with fail
          refine (Hpb.out _).mono ?_
          rintro e w3 ⟨rfl, rfl⟩
          have Hkeep := Lib.hid (Hstk.out.keep 1 (by omega) kk ⟨hkk.1, hkk.2⟩)
          simp only at Hkeep
          go_wp2
          go_roundw
          case rel =>
            have hS : opStep rawText (r, left) x = ((addR r ⟨1, kk, noText⟩), (left - kk)) := by rw [HS.out]; simp [hdb]
            refine ⟨k + 1, v2, by omega, by omega, by go_num, ?_, (hb2.setCell (p := ⟨w.heap.size, 1, none⟩) (Nat.le_refl _) (.int .i64 (left - kk)))⟩
            rw [Hnx.out, hS]; exact Hput.out
          case measure => simp [intOf]; omega
      · subst h4
        by_cases hdb : db = 0
        · subst hdb
          go_wp2_with fail
          refine (add_any w.heap.size w.heap.size left ⟨3, kk, noText⟩ ⟨by simp only; omega, by simp only; omega, by simp only [noText_size]; omega⟩ r v _ (Mild.of hn' hk6 Hstk.out.left.1 Hstk.out.each) (by have := Hstk.out.len; simp only at this; omega) (Hbag.out.drewN _)).mono ?_
          rintro e w2 ⟨v2, rfl, hbag2, ht2, hat2⟩
          have hb2 : Below w.heap.size w w2 := (below_drewN hb _).trans (ht2.toBelow hb.size Hbag.out.sB)
          obtain ⟨hcb2, hfb2⟩ := bcell hb2
          have e1 := hbag2.cell 1
          have e2 := hbag2.frozen 1
          simp only [List.getElem?_cons_zero, List.getElem?_cons_succ] at e1
          have hput := hbag2.put1 (u := .int .i64 (left - kk))
          have Hput := Lib.hid hput
          have Hbag2 := Lib.hid hbag2
          clear hput hbag2 ht2 hat2
          go_wp2_with fail
          refine (Hpb.out _).mono ?_
          rintro e w3 ⟨rfl, rfl⟩
          have Hkeep := Lib.hid (Hstk.out.keep 3 (by omega) kk ⟨hkk.1, hkk.2⟩)
          simp only at Hkeep
          go_wp2_with fail
          refine (opText_any x _ Hok.out).mono ?_
          rintro e w4 ⟨rfl, hb4⟩
          have hbW := (hb2.setCell (p := ⟨w.heap.size, 1, none⟩) (Nat.le_refl _) (.int .i64 (left - kk)))
          have hbW4 := hbW.trans (hb4.mono hbW.size)
          clear hbW
          have HbW4 := Lib.hid hbW4
          have hbag4 := Bag.below Hput.out hb4
          have Hbag4 := Lib.hid hbag4
          clear hbW4 hbag4
          go_wp2_with fail
          refine (add_any w.heap.size w.heap.size (left - kk) ⟨2, 0, letters x.text 4⟩ ⟨by simp only; omega, by simp only; omega, by have := letters_size x.text 4; simp only; omega⟩ (addR r ⟨3, kk, noText⟩) v2 _ (Mild.of hn' hk6 (by omega) Hkeep.out.1) (by have := Hkeep.out.2; (try simp only at this); omega) Hbag4.out).mono ?_
          rintro e w5 ⟨v5, rfl, hbag5, ht5, hat5⟩
          have hb5 : Below w.heap.size w w5 := HbW4.out.trans (ht5.toBelow HbW4.out.size Hbag4.out.sB)
          have Hbag5 := Lib.hid hbag5
          clear hbag5 ht5 hat5 hb4
          go_wp2
          go_roundw
          case rel =>
            have hS : opStep rawText (r, left) x = (addR (addR r ⟨3, kk, noText⟩) ⟨2, 0, letters x.text 4⟩, (left - kk)) := by rw [HS.out]; simp [rawText]
            refine ⟨k + 1, v5, by omega, by omega, by go_num, ?_, hb5⟩
            rw [Hnx.out, hS]; exact Hbag5.out
          case measure => simp [intOf]; omega
        · have hdb2 : (db == 0) = false := by simpa using hdb
          go_wp2_with fail
          refine (add_any w.heap.size w.heap.size left ⟨3, kk, noText⟩ ⟨by simp only; omega, by simp only; omega, by simp only [noText_size]; omega⟩ r v _ (Mild.of hn' hk6 Hstk.out.left.1 Hstk.out.each) (by have := Hstk.out.len; simp only at this; omega) (Hbag.out.drewN _)).mono ?_
          rintro e w2 ⟨v2, rfl, hbag2, ht2, hat2⟩
          have hb2 : Below w.heap.size w w2 := (below_drewN hb _).trans (ht2.toBelow hb.size Hbag.out.sB)
          obtain ⟨hcb2, hfb2⟩ := bcell hb2
          have e1 := hbag2.cell 1
          have e2 := hbag2.frozen 1
          simp only [List.getElem?_cons_zero, List.getElem?_cons_succ] at e1
          have hput := hbag2.put1 (u := .int .i64 (left - kk))
          have Hput := Lib.hid hput
          have Hbag2 := Lib.hid hbag2
          clear hput hbag2 ht2 hat2
          go_wp2_with fail
          refine (Hpb.out _).mono ?_
          rintro e w3 ⟨rfl, rfl⟩
          have Hkeep := Lib.hid (Hstk.out.keep 3 (by omega) kk ⟨hkk.1, hkk.2⟩)
          simp only at Hkeep
          go_wp2
          go_roundw
          case rel =>
            have hS : opStep rawText (r, left) x = ((addR r ⟨3, kk, noText⟩), (left - kk)) := by rw [HS.out]; simp [hdb]
            refine ⟨k + 1, v2, by omega, by omega, by go_num, ?_, (hb2.setCell (p := ⟨w.heap.size, 1, none⟩) (Nat.le_refl _) (.int .i64 (left - kk)))⟩
            rw [Hnx.out, hS]; exact Hput.out
          case measure => simp [intOf]; omega
      · subst h4
        by_cases hdb : db = 0
        · subst hdb
          go_wp2_with fail
          refine (Hpb.out _).mono ?_
          rintro e w3 ⟨rfl, rfl⟩
          go_wp2_with fail
          refine (opText_any x _ Hok.out).mono ?_
          rintro e w4 ⟨rfl, hb4⟩
          have hbW := (below_drewN hb nq)
          have hbW4 := hbW.trans (hb4.mono hbW.size)
          clear hbW
          have HbW4 := Lib.hid hbW4
          have hbag4 := Bag.below (Hbag.out.drewN nq) hb4
          have Hbag4 := Lib.hid hbag4
          clear hbW4 hbag4
          go_wp2_with fail
          refine (add_any w.heap.size w.heap.size left ⟨2, 0, letters x.text 4⟩ ⟨by simp only; omega, by simp only; omega, by have := letters_size x.text 4; simp only; omega⟩ r v _ (Mild.of hn' hk6 (by omega) Hstk.out.each) (by have := Hstk.out.len; (try simp only at this); omega) Hbag4.out).mono ?_
          rintro e w5 ⟨v5, rfl, hbag5, ht5, hat5⟩
          have hb5 : Below w.heap.size w w5 := HbW4.out.trans (ht5.toBelow HbW4.out.size Hbag4.out.sB)
          have Hbag5 := Lib.hid hbag5
          clear hbag5 ht5 hat5 hb4
          go_wp2
          go_roundw
          case rel =>
            have hS : opStep rawText (r, left) x = (addR r ⟨2, 0, letters x.text 4⟩, left) := by rw [HS.out]; simp [rawText]
            refine ⟨k + 1, v5, by omega, by omega, by go_num, ?_, hb5⟩
            rw [Hnx.out, hS]; exact Hbag5.out
          case measure => simp [intOf]; omega
        · have hdb2 : (db == 0) = false := by simpa using hdb
          go_wp2_with fail
          refine (Hpb.out _).mono ?_
          rintro e w3 ⟨rfl, rfl⟩
          go_wp2
          go_roundw
          case rel =>
            have hS : opStep rawText (r, left) x = (r, left) := by rw [HS.out]; simp [hdb]
            refine ⟨k + 1, v, by omega, by omega, by go_num, ?_, (below_drewN hb _)⟩
            rw [Hnx.out, hS]; exact (Hbag.out.drewN _)
          case measure => simp [intOf]; omega
    · have hfk : l.take k = l.take 6 := by
        have := Hl.out
        rw [List.take_eq_take_iff]
        omega
      rw [hfk] at hbag hstk
      have Hfin : Hid (opOf rawText n l = (addR (opRun rawText n (l.take 6)).1 ⟨1, (opRun rawText n (l.take 6)).2, noText⟩).reverse) := rfl
      rw [hfk] at hc1 hc0 hv
      clear hfk
      generalize opRun rawText n (l.take 6) = st at *
      obtain ⟨r, left⟩ := st
      have hleft := hstk.left
      simp only at hc1 hleft hbag Hfin
      have Hstk := Lib.hid hstk
      have Hbag := Lib.hid hbag
      have Hv := Lib.hid hv
      clear hstk hbag hv
      by_cases hlt2 : k < m
      all_goals
        have hx : Hid True := trivial
        (try have h6 : ¬ k < 6 := fun h => hgo ⟨hlt2, h⟩)
        clear hgo
        go_wp2_with fail
        refine (add_any w.heap.size w.heap.size left ⟨1, left, noText⟩ ⟨by simp only; omega, by simp only; omega, by simp only [noText_size]; omega⟩ r v _ (Mild.of hn' hk6 Hstk.out.left.1 Hstk.out.each) (by have := Hstk.out.len; simp only at this; omega) Hbag.out).mono ?_
        rintro e w2 ⟨v2, rfl, hbag2, ht2, hat2⟩
        have hb2 : Below w.heap.size w w2 := hb.trans (ht2.toBelow hb.size Hbag.out.sB)
        obtain ⟨a2, c2, hv2⟩ := hbag2.form
        have hown2 := hbag2.own
        have d0 := hbag2.cell 0
        simp only [List.getElem?_cons_zero] at d0
        rw [hv2] at hown2 d0
        rw [← Hfin.out] at hown2 d0
        have Hown2 := Lib.hid hown2
        clear hown2 hbag2 ht2 hat2 hv2
        go_wp2_with fail
        go_ret
        exact ⟨a2, c2, rfl, Hown2.out, hb2⟩
end Go.Proofs.YtkhacogeffidoaaDoor

set_option linter.unusedVariables false
set_option linter.unusedSimpArgs false
namespace Go.Proofs.YtkhacogeffidoaaDoor
open Go.RowKit

structure Fr where
  kind : Int
  heard : Int
  epoch : Int
  op : Op
  text : Str
instance : Rep Fr where
  n := 5
  rd := fun A w f cs => ∃ a n c, cs = [.int .i64 f.kind, .int .i64 f.heard, .int .i64 f.epoch, .slice a n c, .string f.text] ∧ RdS A w f.op a n c ∧ I64 f.kind ∧ I64 f.heard ∧ I64 f.epoch ∧ f.text.size ≤ strMax
  len := fun ⟨_, _, _, h, _⟩ => by rw [h]; rfl
  mono := fun h ⟨a, n, c, e, hr, h2⟩ => ⟨a, n, c, e, hr.mono h, h2⟩
  one := fun ⟨_, _, _, h, _⟩ => by rw [h]; simp [Value.oneCell']
  pos := by decide
def Fr.check (f : Fr) : Int := checkFrame f.kind f.heard f.epoch f.op f.text
/-- a frame whose numbers fit -/
def Fr.fits (f : Fr) : Prop := I64 f.kind ∧ I64 f.heard ∧ I64 f.epoch ∧ f.text.size ≤ strMax
structure Pkt where
  epoch : Int
  number : Int
  bare : Bool
  ack : Int
  f : Fr
def bareFr : Fr := ⟨0, 0, 0, [], noText⟩
instance : Rep Pkt where
  n := 9
  rd := fun A w p cs => ∃ a n c, cs = [.int .i64 p.epoch, .int .i64 p.number, .bool p.bare, .int .i64 p.ack, .int .i64 p.f.kind, .int .i64 p.f.heard, .int .i64 p.f.epoch, .slice a n c, .string p.f.text] ∧ RdS A w p.f.op a n c ∧ I64 p.epoch ∧ I64 p.number ∧ I64 p.ack ∧ p.f.fits
  len := fun ⟨_, _, _, h, _⟩ => by rw [h]; rfl
  mono := fun h ⟨a, n, c, e, hr, h2⟩ => ⟨a, n, c, e, hr.mono h, h2⟩
  one := fun ⟨_, _, _, h, _⟩ => by rw [h]; simp [Value.oneCell']
  pos := by decide
/-- one side of a session -/
structure Lk where
  epoch : Int
  next : Int
  sent : List Fr
  queue : List Fr
  heard : Int
/-- one of two sides that keep a text together -/
structure Ed where
  sent : Int
  heard : Int
  pending : List Op
/-- one frame of a slice of frames -/
theorem RdS.frame {A : Nat → Prop} {w : World} {l : List Fr} {a : Option Addr} {n c : Nat} (hr : RdS A w l a n c) (hn : 0 < n) :
    ∃ b off, a = some ⟨b, off, none⟩ ∧ A b ∧ b < w.heap.size ∧ ∀ i (h : i < l.length), ∃ a' n' c', RdS A w l[i].op a' n' c' ∧ l[i].fits ∧ w.cell? ⟨b, off + i * 5, none⟩ = some (.int .i64 l[i].kind) ∧ w.cell? ⟨b, off + i * 5 + 1, none⟩ = some (.int .i64 l[i].heard) ∧
      w.cell? ⟨b, off + i * 5 + 1 + 1, none⟩ = some (.int .i64 l[i].epoch) ∧ w.cell? ⟨b, off + i * 5 + 1 + 1 + 1, none⟩ = some (.slice a' n' c') ∧ w.cell? ⟨b, off + i * 5 + 1 + 1 + 1 + 1, none⟩ = some (.string l[i].text) := by
  obtain ⟨b, off, e, hA, hb, he⟩ := hr.2.2.2.2 hn
  refine ⟨b, off, e, hA, hb, fun i h => ?_⟩
  obtain ⟨xs, ⟨a', n', c', rfl, h1, h2⟩, h4⟩ := he i l[i] (List.getElem?_eq_getElem h)
  exact ⟨a', n', c', h1, h2, h4 0 _ rfl, h4 1 _ rfl, h4 2 _ rfl, h4 3 _ rfl, h4 4 _ rfl⟩
theorem RdS.rowO {α : Type} [Rep α] {A : Nat → Prop} {w : World} {ls : List (List α)} {a : Option Addr} {n c : Nat} (hr : RdS A w ls a n c) (hn : 0 < n) :
    ∃ b off, a = some ⟨b, off, none⟩ ∧ A b ∧ b < w.heap.size ∧ ∀ i (h : i < ls.length), ∃ a' n' c', RdS A w ls[i] a' n' c' ∧ w.cell? ⟨b, off + i, none⟩ = some (.slice a' n' c') := by
  obtain ⟨b, off, e, hA, hb, he⟩ := hr.2.2.2.2 hn
  refine ⟨b, off, e, hA, hb, fun i h => ?_⟩
  obtain ⟨xs, ⟨a', n', c', rfl, h1⟩, h4⟩ := he i ls[i] (List.getElem?_eq_getElem h)
  have h5 := h4 0 _ rfl
  refine ⟨a', n', c', h1, ?_⟩
  have e1 : off + i * Rep.n (List α) + 0 = off + i := by show off + i * 1 + 0 = off + i; omega
  rw [e1] at h5
  exact h5
end Go.Proofs.YtkhacogeffidoaaDoor

set_option linter.unusedVariables false
set_option linter.unusedSimpArgs false
namespace Go.Proofs.YtkhacogeffidoaaDoor
open Go.RowKit

theorem bytes_ext {a b : ByteArray} (h : a.data.toList = b.data.toList) : a = b := by
  apply ByteArray.ext
  exact Array.ext' h
theorem enc_dec_str (s : Str) (h : valid s = true) : Uni.enc (Uni.dec s.data.toList) = s ∧ ∀ r ∈ Uni.dec s.data.toList, Uni.vr r := by
  obtain ⟨h1, h2⟩ := Uni.enc_dec_all s.data.toList h
  refine ⟨bytes_ext ?_, h2⟩
  unfold Uni.enc
  simp only
  exact h1
theorem valid_ex {s : Str} (h : valid s = true) : ∃ rs, s = Uni.enc rs ∧ ∀ r ∈ rs, Uni.vr r := ⟨_, (enc_dec_str s h).1.symm, (enc_dec_str s h).2⟩
theorem enc_append (a b : List Nat) : Uni.enc (a ++ b) = Uni.enc a ++ Uni.enc b := by
  apply bytes_ext
  simp [Uni.enc, Uni.encL_append, ByteArray.data_append]
theorem append_valid {a b : Str} (ha : valid a = true) (hb : valid b = true) : valid (a ++ b) = true ∧ rc (a ++ b) = rc a + rc b := by
  obtain ⟨x, rfl, hx⟩ := valid_ex ha
  obtain ⟨y, rfl, hy⟩ := valid_ex hb
  have h : ∀ r ∈ x ++ y, Uni.vr r := fun r hr => by
    rcases List.mem_append.1 hr with h | h
    · exact hx r h
    · exact hy r h
  rw [← enc_append, valid_enc _ h, rc_enc _ h, rc_enc _ hx, rc_enc _ hy, List.length_append]
  exact ⟨rfl, by push_cast; rfl⟩
theorem loop_len (s : ByteArray) : ∀ (n i : Nat) (r : List UInt8), s.size - i ≤ n → (ByteArray.toList.loop s i r).length = r.length + (s.size - i) := by
  intro n
  induction n with
  | zero =>
    intro i r h
    unfold ByteArray.toList.loop
    rw [if_neg (by omega), List.length_reverse]
    omega
  | succ n ih =>
    intro i r h
    unfold ByteArray.toList.loop
    split
    · rw [ih _ _ (by omega), List.length_cons]
      omega
    · rw [List.length_reverse]
      omega
theorem emptyS_iff (s : Str) : emptyS s = true ↔ s.size = 0 := by
  unfold emptyS
  rw [List.isEmpty_iff, ← List.length_eq_zero_iff]
  unfold ByteArray.toList
  rw [loop_len s s.size 0 [] (by omega)]
  simp
theorem noText_valid : valid noText = true := rfl
theorem rc_noText : rc noText = 0 := rfl
theorem emptyS_noText : emptyS noText = true := by rw [emptyS_iff]; rfl
theorem emptyS_append (a b : Str) : emptyS (a ++ b) = (emptyS a && emptyS b) := by
  have h1 := emptyS_iff a
  have h2 := emptyS_iff b
  have h3 := emptyS_iff (a ++ b)
  rw [size_app] at h3
  rw [Bool.eq_iff_iff, Bool.and_eq_true, h1, h2, h3]
  omega
theorem app_noText (a : Str) : a ++ noText = a := by apply bytes_ext; simp [noText, ByteArray.data_append]
theorem noText_app (a : Str) : noText ++ a = a := by apply bytes_ext; simp [noText, ByteArray.data_append]
theorem eq_noText {s : Str} (h : emptyS s = true) : s = noText := by
  rw [emptyS_iff] at h
  apply bytes_ext
  have : s.data.toList.length = 0 := by simpa using h
  rw [List.eq_nil_of_length_eq_zero this]; rfl
theorem rc_empty {s : Str} (h : emptyS s = true) : rc s = 0 := by rw [eq_noText h]; rfl

/-- a part that may be added: a keep or a delete of so many runes, or an insert of a text -/
def Proto (p : Part) : Prop := ((p.kind = 1 ∨ p.kind = 3) ∧ 0 ≤ p.n ∧ p.text = noText) ∨ (p.kind = 2 ∧ p.n = 0 ∧ valid p.text = true)
/-- .. and that is not for nothing -/
def Solid (p : Part) : Prop := ((p.kind = 1 ∨ p.kind = 3) ∧ 1 ≤ p.n ∧ p.text = noText) ∨ (p.kind = 2 ∧ p.n = 0 ∧ valid p.text = true ∧ emptyS p.text = false)
/-- parts, the last one first, in their one form -/
def Canon : List Part → Prop
  | [] => True
  | [p] => Solid p
  | p :: q :: r => Solid p ∧ clash q.kind p.kind = false ∧ Canon (q :: r)
theorem Canon.tail {p : Part} {r : List Part} (h : Canon (p :: r)) : Canon r := by
  cases r with
  | nil => trivial
  | cons q r => exact h.2.2
theorem Canon.head {p : Part} {r : List Part} (h : Canon (p :: r)) : Solid p := by
  cases r with
  | nil => exact h
  | cons q r => exact h.1
theorem Canon.all {r : List Part} (h : Canon r) : ∀ p ∈ r, Solid p := by
  induction r with
  | nil => simp
  | cons q r ih =>
    intro p hp
    rcases List.mem_cons.1 hp with rfl | hp
    · exact h.head
    · exact ih h.tail p hp
theorem Canon.cons {p : Part} {r : List Part} (h : Canon r) (hp : Solid p) (hc : ∀ q, r.head? = some q → clash q.kind p.kind = false) : Canon (p :: r) := by
  cases r with
  | nil => exact hp
  | cons q r => exact ⟨hp, hc q rfl, h⟩
theorem Proto.solid {p : Part} (h : Proto p) (ht : triv p = false) : Solid p := by
  rcases h with ⟨hk, hn, ht2⟩ | ⟨hk, hn, hv⟩
  · left
    refine ⟨hk, ?_, ht2⟩
    have : p.n ≠ 0 := by
      intro h0
      rcases hk with hk | hk <;> simp [triv, hk, h0] at ht
    omega
  · right
    refine ⟨hk, hn, hv, ?_⟩
    simpa [triv, hk] using ht
theorem Solid.proto {p : Part} (h : Solid p) : Proto p := by
  rcases h with ⟨a, b, c⟩ | ⟨a, b, c, _⟩
  · exact .inl ⟨a, by omega, c⟩
  · exact .inr ⟨a, b, c⟩
theorem merge_solid {p q : Part} (hq : Solid q) (hp : Proto p) (hk : q.kind = p.kind) : Solid ⟨q.kind, q.n + p.n, q.text ++ p.text⟩ := by
  rcases hq with ⟨a, b, c⟩ | ⟨a, b, c, d⟩
  · rcases hp with ⟨a', b', c'⟩ | ⟨a', _, _⟩
    · exact .inl ⟨a, by simp only; omega, by simp only [c, c', app_noText]⟩
    · omega
  · rcases hp with ⟨a', _, _⟩ | ⟨a', b', c'⟩
    · omega
    · exact .inr ⟨a, by simp only; omega, (append_valid c c').1, by simp only [emptyS_append, d, Bool.false_and]⟩
theorem clash_false {q p : Int} (h1 : ¬ q = p) (h2 : ¬ (p = 2 ∧ q = 3)) : clash q p = false := by
  unfold clash; simp; exact ⟨h1, fun h => fun h' => h2 ⟨h', h⟩⟩
/-- added parts stand in their one form; what a text of parts begins with is said, too -/
theorem addR_canon {p : Part} (hp : Proto p) : ∀ {r : List Part}, Canon r → Canon (addR r p) ∧ (triv p = false → p.kind = 2 → (∀ q, r.head? = some q → q.kind ≠ 3) → ∀ q, (addR r p).head? = some q → q.kind = 2)
  | [], _ => by
    cases ht : triv p with
    | true => simp [addR, ht, Canon]
    | false => rw [addR_nil ht]; exact ⟨hp.solid ht, fun _ hk _ q hq => by simp at hq; rw [← hq]; exact hk⟩
  | q :: r, hc => by
    cases ht : triv p with
    | true => simp only [addR, ht]; exact ⟨hc, fun h => by cases h⟩
    | false =>
      by_cases h1 : q.kind = p.kind
      · rw [addR_merge ht h1]
        refine ⟨hc.tail.cons (merge_solid hc.head hp h1) (fun x hx => ?_), fun _ hk _ y hy => by simp at hy; rw [← hy]; simp only; omega⟩
        cases r with
        | nil => cases hx
        | cons z r => simp at hx; subst hx; exact hc.2.1
      · by_cases h2 : p.kind = 2 ∧ q.kind = 3
        · rw [addR_swap ht h1 h2]
          have ih := addR_canon hp hc.tail
          have hh : ∀ x, r.head? = some x → x.kind ≠ 3 := by
            intro x hx
            cases r with
            | nil => cases hx
            | cons z r =>
              simp at hx; subst hx
              have := hc.2.1
              unfold clash at this
              simp at this
              omega
          refine ⟨ih.1.cons hc.head (fun x hx => ?_), fun _ _ hq => absurd h2.2 (hq q rfl)⟩
          have := ih.2 ht h2.1 hh x hx
          rw [this, h2.2]; rfl
        · rw [addR_more ht h1 h2]
          exact ⟨⟨hp.solid ht, clash_false h1 h2, hc⟩, fun _ hk _ y hy => by simp at hy; rw [← hy]; exact hk⟩

theorem sum_perm (f : Part → Int) (r : List Part) : (r.reverse.map f).sum = (r.map f).sum := by
  induction r with
  | nil => rfl
  | cons p r ih => simp only [List.reverse_cons, List.map_append, List.sum_append, ih, List.map_cons, List.sum_cons, List.map_nil, List.sum_nil]; omega
theorem addR_sum (f : Part → Int) (P : Part → Prop) {p : Part} (hp : P p) (h0 : triv p = true → f p = 0) (hadd : ∀ q, P q → q.kind = p.kind → f ⟨q.kind, q.n + p.n, q.text ++ p.text⟩ = f q + f p) : ∀ r : List Part, (∀ q ∈ r, P q) → ((addR r p).map f).sum = (r.map f).sum + f p
  | [], _ => by
    cases ht : triv p with
    | true => simp [addR, ht, h0 ht]
    | false => rw [addR_nil ht]; simp
  | q :: r, hr => by
    cases ht : triv p with
    | true => simp [addR, ht, h0 ht]
    | false =>
      by_cases h1 : q.kind = p.kind
      · rw [addR_merge ht h1]
        simp only [List.map_cons, List.sum_cons]
        rw [hadd q (hr q (by simp)) h1]
        omega
      · by_cases h2 : p.kind = 2 ∧ q.kind = 3
        · rw [addR_swap ht h1 h2]
          have ih := addR_sum f P hp h0 hadd r (fun q h => hr q (by simp [h]))
          simp only [List.map_cons, List.sum_cons]
          omega
        · rw [addR_more ht h1 h2]
          simp only [List.map_cons, List.sum_cons]
          omega
theorem lenF_triv {p : Part} (h : triv p = true) : lenF p = 0 := by
  unfold triv at h; unfold lenF
  simp at h
  split
  · rename_i hk; rcases h with h | h
    · exact h.2
    · omega
  · rfl
theorem lenT_triv {p : Part} (h : triv p = true) : lenT p = 0 := by
  unfold triv at h; unfold lenT
  simp at h
  split
  · rename_i hk; rcases h with h | h
    · exact h.2
    · omega
  · split
    · rename_i hk; rcases h with h | h
      · exact absurd hk h.1
      · exact rc_empty h.2
    · rfl
theorem lenF_merge (q p : Part) (hk : q.kind = p.kind) : lenF ⟨q.kind, q.n + p.n, q.text ++ p.text⟩ = lenF q + lenF p := by
  unfold lenF; simp only [hk]; split <;> omega
theorem lenT_merge {q p : Part} (hq : Proto q) (hp : Proto p) (hk : q.kind = p.kind) : lenT ⟨q.kind, q.n + p.n, q.text ++ p.text⟩ = lenT q + lenT p := by
  unfold lenT; simp only [hk]
  split
  · rfl
  · split
    · rename_i h1 h2
      rcases hq with ⟨a, _, _⟩ | ⟨_, _, c⟩
      · omega
      · rcases hp with ⟨a, _, _⟩ | ⟨_, _, c'⟩
        · omega
        · exact (append_valid c c').2
    · rfl
theorem addR_sumF {p : Part} (r : List Part) : sumF (addR r p) = sumF r + lenF p := addR_sum lenF (fun _ => True) trivial lenF_triv (fun _ _ hk => lenF_merge _ p hk) r (fun _ _ => trivial)
theorem addR_sumT {p : Part} (hp : Proto p) (r : List Part) (hr : Canon r) : sumT (addR r p) = sumT r + lenT p := addR_sum lenT Proto hp lenT_triv (fun _ hq hk => lenT_merge hq hp hk) r (fun q h => (hr.all q h).proto)

/-! ### what is made of raw things may be -/
structure Lays (n : Int) (i : Nat) (st : List Part × Int) : Prop where
  canon : Canon st.1
  sumF : sumF st.1 + st.2 = n
  left : 0 ≤ st.2
  sumT : 0 ≤ sumT st.1 ∧ sumT st.1 + st.2 ≤ n + 4 * i
theorem proto_keep (k : Int) (h : 0 ≤ k) : Proto ⟨1, k, noText⟩ := .inl ⟨.inl rfl, h, rfl⟩
theorem proto_del (k : Int) (h : 0 ≤ k) : Proto ⟨3, k, noText⟩ := .inl ⟨.inr rfl, h, rfl⟩
theorem proto_ins (t : Str) (h : valid t = true) : Proto ⟨2, 0, t⟩ := .inr ⟨rfl, rfl, h⟩
theorem letters_valid (s : Str) (m : Nat) : valid (letters s m) = true := valid_enc _ (lets_vr s m)
theorem letters_rc (s : Str) (m : Nat) : rc (letters s m) = min m s.size := by
  unfold letters; rw [rc_enc _ (lets_vr s m), lets_len]
theorem lenF_keep (k : Int) : lenF ⟨1, k, noText⟩ = k := by simp [lenF]
theorem lenT_keep (k : Int) : lenT ⟨1, k, noText⟩ = k := by simp [lenT]
theorem lenF_del (k : Int) : lenF ⟨3, k, noText⟩ = k := by simp [lenF]
theorem lenT_del (k : Int) : lenT ⟨3, k, noText⟩ = 0 := by simp [lenT]
theorem lenF_ins (t : Str) : lenF ⟨2, 0, t⟩ = 0 := by simp [lenF]
theorem lenT_ins (t : Str) : lenT ⟨2, 0, t⟩ = rc t := by simp [lenT]
/-- what the texts of raw things are to be -/
def Texts (f : Raw → Str) : Prop := ∀ x, valid (f x) = true ∧ rc (f x) ≤ 4
theorem opStep_lays {n : Int} {i : Nat} {st : List Part × Int} {f : Raw → Str} (hf : Texts f) (x : Raw) (h : Lays n i st) : Lays n (i + 1) (opStep f st x) := by
  have h1 := h.left
  have h2 := h.sumF
  have h3 := h.sumT
  have ha := pk_range x.a 6 (by omega)
  have hk1 : 0 ≤ min (pk x.a 6) st.2 := by omega
  have hk2 : min (pk x.a 6) st.2 ≤ st.2 := by omega
  have hr := hf x
  have hr0 := rc_nonneg (f x)
  have main : ∀ st1 : List Part × Int, Lays n i st1 → Lays n (i + 1) (if pk x.b 2 = 0 then (addR st1.1 ⟨2, 0, f x⟩, st1.2) else st1) := by
    intro st1 g
    have g3 := g.sumT
    by_cases hb : pk x.b 2 = 0
    · rw [if_pos hb]
      exact ⟨(addR_canon (proto_ins _ hr.1) g.canon).1, by simp only [addR_sumF, lenF_ins]; have := g.sumF; omega, g.left, by simp only [addR_sumT (proto_ins _ hr.1) _ g.canon, lenT_ins]; push_cast; omega⟩
    · rw [if_neg hb]
      exact ⟨g.canon, g.sumF, g.left, by push_cast; omega⟩
  unfold opStep
  simp only
  generalize min (pk x.a 6) st.2 = k at *
  by_cases c1 : pk x.kind 4 = 0 ∨ pk x.kind 4 = 1
  · rw [if_pos c1]
    exact main _ ⟨(addR_canon (proto_keep k hk1) h.canon).1, by simp only [addR_sumF, lenF_keep]; omega, by simp only; omega, by simp only [addR_sumT (proto_keep k hk1) _ h.canon, lenT_keep]; omega⟩
  · rw [if_neg c1]
    by_cases c2 : pk x.kind 4 = 2
    · rw [if_pos c2]
      exact main _ ⟨(addR_canon (proto_del k hk1) h.canon).1, by simp only [addR_sumF, lenF_del]; omega, by simp only; omega, by simp only [addR_sumT (proto_del k hk1) _ h.canon, lenT_del]; omega⟩
    · rw [if_neg c2]
      exact main _ h
theorem opRun_lays {f : Raw → Str} (hf : Texts f) (n : Int) (hn : 0 ≤ n) (l : List Raw) : ∀ k, k ≤ l.length → Lays n k (opRun f n (l.take k)) := by
  intro k
  induction k with
  | zero => intro _; simp only [List.take_zero, opRun, List.foldl_nil]; exact ⟨trivial, by simp [sumF], hn, by simp [sumT]⟩
  | succ k ih =>
    intro hk
    rw [opRun_next f n l k (by omega)]
    exact opStep_lays hf _ (ih (by omega))
theorem opOf_lays {f : Raw → Str} (hf : Texts f) (n : Int) (hn : 0 ≤ n) (l : List Raw) : ∃ r, opOf f n l = r.reverse ∧ Canon r ∧ sumF r = n ∧ 0 ≤ sumT r ∧ sumT r ≤ n + 24 := by
  have h := opRun_lays hf n hn (l.take 6) (l.take 6).length (Nat.le_refl _)
  rw [List.take_length] at h
  have h3 := h.sumT
  have hl : (l.take 6).length ≤ 6 := by rw [List.length_take]; omega
  refine ⟨_, rfl, (addR_canon (proto_keep _ h.left) h.canon).1, by rw [addR_sumF, lenF_keep]; exact h.sumF, ?_, ?_⟩
  · rw [addR_sumT (proto_keep _ h.left) _ h.canon, lenT_keep]; have := h.left; omega
  · rw [addR_sumT (proto_keep _ h.left) _ h.canon, lenT_keep]; omega

theorem lens_nonneg {p : Part} (h : Solid p) : 0 ≤ lenF p ∧ 0 ≤ lenT p := by
  have := rc_nonneg p.text
  unfold lenF lenT
  rcases h with ⟨hk, hn, _⟩ | ⟨hk, hn, _⟩
  · rcases hk with hk | hk <;> simp [hk] <;> omega
  · simp [hk]; omega
theorem le_sum (f : Part → Int) : ∀ r : List Part, (∀ p ∈ r, 0 ≤ f p) → 0 ≤ (r.map f).sum ∧ ∀ p ∈ r, f p ≤ (r.map f).sum
  | [], _ => by simp
  | q :: r, h => by
    have h1 := le_sum f r (fun p hp => h p (by simp [hp]))
    have h2 := h q (by simp)
    simp only [List.map_cons, List.sum_cons]
    refine ⟨by omega, fun p hp => ?_⟩
    rcases List.mem_cons.1 hp with rfl | hp
    · omega
    · have := h1.2 p hp; omega
theorem solid_ok {p : Part} (h : Solid p) (hf : lenF p ≤ 4000) (ht : lenT p ≤ 4000) : partOk p = 0 := by
  unfold partOk checkText
  unfold lenF at hf
  unfold lenT at ht
  rcases h with ⟨hk, hn, h3⟩ | ⟨hk, hn, hv, he⟩
  · rw [if_pos hk] at hf ⊢
    rw [if_neg (by omega), h3, emptyS_noText]; rfl
  · simp [hk] at ht
    rw [if_neg (by omega), if_pos hk, hv, hn, he]
    simp
    omega
def clashO (q : Option Int) (k : Int) : Bool := match q with | some q => clash q k | none => false
def lastK (q : Option Int) (l : Op) : Option Int := match l.getLast? with | some x => some x.kind | none => q
theorem checkFrom_snoc (p : Part) (hp : partOk p = 0) : ∀ (l : Op) (q : Option Int), checkFrom q l = 0 → clashO (lastK q l) p.kind = false → checkFrom q (l ++ [p]) = 0
  | [], q, _, hc => by
    rw [List.nil_append, checkFrom_drop q p [] hp hc]; rfl
  | x :: l, q, h, hc => by
    have hx : partOk x = 0 := by
      by_cases h0 : partOk x = 0
      · exact h0
      · cases q <;> simp only [checkFrom] at h <;> rw [if_pos h0] at h <;> exact h
    have hq : clashO q x.kind = false := by
      cases hh : clashO q x.kind with
      | false => rfl
      | true => rw [checkFrom_clash q x l hx hh] at h; omega
    rw [checkFrom_drop q x l hx hq] at h
    rw [List.cons_append, checkFrom_drop q x _ hx hq]
    refine checkFrom_snoc p hp l (some x.kind) h ?_
    cases l with
    | nil => exact hc
    | cons y l =>
      have e : lastK q (x :: y :: l) = lastK (some x.kind) (y :: l) := by
        unfold lastK; rw [List.getLast?_cons_cons, List.getLast?_eq_some_getLast (by simp)]
      rw [← e]; exact hc
theorem canon_from : ∀ (r : List Part), Canon r → (∀ p ∈ r, partOk p = 0) → checkFrom none r.reverse = 0
  | [], _, _ => rfl
  | p :: r, hc, h => by
    rw [List.reverse_cons]
    refine checkFrom_snoc p (h p (by simp)) _ none (canon_from r hc.tail (fun q hq => h q (by simp [hq]))) ?_
    cases r with
    | nil => rfl
    | cons q r => unfold lastK; simp; exact hc.2.1
/-- parts in their one form, that are not too long, may be -/
theorem canon_check {r : List Part} (hc : Canon r) (hl : r.length ≤ 8001) (hf : sumF r ≤ 4000) (ht : sumT r ≤ 4000) : check r.reverse = 0 := by
  have ef : sumF r.reverse = sumF r := sum_perm lenF r
  have et : sumT r.reverse = sumT r := sum_perm lenT r
  have hF := (le_sum lenF r (fun p hp => (lens_nonneg (hc.all p hp)).1)).2
  have hT := (le_sum lenT r (fun p hp => (lens_nonneg (hc.all p hp)).2)).2
  have hok : ∀ p ∈ r, partOk p = 0 := fun p hp => solid_ok (hc.all p hp) (by have := hF p hp; unfold sumF at hf; omega) (by have := hT p hp; unfold sumT at ht; omega)
  unfold check
  rw [if_neg (by rw [List.length_reverse]; omega), canon_from r hc hok, ef, et, if_neg (by simp), if_neg (by omega)]
theorem opRun_len (f : Raw → Str) (n : Int) (l : List Raw) : (opRun f n l).1.length ≤ 2 * l.length := by
  unfold opRun
  have key : ∀ (l : List Raw) (st : List Part × Int), (l.foldl (opStep f) st).1.length ≤ st.1.length + 2 * l.length := by
    intro l
    induction l with
    | nil => intro st; simp
    | cons x l ih =>
      intro st
      have h1 := ih (opStep f st x)
      have h2 : (opStep f st x).1.length ≤ st.1.length + 2 := by
        unfold opStep
        simp only
        have a1 := fun k t => addR_len st.1 ⟨1, k, t⟩
        have a3 := fun k t => addR_len st.1 ⟨3, k, t⟩
        (repeat' split) <;> (try simp only) <;> (first | (refine Nat.le_trans (addR_len _ _) ?_) | skip) <;> (first | (refine Nat.le_trans (Nat.add_le_add_right (addR_len _ _) 1) ?_) | skip) <;> (first | omega | (have := addR_len st.1 ⟨1, min (pk x.a 6) st.2, noText⟩; have := addR_len st.1 ⟨3, min (pk x.a 6) st.2, noText⟩; omega))
      simp only [List.foldl_cons, List.length_cons]
      omega
  have := key l ([], n)
  simpa using this
theorem opOf_len (f : Raw → Str) (n : Int) (l : List Raw) : (opOf f n l).length ≤ 13 := by
  unfold opOf
  simp only [List.length_reverse]
  have h1 := addR_len (opRun f n (l.take 6)).1 ⟨1, (opRun f n (l.take 6)).2, noText⟩
  have h2 := opRun_len f n (l.take 6)
  rw [List.length_take] at h2
  omega
/-- WHAT IS MADE OF RAW THINGS MAY BE, and fits its text -/
theorem opOf_good {f : Raw → Str} (hf : Texts f) (n : Int) (hn : 0 ≤ n) (hn' : n ≤ 3976) (l : List Raw) : check (opOf f n l) = 0 ∧ sumF (opOf f n l) = n ∧ 0 ≤ sumT (opOf f n l) ∧ sumT (opOf f n l) ≤ n + 24 := by
  obtain ⟨r, e, hc, h1, h2, h3⟩ := opOf_lays hf n hn l
  have hlen := opOf_len f n l
  rw [e] at hlen ⊢
  rw [List.length_reverse] at hlen
  have ef : sumF r.reverse = sumF r := sum_perm lenF r
  have et : sumT r.reverse = sumT r := sum_perm lenT r
  exact ⟨canon_check hc (by omega) (by omega) (by omega), by rw [ef]; exact h1, by rw [et]; exact h2, by rw [et]; exact h3⟩
theorem texts_letters : Texts rawText := fun x => ⟨letters_valid _ _, by unfold rawText; rw [letters_rc]; omega⟩

/-! ### the walk of Op -/
theorem opOf_fits {f : Raw → Str} (hf : ∀ x, (f x).size ≤ 16) (n : Int) (hn : 0 ≤ n) (hn' : n ≤ 1000000000) (l : List Raw) : ∀ p ∈ opOf f n l, I64 p.kind ∧ I64 p.n ∧ p.text.size ≤ strMax := by
  have h := opRun_stands f n hn (l.take 6) (fun x _ => hf x) (l.take 6).length (Nat.le_refl _)
  rw [List.take_length] at h
  have hl : (l.take 6).length ≤ 6 := by rw [List.length_take]; omega
  have h2 := (h.keep 1 (by omega) _ ⟨h.left.1, Int.le_refl _⟩).1
  intro p hp
  unfold opOf at hp
  simp only [List.mem_reverse] at hp
  have := h2 p hp
  unfold I64 strMax
  omega
theorem opOf_rd {f : Raw → Str} (hf : ∀ x, (f x).size ≤ 16) {n : Int} (hn : 0 ≤ n) (hn' : n ≤ 1000000000) {l : List Raw} {w w' : World} {a : Option Addr} {c : Nat}
    (h : w'.ownsRow w.heap.size 110 3 (.slice a (opOf f n l).length c) (opOf f n l).length (flat (opOf f n l))) : RdS (fun b => w.heap.size ≤ b) w' (opOf f n l) a (opOf f n l).length c := by
  have hp := opOf_fits hf n hn hn' l
  generalize opOf f n l = o at *
  obtain ⟨a', n', c', hv, hr⟩ := RdS.of_row (α := Part) (A := fun b => w.heap.size ≤ b) h (fun b hb => (h.lt b hb).1) (fun i x hx => ⟨partCells x, ⟨rfl, hp x (List.mem_of_getElem? hx)⟩, fun j u hu => by
    obtain ⟨h1, h2, h3⟩ := flat_at o i x hx
    simp only [Rep.n]
    match j, hu with
    | 0, hu => simp [partCells] at hu; rw [← hu]; exact h1
    | 1, hu => simp [partCells] at hu; rw [← hu]; exact h2
    | 2, hu => simp [partCells] at hu; rw [← hu]; exact h3⟩)
  have e := (Value.slice.injEq .. ▸ hv : a = a' ∧ o.length = n' ∧ c = c')
  obtain ⟨rfl, rfl, rfl⟩ := e
  exact hr

set_option maxHeartbeats 400000 in
theorem mkOp_any (A : Nat → Prop) (n : Int) (l : List Raw) (a : Option Addr) (m c : Nat) (w : World) (hA : ∀ b, A b → b < w.heap.size) (hr : RdS A w l a m c) (hn : 0 ≤ n) (hn' : n ≤ 1000000000) :
    Calls Tryd.prog 29 #[.int .i64 n, .slice a m c] w fun e w' => ∃ a' c', e = .returned (.slice a' (mkOp n l).length c') ∧ RdS (fun b => w.heap.size ≤ b) w' (mkOp n l) a' (mkOp n l).length c' ∧ Below w.heap.size w w' := by
  have H := Lib.hid (op_any A n l a m c w hA hr hn hn')
  clear hr
  have Hrd : Hid (∀ (w' : World) (a' : Option Addr) (c' : Nat), w'.ownsRow w.heap.size 110 3 (.slice a' (mkOp n l).length c') (mkOp n l).length (flat (mkOp n l)) → RdS (fun b => w.heap.size ≤ b) w' (mkOp n l) a' (mkOp n l).length c') :=
    fun w' a' c' h => opOf_rd (fun x => by unfold rawText; have := letters_size x.text 4; omega) hn hn' h
  have e : ∀ w', OpPost n l rawText w w' = OpPost n l rawText w w' := fun _ => rfl
  clear e
  unfold OpPost at H
  change Hid (Calls _ _ _ _ fun e w' => ∃ a c, e = .returned (.slice a (mkOp n l).length c) ∧ w'.ownsRow w.heap.size 110 3 (.slice a (mkOp n l).length c) (mkOp n l).length (flat (mkOp n l)) ∧ Below w.heap.size w w') at H
  generalize mkOp n l = o at *
  go_enter Tryd.func29, Tryd.ntmps29
  go_wp2_with fail
  refine H.out.mono ?_
  rintro e w1 ⟨a1, c1, rfl, hown, hb⟩
  go_wp2_with fail
  go_ret
  exact ⟨a1, c1, rfl, Hrd.out _ _ _ hown, hb⟩
end Go.Proofs.YtkhacogeffidoaaDoor

set_option linter.unusedVariables false
set_option linter.unusedSimpArgs false
namespace Go.Proofs.YtkhacogeffidoaaDoor

/-- a part of an operation: so many runes kept, runes inserted, so many deleted -/
inductive P where
  | k (n : Nat)
  | i (l : List Nat)
  | d (n : Nat)
def P.F : P → Nat
  | .k n => n
  | .i _ => 0
  | .d n => n
def P.T : P → Nat
  | .k n => n
  | .i l => l.length
  | .d _ => 0
/-- its size -/
def P.z : P → Nat
  | .k n => n
  | .i l => l.length
  | .d n => n
/-- without its first n runes -/
def P.cut : P → Nat → P
  | .k m, n => .k (m - n)
  | .i l, n => .i (l.drop n)
  | .d m, n => .d (m - n)
def P.ok : P → Prop
  | .k n => 1 ≤ n
  | .i l => l ≠ [] ∧ ∀ r ∈ l, Uni.vr r
  | .d n => 1 ≤ n
def P.part : P → Part
  | .k n => ⟨1, n, noText⟩
  | .i l => ⟨2, 0, Uni.enc l⟩
  | .d n => ⟨3, n, noText⟩
def FS : List P → Nat
  | [] => 0
  | p :: r => p.F + FS r
def TS : List P → Nat
  | [] => 0
  | p :: r => p.T + TS r
def ZS : List P → Nat
  | [] => 0
  | p :: r => p.z + ZS r
theorem FS_app (a b : List P) : FS (a ++ b) = FS a + FS b := by
  induction a with
  | nil => simp [FS]
  | cons p a ih => simp only [List.cons_append, FS, ih]; omega
theorem TS_app (a b : List P) : TS (a ++ b) = TS a + TS b := by
  induction a with
  | nil => simp [TS]
  | cons p a ih => simp only [List.cons_append, TS, ih]; omega
theorem FS_rev (a : List P) : FS a.reverse = FS a := by
  induction a with
  | nil => rfl
  | cons p a ih => simp only [List.reverse_cons, FS_app, FS, ih]; omega
theorem TS_rev (a : List P) : TS a.reverse = TS a := by
  induction a with
  | nil => rfl
  | cons p a ih => simp only [List.reverse_cons, TS_app, TS, ih]; omega

/-- an operation applied to runes -/
def app : List Nat → List P → List Nat
  | _, [] => []
  | t, .k n :: r => t.take n ++ app (t.drop n) r
  | t, .i l :: r => l ++ app t r
  | t, .d n :: r => app (t.drop n) r
theorem app_app (a b : List P) : ∀ t, app t (a ++ b) = app t a ++ app (t.drop (FS a)) b := by
  induction a with
  | nil => intro t; simp [app, FS]
  | cons p a ih =>
    intro t
    cases p with
    | k n => simp only [List.cons_append, app, ih, FS, P.F, List.drop_drop, List.append_assoc]
    | i l => simp only [List.cons_append, app, ih, FS, P.F, List.append_assoc, Nat.zero_add]
    | d n => simp only [List.cons_append, app, ih, FS, P.F, List.drop_drop]
theorem app_len (a : List P) : ∀ t : List Nat, FS a ≤ t.length → (app t a).length = TS a := by
  induction a with
  | nil => intro t _; rfl
  | cons p a ih =>
    intro t h
    cases p with
    | k n =>
      simp only [FS, P.F] at h
      simp only [app, TS, P.T, List.length_append, List.length_take]
      rw [ih _ (by simp; omega)]; omega
    | i l =>
      simp only [FS, P.F] at h
      simp only [app, TS, P.T, List.length_append]
      rw [ih _ (by omega)]
    | d n =>
      simp only [FS, P.F] at h
      simp only [app, TS, P.T]
      rw [ih _ (by simp; omega)]; omega
/-- only the runes that it is told of count -/
theorem app_more (a : List P) : ∀ t u : List Nat, FS a ≤ t.length → app (t ++ u) a = app t a := by
  induction a with
  | nil => intro t u _; rfl
  | cons p a ih =>
    intro t u h
    cases p with
    | k n =>
      simp only [FS, P.F] at h
      simp only [app, List.take_append_of_le_length (by omega : n ≤ t.length), List.drop_append_of_le_length (by omega : n ≤ t.length)]
      rw [ih _ _ (by simp; omega)]
    | i l =>
      simp only [FS, P.F] at h
      simp only [app]
      rw [ih _ _ (by omega)]
    | d n =>
      simp only [FS, P.F] at h
      simp only [app, List.drop_append_of_le_length (by omega : n ≤ t.length)]
      rw [ih _ _ (by simp; omega)]
theorem app_vr (a : List P) : ∀ t : List Nat, (∀ r ∈ t, Uni.vr r) → (∀ p ∈ a, p.ok) → ∀ r ∈ app t a, Uni.vr r := by
  induction a with
  | nil => intro t _ _ r hr; cases hr
  | cons p a ih =>
    intro t ht ha r hr
    have hta : ∀ n, ∀ r ∈ t.drop n, Uni.vr r := fun n r h => ht r (List.mem_of_mem_drop h)
    have ha' : ∀ p ∈ a, p.ok := fun p h => ha p (List.mem_cons_of_mem _ h)
    cases p with
    | k n =>
      simp only [app, List.mem_append] at hr
      rcases hr with h | h
      · exact ht r (List.mem_of_mem_take h)
      · exact ih _ (hta n) ha' r h
    | i l =>
      simp only [app, List.mem_append] at hr
      rcases hr with h | h
      · exact (ha (.i l) (List.mem_cons_self ..)).2 r h
      · exact ih _ ht ha' r h
    | d n => exact ih _ (hta n) ha' r hr

/-- a part is added behind others; the last one is the head -/
def addP : List P → P → List P
  | r, .k n => if n = 0 then r else match r with
    | .k m :: r' => .k (m + n) :: r'
    | r' => .k n :: r'
  | r, .d n => if n = 0 then r else match r with
    | .d m :: r' => .d (m + n) :: r'
    | r' => .d n :: r'
  | [], .i l => if l = [] then [] else [.i l]
  | .k m :: r, .i l => if l = [] then .k m :: r else .i l :: .k m :: r
  | .i m :: r, .i l => if l = [] then .i m :: r else .i (m ++ l) :: r
  | .d m :: r, .i l => if l = [] then .d m :: r else .d m :: addP r (.i l)
theorem FS_addP (p : P) : ∀ r, FS (addP r p) = FS r + p.F := by
  cases p with
  | k n =>
    intro r
    unfold addP
    split
    · simp [P.F]; omega
    · split
      · simp only [FS, P.F]; omega
      · simp only [FS, P.F]; omega
  | d n =>
    intro r
    unfold addP
    split
    · simp [P.F]; omega
    · split
      · simp only [FS, P.F]; omega
      · simp only [FS, P.F]; omega
  | i l =>
    intro r
    induction r with
    | nil => unfold addP; split <;> simp [FS, P.F]
    | cons q r ih =>
      cases q with
      | k m => unfold addP; split <;> simp [FS, P.F]
      | i m => unfold addP; split <;> simp [FS, P.F]
      | d m =>
        unfold addP
        split
        · simp [FS, P.F]
        · simp only [FS, P.F] at ih ⊢; omega
theorem TS_addP (p : P) : ∀ r, TS (addP r p) = TS r + p.T := by
  cases p with
  | k n =>
    intro r
    unfold addP
    split
    · simp [P.T]; omega
    · split
      · simp only [TS, P.T]; omega
      · simp only [TS, P.T]; omega
  | d n =>
    intro r
    unfold addP
    split
    · simp [P.T]
    · split
      · simp only [TS, P.T]; omega
      · simp only [TS, P.T]; omega
  | i l =>
    intro r
    induction r with
    | nil => unfold addP; split <;> simp_all [TS, P.T]
    | cons q r ih =>
      cases q with
      | k m => unfold addP; split <;> simp_all [TS, P.T]; omega
      | i m => unfold addP; split <;> simp_all [TS, P.T]; omega
      | d m =>
        unfold addP
        split
        · simp_all [TS, P.T]
        · simp only [TS, P.T] at ih ⊢; omega
/-- what is built does what its parts do -/
theorem app_addP (p : P) : ∀ (r : List P) (t : List Nat), app t (addP r p).reverse = app t (p :: r).reverse := by
  have two : ∀ (x y z : P) (r : List P) (h : ∀ u, app u [x, y] = app u [z]) (hF : FS [x, y] = FS [z]) (t : List Nat), app t (z :: r).reverse = app t (y :: x :: r).reverse := by
    intro x y z r h hF t
    simp only [List.reverse_cons, List.append_assoc, List.cons_append, List.nil_append]
    rw [app_app, app_app, h]
  cases p with
  | k n =>
    intro r t
    unfold addP
    split
    · rename_i h; subst h; simp [app_app, app]
    · split
      · rename_i m r'
        exact two (.k m) (.k n) (.k (m + n)) r' (fun u => by simp [app, List.take_add]) (by simp [FS, P.F]) t
      · rfl
  | d n =>
    intro r t
    unfold addP
    split
    · rename_i h; subst h; simp [app_app, app]
    · split
      · rename_i m r'
        exact two (.d m) (.d n) (.d (m + n)) r' (fun u => by simp [app]) (by simp [FS, P.F]) t
      · rfl
  | i l =>
    intro r
    induction r with
    | nil => intro t; unfold addP; split <;> simp_all [app]
    | cons q r ih =>
      intro t
      cases q with
      | k m => unfold addP; split <;> simp_all [app, app_app]
      | i m =>
        unfold addP
        split
        · simp_all [app, app_app]
        · exact two (.i m) (.i l) (.i (m ++ l)) r (fun u => by simp [app]) (by simp [FS, P.F]) t
      | d m =>
        unfold addP
        split
        · simp_all [app, app_app]
        · have hF := FS_addP (.i l) r
          rw [List.reverse_cons, app_app, ih t, FS_rev, hF]
          simp only [List.reverse_cons, app_app, app, List.append_assoc, List.append_nil, List.nil_append]
theorem addP_ok (p : P) (hp : ∀ l, p = .i l → ∀ r ∈ l, Uni.vr r) : ∀ r : List P, (∀ q ∈ r, q.ok) → ∀ q ∈ addP r p, q.ok := by
  cases p with
  | k n =>
    intro r hr
    unfold addP
    split
    · exact hr
    · rename_i h0
      split
      · rename_i m r'
        intro q hq
        rcases List.mem_cons.1 hq with rfl | hq
        · have := hr (.k m) (List.mem_cons_self ..); unfold P.ok at *; omega
        · exact hr q (List.mem_cons_of_mem _ hq)
      · intro q hq
        rcases List.mem_cons.1 hq with rfl | hq
        · unfold P.ok; omega
        · exact hr q hq
  | d n =>
    intro r hr
    unfold addP
    split
    · exact hr
    · rename_i h0
      split
      · rename_i m r'
        intro q hq
        rcases List.mem_cons.1 hq with rfl | hq
        · have := hr (.d m) (List.mem_cons_self ..); unfold P.ok at *; omega
        · exact hr q (List.mem_cons_of_mem _ hq)
      · intro q hq
        rcases List.mem_cons.1 hq with rfl | hq
        · unfold P.ok; omega
        · exact hr q hq
  | i l =>
    have hl := hp l rfl
    intro r
    induction r with
    | nil =>
      intro hr
      unfold addP
      split
      · exact hr
      · rename_i h0
        intro q hq
        rw [List.mem_singleton] at hq
        subst hq
        exact ⟨h0, hl⟩
    | cons x r ih =>
      intro hr
      have hr' : ∀ q ∈ r, q.ok := fun q hq => hr q (List.mem_cons_of_mem _ hq)
      cases x with
      | k m =>
        unfold addP
        split
        · exact hr
        · rename_i h0
          intro q hq
          rcases List.mem_cons.1 hq with rfl | hq
          · exact ⟨h0, hl⟩
          · exact hr q hq
      | i m =>
        unfold addP
        split
        · exact hr
        · rename_i h0
          intro q hq
          rcases List.mem_cons.1 hq with rfl | hq
          · have h1 := hr (.i m) (List.mem_cons_self ..)
            refine ⟨by simp [h0], fun r hr => ?_⟩
            rcases List.mem_append.1 hr with h | h
            · exact h1.2 r h
            · exact hl r h
          · exact hr' q hq
      | d m =>
        unfold addP
        split
        · exact hr
        · intro q hq
          rcases List.mem_cons.1 hq with rfl | hq
          · exact hr (.d m) (List.mem_cons_self ..)
          · exact ih hr' q hq

/-- the kinds of two parts may not stand in this order -/
def P.clash : P → P → Bool
  | .k _, .k _ => true
  | .i _, .i _ => true
  | .d _, .d _ => true
  | .d _, .i _ => true
  | _, _ => false
/-- parts, the last one first, in their one form -/
def Can : List P → Prop
  | [] => True
  | [p] => p.ok
  | p :: q :: r => p.ok ∧ q.clash p = false ∧ Can (q :: r)
theorem Can.tail {p : P} {r : List P} (h : Can (p :: r)) : Can r := by
  cases r with
  | nil => trivial
  | cons q r => exact h.2.2
theorem Can.head {p : P} {r : List P} (h : Can (p :: r)) : p.ok := by
  cases r with
  | nil => exact h
  | cons q r => exact h.1
theorem Can.all {r : List P} (h : Can r) : ∀ p ∈ r, p.ok := by
  induction r with
  | nil => simp
  | cons q r ih =>
    intro p hp
    rcases List.mem_cons.1 hp with rfl | hp
    · exact h.head
    · exact ih h.tail p hp
theorem Can.cons {p : P} {r : List P} (h : Can r) (hp : p.ok) (hc : ∀ q, r.head? = some q → q.clash p = false) : Can (p :: r) := by
  cases r with
  | nil => exact hp
  | cons q r => exact ⟨hp, hc q rfl, h⟩
theorem Can.next {p q : P} {r : List P} (h : Can (p :: r)) (hq : r.head? = some q) : q.clash p = false := by
  cases r with
  | nil => cases hq
  | cons x r => simp at hq; subst hq; exact h.2.1
theorem addP_can (p : P) (hp : ∀ l, p = .i l → ∀ r ∈ l, Uni.vr r) : ∀ r : List P, Can r → Can (addP r p) := by
  cases p with
  | k n =>
    intro r hr
    unfold addP
    split
    · exact hr
    · rename_i h0
      split
      · rename_i m r'
        refine hr.tail.cons (by have := hr.head; unfold P.ok at *; omega) (fun q hq => ?_)
        have := hr.next hq
        cases q <;> simp_all [P.clash]
      · rename_i hne
        refine hr.cons (by unfold P.ok; omega) (fun q hq => ?_)
        cases q with
        | k m =>
          cases r with
          | nil => cases hq
          | cons x r => simp at hq; subst hq; exact absurd rfl (hne m r)
        | i m => rfl
        | d m => rfl
  | d n =>
    intro r hr
    unfold addP
    split
    · exact hr
    · rename_i h0
      split
      · rename_i m r'
        refine hr.tail.cons (by have := hr.head; unfold P.ok at *; omega) (fun q hq => ?_)
        have := hr.next hq
        cases q <;> simp_all [P.clash]
      · rename_i hne
        refine hr.cons (by unfold P.ok; omega) (fun q hq => ?_)
        cases q with
        | d m =>
          cases r with
          | nil => cases hq
          | cons x r => simp at hq; subst hq; exact absurd rfl (hne m r)
        | i m => rfl
        | k m => rfl
  | i l =>
    have hl := hp l rfl
    have key : ∀ r : List P, Can r → Can (addP r (.i l)) ∧ (∀ q, (∀ x, r.head? = some x → x.clash q = false) → (∃ m, q = .d m) → ∀ x, (addP r (.i l)).head? = some x → x.clash q = false) := by
      intro r
      induction r with
      | nil =>
        intro _
        unfold addP
        split
        · exact ⟨trivial, fun q _ _ x hx => by cases hx⟩
        · rename_i h0
          exact ⟨⟨h0, hl⟩, fun q _ ⟨m, hm⟩ x hx => by simp at hx; subst hx hm; rfl⟩
      | cons y r ih =>
        intro hr
        cases y with
        | k m =>
          unfold addP
          split
          · exact ⟨hr, fun q hq _ x hx => hq x hx⟩
          · rename_i h0
            exact ⟨hr.cons ⟨h0, hl⟩ (fun q hq => by simp at hq; subst hq; rfl), fun q _ ⟨m, hm⟩ x hx => by simp at hx; subst hx hm; rfl⟩
        | i m =>
          unfold addP
          split
          · exact ⟨hr, fun q hq _ x hx => hq x hx⟩
          · rename_i h0
            refine ⟨hr.tail.cons ?_ (fun q hq => ?_), fun q _ ⟨m, hm⟩ x hx => by simp at hx; subst hx hm; rfl⟩
            · refine ⟨by simp [h0], fun r' hr' => ?_⟩
              rcases List.mem_append.1 hr' with h | h
              · exact hr.head.2 r' h
              · exact hl r' h
            · have := hr.next hq
              cases q <;> simp_all [P.clash]
        | d m =>
          unfold addP
          split
          · exact ⟨hr, fun q hq _ x hx => hq x hx⟩
          · have h1 := ih hr.tail
            refine ⟨h1.1.cons hr.head (fun q hq => h1.2 (.d m) (fun x hx => hr.next hx) ⟨m, rfl⟩ q hq), fun q hq hm x hx => hq x (by simpa using hx)⟩
    exact fun r hr => (key r hr).1
end Go.Proofs.YtkhacogeffidoaaDoor

set_option linter.unusedVariables false
set_option linter.unusedSimpArgs false
namespace Go.Proofs.YtkhacogeffidoaaDoor
open Go.RowKit

theorem checkFrom_all : ∀ (l : Op) (q : Option Int), checkFrom q l = 0 → ∀ p ∈ l, partOk p = 0
  | [], _, _, p, hp => by cases hp
  | p :: l, q, h, p', hp' => by
    have h0 : partOk p = 0 := by
      by_cases h0 : partOk p = 0
      · exact h0
      · have e : checkFrom q (p :: l) = partOk p := by cases q <;> rw [checkFrom, if_pos h0]
        rw [e] at h; exact absurd h h0
    have h1 : checkFrom (some p.kind) l = 0 := by
      cases hc : (match q with | some q => clash q p.kind | none => false) with
      | false => rwa [checkFrom_drop q p l h0 hc] at h
      | true => rw [checkFrom_clash q p l h0 hc] at h; exact absurd h (by decide)
    rcases List.mem_cons.1 hp' with rfl | hp'
    · exact h0
    · exact checkFrom_all l _ h1 p' hp'
theorem check_zero {l : Op} (h : check l = 0) : l.length ≤ 8001 ∧ (∀ p ∈ l, partOk p = 0) ∧ sumF l ≤ 4000 ∧ sumT l ≤ 4000 := by
  unfold check at h
  split at h
  · exact absurd h (by decide)
  · split at h
    · rename_i h1; exact absurd h h1
    · split at h
      · exact absurd h (by decide)
      · rename_i h1 h2 h3
        exact ⟨by omega, checkFrom_all l none (by simpa using h2), by omega, by omega⟩
theorem check_small {l : Op} (h : check l = 0) : Small l := by
  obtain ⟨h1, h2, _, _⟩ := check_zero h
  exact ⟨by omega, fun p hp => by have := partOk_small (h2 p hp); omega⟩
theorem sum_parts (f : Part → Int) (l : Op) (k : Nat) (h : ∀ p ∈ l, 0 ≤ f p) : ((l.take k).map f).sum ≤ (l.map f).sum ∧ 0 ≤ ((l.take k).map f).sum := by
  induction l generalizing k with
  | nil => simp
  | cons p l ih =>
    have hp := h p (by simp)
    cases k with
    | zero =>
      have := (ih l.length (fun p hp => h p (by simp [hp]))).2
      rw [List.take_length] at this
      simp; omega
    | succ k =>
      have := ih k (fun p hp => h p (by simp [hp]))
      simp only [List.take_succ_cons, List.map_cons, List.sum_cons]
      omega
/-- the kinds of a part that may be -/
theorem partOk_kind {p : Part} (h : partOk p = 0) : (p.kind = 1 ∧ 1 ≤ p.n ∧ p.n ≤ 4000) ∨ (p.kind = 2 ∧ p.n = 0 ∧ 0 ≤ rc p.text) ∨ (p.kind = 3 ∧ 1 ≤ p.n ∧ p.n ≤ 4000) := by
  have hs := partOk_small h
  unfold partOk at h
  by_cases h1 : p.kind = 1
  · left
    simp only [h1, true_or, if_true] at h
    split at h
    · exact absurd h (by decide)
    · exact ⟨h1, by omega, by omega⟩
  · by_cases h3 : p.kind = 3
    · right; right
      simp only [h3, or_true, if_true] at h
      split at h
      · exact absurd h (by decide)
      · exact ⟨h3, by omega, by omega⟩
    · by_cases h2 : p.kind = 2
      · right; left
        rw [if_neg (by omega), if_pos h2] at h
        split at h
        · rename_i h4; exact absurd h h4
        · split at h
          · exact absurd h (by decide)
          · rename_i h5
            refine ⟨h2, ?_, ?_⟩
            · by_cases h6 : p.n = 0
              · exact h6
              · exact absurd (.inr h6) h5
            · have := hs.2.2.1
              simpa [lenT, h2] using this
      · rw [if_neg (by omega), if_neg h2] at h
        exact absurd h (by decide)

theorem i12 : ((1 : Int) = 2) = False := by simp
theorem i32 : ((3 : Int) = 2) = False := by simp
theorem i31 : ((3 : Int) = 1) = False := by simp
/-- where a place goes -/
def mv (push : Bool) : Op → Int → Int → Int → Int
  | [], _, _, new => new
  | p :: l, a, old, new =>
    if p.kind = 2 then (if old = a ∧ push = false then new + a - old else mv push l a old (new + rc p.text))
    else if p.kind = 1 then (if a < old + p.n then new + a - old else mv push l a (old + p.n) (new + p.n))
    else mv push l (if a < old + p.n then old + p.n else a) (old + p.n) new
theorem sumF_cons (p : Part) (l : Op) : sumF (p :: l) = lenF p + sumF l := by simp [sumF]
theorem sumT_cons (p : Part) (l : Op) : sumT (p :: l) = lenT p + sumT l := by simp [sumT]
theorem sumT_nonneg (l : Op) (h : ∀ p ∈ l, partOk p = 0) : 0 ≤ sumT l := by
  have := (sum_parts lenT l l.length (fun p hp => (partOk_small (h p hp)).2.2.1)).2
  rwa [List.take_length] at this
theorem sumF_nonneg (l : Op) (h : ∀ p ∈ l, partOk p = 0) : 0 ≤ sumF l := by
  have := (sum_parts lenF l l.length (fun p hp => (partOk_small (h p hp)).1)).2
  rwa [List.take_length] at this
theorem mv_bound (push : Bool) (l : Op) (h : ∀ p ∈ l, partOk p = 0) : ∀ (a old new : Int), old ≤ a → new ≤ mv push l a old new ∧ mv push l a old new ≤ new + sumT l := by
  induction l with
  | nil => intro a old new _; simp [mv, sumT]
  | cons p l ih =>
    intro a old new ha
    have ih2 := ih (fun p hp => h p (by simp [hp]))
    have hT := sumT_nonneg l (fun p hp => h p (by simp [hp]))
    rw [sumT_cons]
    rcases partOk_kind (h p (by simp)) with ⟨k, n1, n2⟩ | ⟨k, n1, n2⟩ | ⟨k, n1, n2⟩
    · have e : lenT p = p.n := by simp [lenT, k]
      simp only [mv, k, e, i12, i32, i31, if_false, if_true]
      split
      · omega
      · have := ih2 a (old + p.n) (new + p.n) (by omega); omega
    · have e : lenT p = rc p.text := by simp [lenT, k]
      simp only [mv, k, e, i12, i32, i31, if_false, if_true]
      split
      · omega
      · have := ih2 a old (new + rc p.text) ha; omega
    · have e : lenT p = 0 := by simp [lenT, k]
      simp only [mv, k, e, i12, i32, i31, if_false, if_true]
      have := ih2 (if a < old + p.n then old + p.n else a) (old + p.n) new (by split <;> omega); omega
theorem mv_mono (push : Bool) (l : Op) (h : ∀ p ∈ l, partOk p = 0) : ∀ (a b old new : Int), old ≤ a → a ≤ b → mv push l a old new ≤ mv push l b old new := by
  induction l with
  | nil => intro a b old new _ _; simp [mv]
  | cons p l ih =>
    intro a b old new ha hab
    have hl : ∀ p ∈ l, partOk p = 0 := fun p hp => h p (by simp [hp])
    rcases partOk_kind (h p (by simp)) with ⟨k, n1, n2⟩ | ⟨k, n1, n2⟩ | ⟨k, n1, n2⟩
    · simp only [mv, k, i12, i32, i31, if_false, if_true]
      by_cases h1 : a < old + p.n
      · rw [if_pos h1]
        split
        · omega
        · have := (mv_bound push l hl b (old + p.n) (new + p.n) (by omega)).1; omega
      · rw [if_neg h1, if_neg (by omega)]
        exact ih hl a b _ _ (by omega) hab
    · simp only [mv, k, i12, i32, i31, if_false, if_true]
      by_cases h1 : old = a ∧ push = false
      · rw [if_pos h1]
        split
        · omega
        · have := (mv_bound push l hl b old (new + rc p.text) (by omega)).1; omega
      · rw [if_neg h1]
        by_cases h2 : old = b ∧ push = false
        · exact absurd ⟨by omega, h2.2⟩ h1
        · rw [if_neg h2]
          exact ih hl a b _ _ ha hab
    · simp only [mv, k, i12, i32, i31, if_false, if_true]
      refine ih hl _ _ _ _ ?_ ?_
      · split <;> omega
      · split <;> split <;> omega
theorem mv_push (push : Bool) (l : Op) (h : ∀ p ∈ l, partOk p = 0) : ∀ (a old new : Int), old ≤ a → mv push l a old new ≤ mv true l a old new := by
  cases push with
  | true => intro a old new _; exact Int.le_refl _
  | false =>
  induction l with
  | nil => intro a old new _; simp [mv]
  | cons p l ih =>
    intro a old new ha
    have hl : ∀ p ∈ l, partOk p = 0 := fun p hp => h p (by simp [hp])
    rcases partOk_kind (h p (by simp)) with ⟨k, n1, n2⟩ | ⟨k, n1, n2⟩ | ⟨k, n1, n2⟩
    · simp only [mv, k, i12, i32, i31, if_false, if_true]
      split
      · omega
      · exact ih hl a _ _ (by omega)
    · simp only [mv, k, i12, i32, i31, if_false, if_true]
      rw [if_neg (c := old = a ∧ true = false) (by rintro ⟨_, h⟩; cases h)]
      split
      · have := (mv_bound true l hl a old (new + rc p.text) (by omega)).1; omega
      · exact ih hl a _ _ ha
    · simp only [mv, k, i12, i32, i31, if_false, if_true]
      refine ih hl _ _ _ ?_
      split <;> omega

theorem size_any (p : Part) (w : World) (h2 : I64 p.n) (h3 : p.text.size ≤ strMax) :
    Calls Tryd.prog 71 #[.agg #[.int .i64 p.kind, .int .i64 p.n, .string p.text]] w fun e w' => e = .returned (.int .i64 (if p.kind = 2 then rc p.text else p.n)) ∧ Below w.heap.size w w' := by
  obtain ⟨k, n, t⟩ := p
  simp only at h2 h3 ⊢
  rcases Int.decEq k 2 with h | rfl
  · have g : (k == 2) = false := by simp [h]
    rw [if_neg h]
    clear h
    go_enter Tryd.func71, Tryd.ntmps71
    go_wp2_with fail
    go_ret
    exact ⟨rfl, by (repeat (first | exact Below.refl _ _ | assumption | (refine Below.drew ?_) | (refine below_drewN ?_ _) | (refine Below.alloc ?_ (by first | (simp; done) | (simp; omega) | omega) _) | (refine Below.setCell ?_ (by first | (simp; done) | (simp; omega) | omega) _) | (refine Below.trans ?_ (Below.mono (by assumption) (by first | (simp; done) | (simp; omega) | omega)))))⟩
  · rw [if_pos rfl]
    go_enter Tryd.func71, Tryd.ntmps71
    go_wp2_with (go_at_call 57; refine (rc_any t _ h3).mono ?_; rintro e w1 ⟨rfl, hb1⟩; obtain ⟨hc1, hf1⟩ := bcell hb1)
    go_ret
    exact ⟨rfl, by (repeat (first | exact Below.refl _ _ | assumption | (refine Below.drew ?_) | (refine below_drewN ?_ _) | (refine Below.alloc ?_ (by first | (simp; done) | (simp; omega) | omega) _) | (refine Below.setCell ?_ (by first | (simp; done) | (simp; omega) | omega) _) | (refine Below.trans ?_ (Below.mono (by assumption) (by first | (simp; done) | (simp; omega) | omega)))))⟩
end Go.Proofs.YtkhacogeffidoaaDoor

set_option linter.unusedVariables false
set_option linter.unusedSimpArgs false
namespace Go.Proofs.YtkhacogeffidoaaDoor
open Go.RowKit

/-- the runes of a text -/
def rns (s : Str) : List Nat := Uni.dec s.data.toList
theorem rc_rns (s : Str) : rc s = (rns s).length := by unfold rc rns; rw [Uni.count_dec]
theorem rns_enc {l : List Nat} (h : ∀ r ∈ l, Uni.vr r) : rns (Uni.enc l) = l := by unfold rns Uni.enc; exact Uni.dec_enc_all l h
theorem enc_rns {s : Str} (h : valid s = true) : Uni.enc (rns s) = s := (enc_dec_str s h).1
theorem rns_vr {s : Str} (h : valid s = true) : ∀ r ∈ rns s, Uni.vr r := (enc_dec_str s h).2
def toP (p : Part) : P := if p.kind = 1 then .k p.n.toNat else if p.kind = 2 then .i (rns p.text) else .d p.n.toNat
def opP (o : Op) : List P := o.map toP
theorem part_toP {p : P} (h : p.ok) : toP p.part = p := by
  cases p with
  | k n => simp [toP, P.part]
  | i l => simp only [toP, P.part]; rw [if_neg (by decide), if_true, rns_enc h.2]
  | d n => simp [toP, P.part]
theorem toP_part {p : Part} (h : Solid p) : (toP p).part = p ∧ (toP p).ok := by
  obtain ⟨k, n, t⟩ := p
  rcases h with ⟨hk, hn, ht⟩ | ⟨hk, hn, hv, he⟩
  · simp only at hk hn ht
    subst ht
    rcases hk with rfl | rfl
    · simp only [toP, if_true, P.part, P.ok]
      exact ⟨by congr; omega, by omega⟩
    · simp only [toP, P.part, P.ok]
      rw [if_neg (by decide), if_neg (by decide)]
      exact ⟨by simp only; congr; omega, by simp only; omega⟩
  · simp only at hk hn hv he
    subst hk hn
    simp only [toP]
    rw [if_neg (by decide), if_true]
    refine ⟨by simp only [P.part, enc_rns hv], ?_, rns_vr hv⟩
    intro h0
    have : Uni.enc (rns t) = t := enc_rns hv
    rw [h0] at this
    rw [← this] at he
    have h2 : emptyS (Uni.enc []) = true := by rw [emptyS_iff]; rfl
    rw [h2] at he; cases he
theorem part_solid {p : P} (h : p.ok) : Solid p.part := by
  cases p with
  | k n => exact .inl ⟨.inl rfl, by unfold P.ok at h; simp only [P.part]; omega, rfl⟩
  | d n => exact .inl ⟨.inr rfl, by unfold P.ok at h; simp only [P.part]; omega, rfl⟩
  | i l =>
    refine .inr ⟨rfl, rfl, valid_enc _ h.2, ?_⟩
    simp only [P.part]
    cases he : emptyS (Uni.enc l) with
    | false => rfl
    | true =>
      have h1 := rc_empty he
      rw [rc_enc _ h.2] at h1
      exact absurd (List.eq_nil_of_length_eq_zero (by omega)) h.1
theorem solid_of_ok {p : Part} (h : partOk p = 0) : Solid p := by
  obtain ⟨k, n, t⟩ := p
  unfold partOk at h
  simp only at h
  by_cases h1 : k = 1 ∨ k = 3
  · rw [if_pos h1] at h
    by_cases h2 : n < 1 ∨ 4000 < n
    · rw [if_pos h2] at h; omega
    · rw [if_neg h2] at h
      cases he : emptyS t with
      | false => rw [he] at h; simp at h
      | true => exact .inl ⟨h1, by simp only; omega, eq_noText he⟩
  · rw [if_neg h1] at h
    by_cases h2 : k = 2
    · rw [if_pos h2] at h
      by_cases h3 : checkText t = 0
      · rw [if_neg (by simpa using h3)] at h
        have hv : valid t = true := by
          unfold checkText at h3
          cases hv : valid t with
          | true => rfl
          | false => rw [hv] at h3; simp at h3
        cases he : emptyS t with
        | true => rw [he] at h; simp at h
        | false =>
          rw [he] at h
          by_cases h0 : n = 0
          · exact .inr ⟨h2, h0, hv, he⟩
          · rw [if_pos (.inr h0)] at h; omega
      · rw [if_pos h3] at h; omega
    · rw [if_neg h2] at h; omega
theorem part_F (p : P) : lenF p.part = p.F := by cases p <;> simp [lenF, P.part, P.F]
theorem part_T {p : P} (h : p.ok) : lenT p.part = p.T := by
  cases p with
  | k n => simp [lenT, P.part, P.T]
  | d n => simp [lenT, P.part, P.T]
  | i l => simp only [lenT, P.part, P.T]; rw [if_neg (by decide), if_true, rc_enc _ h.2]
theorem sumF_parts (l : List P) : sumF (l.map P.part) = FS l := by
  induction l with
  | nil => rfl
  | cons p l ih => simp only [List.map_cons, sumF_cons, ih, FS, part_F]; push_cast; rfl
theorem sumT_parts (l : List P) (h : ∀ p ∈ l, p.ok) : sumT (l.map P.part) = TS l := by
  induction l with
  | nil => rfl
  | cons p l ih =>
    simp only [List.map_cons, sumT_cons, TS, part_T (h p (List.mem_cons_self ..))]
    rw [ih (fun q hq => h q (List.mem_cons_of_mem _ hq))]; push_cast; rfl
theorem clash_part (p q : P) : clash p.part.kind q.part.kind = p.clash q := by
  cases p <;> cases q <;> simp [clash, P.part, P.clash]
theorem can_canon : ∀ {r : List P}, Can r → Canon (r.map P.part)
  | [], _ => trivial
  | [p], h => part_solid h
  | p :: q :: r, h => ⟨part_solid h.1, by rw [clash_part]; exact h.2.1, can_canon (r := q :: r) h.2.2⟩
theorem canon_can : ∀ {r : List P}, (∀ p ∈ r, p.ok) → Canon (r.map P.part) → Can r
  | [], _, _ => trivial
  | [p], h, _ => h p (List.mem_cons_self ..)
  | p :: q :: r, h, hc => ⟨h p (List.mem_cons_self ..), by rw [← clash_part]; exact hc.2.1, canon_can (r := q :: r) (fun x hx => h x (List.mem_cons_of_mem _ hx)) hc.2.2⟩
theorem can_check {r : List P} (hc : Can r) (hl : r.length ≤ 8001) (hf : FS r ≤ 4000) (ht : TS r ≤ 4000) : check (r.reverse.map P.part) = 0 := by
  rw [List.map_reverse]
  refine canon_check (can_canon hc) (by simpa using hl) ?_ ?_
  · rw [sumF_parts]; omega
  · rw [sumT_parts _ hc.all]; omega
theorem ok_len (l : List P) (h : ∀ p ∈ l, p.ok) : l.length ≤ FS l + TS l := by
  induction l with
  | nil => simp
  | cons p l ih =>
    have h1 := ih (fun q hq => h q (List.mem_cons_of_mem _ hq))
    have h2 := h p (List.mem_cons_self ..)
    simp only [List.length_cons, FS, TS]
    cases p with
    | k n => unfold P.ok at h2; simp only [P.F, P.T]; omega
    | d n => unfold P.ok at h2; simp only [P.F, P.T]; omega
    | i l =>
      have : l.length ≠ 0 := fun h => h2.1 (List.eq_nil_of_length_eq_zero h)
      simp only [P.F, P.T]; omega
/-- the kinds that follow one another -/
theorem from_can : ∀ (l : Op) (q : Part) (r : List Part), Canon (q :: r) → checkFrom (some q.kind) l = 0 → (∀ p ∈ l, Solid p) → Canon (l.reverse ++ q :: r)
  | [], q, r, h, _, _ => h
  | p :: l, q, r, h, hf, hs => by
    have hp : partOk p = 0 ∧ clash q.kind p.kind = false ∧ checkFrom (some p.kind) l = 0 := by
      simp only [checkFrom] at hf
      by_cases h1 : partOk p = 0
      · rw [if_neg (by simpa using h1)] at hf
        cases hc : clash q.kind p.kind with
        | true => simp [hc] at hf
        | false => exact ⟨h1, rfl, by simpa [hc] using hf⟩
      · rw [if_pos h1] at hf; exact absurd hf h1
    rw [List.reverse_cons, List.append_assoc]
    exact from_can l p (q :: r) ⟨hs p (List.mem_cons_self ..), hp.2.1, h⟩ hp.2.2 (fun x hx => hs x (List.mem_cons_of_mem _ hx))
theorem check_canon {o : Op} (h : check o = 0) : Canon o.reverse := by
  have h1 := (check_zero h).2.1
  have h0 : checkFrom none o = 0 := by
    unfold check at h
    by_cases h8 : 8001 < o.length
    · rw [if_pos h8] at h; omega
    · rw [if_neg h8] at h
      by_cases h2 : checkFrom none o = 0
      · exact h2
      · rw [if_pos h2] at h; exact h
  have hs : ∀ p ∈ o, Solid p := fun p hp => solid_of_ok (h1 p hp)
  cases o with
  | nil => trivial
  | cons p l =>
    rw [List.reverse_cons]
    have hp := h1 p (List.mem_cons_self ..)
    simp only [checkFrom] at h0
    rw [if_neg (by simpa using hp)] at h0
    exact from_can l p [] (hs p (List.mem_cons_self ..)) (by simpa using h0) (fun x hx => hs x (List.mem_cons_of_mem _ hx))
/-- an operation that may be, over runes -/
structure OpIs (o : Op) (l : List P) : Prop where
  eq : o = l.map P.part
  can : Can l.reverse
  ok : ∀ p ∈ l, p.ok
  f : sumF o = FS l
  t : sumT o = TS l
  fl : FS l ≤ 4000
  tl : TS l ≤ 4000
  len : l.length ≤ 8001
theorem opIs {o : Op} (h : check o = 0) : OpIs o (opP o) := by
  obtain ⟨h1, h2, h3, h4⟩ := check_zero h
  have hs : ∀ p ∈ o, Solid p := fun p hp => solid_of_ok (h2 p hp)
  have hok : ∀ p ∈ opP o, p.ok := by
    intro p hp
    simp only [opP, List.mem_map] at hp
    obtain ⟨q, hq, rfl⟩ := hp
    exact (toP_part (hs q hq)).2
  have he : o = (opP o).map P.part := by
    unfold opP
    rw [List.map_map]
    conv => lhs; rw [← List.map_id o]
    exact List.map_congr_left fun q hq => ((toP_part (hs q hq)).1).symm
  have hf : sumF o = FS (opP o) := by rw [← sumF_parts, ← he]
  have ht : sumT o = TS (opP o) := by rw [← sumT_parts _ hok, ← he]
  refine ⟨he, ?_, hok, hf, ht, by omega, by omega, by simp only [opP, List.length_map]; omega⟩
  refine canon_can (fun p hp => hok p (by simpa using hp)) ?_
  rw [List.map_reverse, ← he]
  exact check_canon h
theorem OpIs.check {o : Op} {l : List P} (h : OpIs o l) : check o = 0 := by
  have := can_check h.can (by simpa using h.len) (by rw [FS_rev]; exact h.fl) (by rw [TS_rev]; exact h.tl)
  rw [List.reverse_reverse] at this
  rw [h.eq]; exact this
theorem opIs_of {r : List P} (hc : Can r) (hf : FS r ≤ 4000) (ht : TS r ≤ 4000) : OpIs (r.reverse.map P.part) r.reverse :=
  have hok : ∀ p ∈ r.reverse, p.ok := fun p hp => hc.all p (by simpa using hp)
  ⟨rfl, by rw [List.reverse_reverse]; exact hc, hok, sumF_parts _, sumT_parts _ hok, by rw [FS_rev]; exact hf, by rw [TS_rev]; exact ht, by have := ok_len r hc.all; simp; omega⟩
theorem OpIs.opP {o : Op} {l : List P} (h : OpIs o l) : opP o = l := by
  rw [h.eq]; unfold Go.Proofs.YtkhacogeffidoaaDoor.opP; rw [List.map_map]
  conv => rhs; rw [← List.map_id l]
  exact List.map_congr_left fun q hq => part_toP (h.ok q hq)
/-- building over parts and over parts of runes -/
theorem addR_part (p : P) (hp : ∀ l, p = .i l → ∀ r ∈ l, Uni.vr r) : ∀ r : List P, (∀ q ∈ r, q.ok) → addR (r.map P.part) p.part = (addP r p).map P.part := by
  have emp : ∀ l : List Nat, (∀ r ∈ l, Uni.vr r) → emptyS (Uni.enc l) = decide (l = []) := by
    intro l hl
    by_cases h : l = []
    · subst h; rw [show emptyS (Uni.enc []) = true from by rw [emptyS_iff]; rfl]; rfl
    · have := (part_solid (p := .i l) ⟨h, hl⟩)
      rcases this with ⟨h1, _⟩ | ⟨_, _, _, h4⟩
      · simp [P.part] at h1
      · simp only [P.part] at h4; rw [h4]; simp [h]
  cases p with
  | k n =>
    intro r hr
    have ht : triv (P.part (.k n)) = decide (n = 0) := by simp [triv, P.part]
    cases r with
    | nil => simp only [List.map_nil, addR, ht, addP]; by_cases h : n = 0 <;> simp [h]
    | cons q r =>
      simp only [List.map_cons, addR, ht, addP]
      by_cases h : n = 0
      · simp [h]
      · cases q <;> simp [h, P.part, app_noText]
  | d n =>
    intro r hr
    have ht : triv (P.part (.d n)) = decide (n = 0) := by simp [triv, P.part]
    cases r with
    | nil => simp only [List.map_nil, addR, ht, addP]; by_cases h : n = 0 <;> simp [h]
    | cons q r =>
      simp only [List.map_cons, addR, ht, addP]
      by_cases h : n = 0
      · simp [h]
      · cases q <;> simp [h, P.part, app_noText]
  | i l =>
    have hl := hp l rfl
    have ht : triv (P.part (.i l)) = decide (l = []) := by simp [triv, P.part, emp l hl]
    intro r
    induction r with
    | nil => intro _; simp only [List.map_nil, addR, ht, addP]; by_cases h : l = [] <;> simp [h]
    | cons q r ih =>
      intro hr
      have ih' := ih (fun q hq => hr q (List.mem_cons_of_mem _ hq))
      simp only [List.map_cons, addR, ht]
      by_cases h : l = []
      · subst h; cases q <;> simp [addP]
      · cases q with
        | k m => simp [addP, h, P.part]
        | i m => simp [addP, h, P.part, enc_append]
        | d m =>
          rw [show addP (.d m :: r) (.i l) = .d m :: addP r (.i l) from by simp [addP, h]]
          simp [h, P.part] at ih' ⊢
          exact ih'
end Go.Proofs.YtkhacogeffidoaaDoor

set_option linter.unusedVariables false
set_option linter.unusedSimpArgs false
namespace Go.Proofs.YtkhacogeffidoaaDoor
open Go.RowKit

theorem infoB : (Tryd.prog.info? 5).map (fun i => (i.zero, i.size, i.bytes)) = some (some (.int .u8 0), 1, 1) := by kernel_rfl
theorem sizeBld : (Tryd.prog.info? 121).map (·.size) = some 2 := by kernel_rfl
theorem liesBld : liesAt Tryd.prog Tryd.prog.depth 121 (2 / Tryd.prog.cellsOf 121) 0 121 1 = true := by kernel_rfl
/-- a builder of the call's own that holds so many bytes -/
abbrev Bld (B b : Nat) (l : List UInt8) (w : World) : Prop := Lib.IsBuilder 121 5 B b (Lib.byteCells l) w

set_option maxHeartbeats 1000000 in
set_option maxRecDepth 100000 in
theorem copyCheck_used (b : Nat) (w : World) (h0 : w.cell? ⟨b, 0, none⟩ = some (.pointer (some ⟨b, 0, none⟩))) :
    Calls Tryd.prog 76 #[.pointer (some ⟨b, 0, none⟩)] w fun e w' => e = .returned (.tuple #[]) ∧ w' = w := by
  obtain ⟨j, hj, _⟩ := Option.map_eq_some_iff.1 sizeBld
  go_enter Tryd.func76, Tryd.ntmps76
  go_wp2
  rw [Lib.run_neq_ptr_same w _ Tryd.underlying118 hj]
  go_wp2
  go_end0
  exact ⟨rfl, rfl⟩
set_option maxHeartbeats 1000000 in
set_option maxRecDepth 100000 in
theorem copyCheck_fresh (b : Nat) (w : World) (h0 : w.cell? ⟨b, 0, none⟩ = some (.pointer none)) (hsh : w.shape? b = some (121, 2)) (hfz : w.frozen? ⟨b, 0, none⟩ = false) :
    Calls Tryd.prog 76 #[.pointer (some ⟨b, 0, none⟩)] w fun e w' => e = .returned (.tuple #[]) ∧ w' = w.setCell ⟨b, 0, none⟩ (.pointer (some ⟨b, 0, none⟩)) := by
  obtain ⟨j, hj, hjs⟩ := Option.map_eq_some_iff.1 sizeBld
  go_enter Tryd.func76, Tryd.ntmps76
  go_wp2
  rw [Lib.run_to_unsafe w ⟨b, 0, none⟩ Tryd.underlying118 Tryd.underlying155 hj (by rw [hjs]; decide) hsh (Nat.zero_lt_succ 1)]
  simp only [Result.andThen]
  rw [Oper.upon_value]
  go_wp2
  rw [run_callFunc_extern Tryd.func80 (by kernel_rfl) (by kernel_rfl) (by kernel_rfl) (e := Extern.AbiNoEscape.same) (by kernel_rfl)]
  rw [Lib.run_noEscape]
  simp only [Result.andThen]
  rw [Oper.upon_value]
  go_wp2
  rw [Lib.run_from_unsafe w ⟨b, 0, none⟩ Tryd.underlying155 Tryd.underlying118 hj hsh liesBld]
  simp only [Result.andThen]
  rw [Oper.upon_value]
  go_wp2
  go_end0
  exact ⟨rfl, rfl⟩
theorem copyCheck_any (B b : Nat) (bs : List Value) (w : World) (h : Lib.IsBuilder 121 5 B b bs w) :
    Calls Tryd.prog 76 #[.pointer (some ⟨b, 0, none⟩)] w fun e w' => e = .returned (.tuple #[]) ∧ (Lib.BuilderAt 121 5 B b (.pointer (some ⟨b, 0, none⟩)) bs w' ∧ Below B w w' ∧ ∀ k, k ≠ b → w'.heap[k]? = w.heap[k]?) := by
  rcases h with h | h
  · refine (copyCheck_fresh b w h.cell0 h.shape h.frozen0).mono ?_
    rintro e w' ⟨rfl, rfl⟩
    exact ⟨rfl, h.used _, (Below.refl B w).setCell (p := ⟨b, 0, none⟩) h.1 _, fun k hk => Below.heap_setCell _ _ _ _ hk⟩
  · refine (copyCheck_used b w h.cell0).mono ?_
    rintro e w' ⟨rfl, rfl⟩
    exact ⟨rfl, h, Below.refl B _, fun _ _ => rfl⟩
theorem bytes_app (l : List UInt8) (s : ByteArray) : Lib.byteCells l ++ Lib.strCells s = Lib.byteCells (l ++ s.data.toList) := by simp [Lib.byteCells, Lib.strCells]
/-- all blocks but b, and rows of bytes, are as they were -/
def Others (b : Nat) (w w' : World) : Prop := ∀ k cs t f, w.heap[k]? = some (.cells cs t f) → t ≠ 5 → k ≠ b → w'.heap[k]? = w.heap[k]?
theorem Bld.lt {B b : Nat} {l : List UInt8} {w : World} (h : Bld B b l w) : b < w.heap.size := by
  rcases h with h | h <;> exact h.lt
theorem Bld.below {B b : Nat} {l : List UInt8} {w w' : World} (h : Bld B b l w) (hb : Below w.heap.size w w') : Bld B b l w' := by
  have key : ∀ p, Lib.BuilderAt 121 5 B b p (Lib.byteCells l) w → Lib.BuilderAt 121 5 B b p (Lib.byteCells l) w' := by
    rintro p ⟨h1, v, h2, h3, h4⟩
    refine ⟨h1, v, (hb.block b (Array.getElem?_eq_some_iff.1 h2).1).trans h2, ⟨h3.1, ?_⟩, h4⟩
    rcases h3.2 with hn | ⟨g, cap, cur, hv, hg, hh, rest⟩
    · exact .inl hn
    · exact .inr ⟨g, cap, cur, hv, hg, (hb.block g (Array.getElem?_eq_some_iff.1 hh).1).trans hh, rest⟩
  rcases h with h | h
  · exact .inl (key _ h)
  · exact .inr (key _ h)
set_option maxHeartbeats 2000000 in
set_option maxRecDepth 100000 in
theorem wstr_any (B b : Nat) (l : List UInt8) (s : ByteArray) (w : World) (h : Bld B b l w) (hlen : l.length + s.size ≤ 140737488355328) (hBw : B ≤ w.heap.size) :
    Calls Tryd.prog 59 #[.pointer (some ⟨b, 0, none⟩), .string s] w fun e w' => e = .returned (.tuple #[.int .i64 s.size, .nilIface]) ∧ Bld B b (l ++ s.data.toList) w' ∧ Below B w w' ∧ Others b w w' := by
  obtain ⟨i0, hi, hz0, hz1, hz2⟩ := info_parts infoB
  have hc := copyCheck_any B b _ w h
  have hbl : (Lib.byteCells l).length = l.length := by simp [Lib.byteCells]
  clear h
  go_enter Tryd.func59, Tryd.ntmps59
  go_wp2_with fail
  refine hc.mono ?_
  rintro e w1 ⟨rfl, hat, hb1, hk1⟩
  obtain ⟨hB, v, hbk, hown, hne⟩ := hat
  have hz := hb1.size
  obtain ⟨ao, cap, rfl⟩ : ∃ ao cap, v = .slice ao (Lib.byteCells l).length cap := by
    rcases hown.2 with ⟨hv, h0⟩ | ⟨g, cap, cur, hv, _⟩
    · exact ⟨none, 0, by rw [hv, h0]⟩
    · exact ⟨_, _, hv⟩
  have c1 : w1.cell? ⟨b, 1, none⟩ = some (.slice ao (Lib.byteCells l).length cap) := by rw [Lib.cell_of_heap hbk]; rfl
  have hblt : b < w1.heap.size := (Array.getElem?_eq_some_iff.1 hbk).1
  have f1 : w1.frozen? ⟨b, 1, none⟩ = false := Lib.frozen_of_heap hbk 1
  have Hk1 := Lib.hid hk1
  have Hbk := Lib.hid hbk
  have Hown := Lib.hid hown
  have Hne := Lib.hid hne
  have Hbl := Lib.hid hbl
  clear hbk hown hne hbl hc hk1
  go_wp2_with (at_builtin; refine Lib.wpList_append_own_string _ rfl _ _ 119 9 rfl B 5 i0 Tryd.underlying119 Tryd.underlying9 hi hz0 hz1 hz2 _ _ _ rfl Hown.out s rfl ?h1 ?h2 ?h3 ?_)
  case h1 => rw [Hbl.out]; unfold maxLen; omega
  case h2 => rw [Hbl.out]; omega
  case h3 => omega
  intro v' w2 hown2 hgrow _
  obtain ⟨ta, tn, tc, rfl⟩ : ∃ ta tn tc, v' = .slice ta tn tc := by
    rcases hown2.2 with ⟨hv, _⟩ | ⟨g, cap, cur, hv, _⟩
    · exact ⟨none, 0, 0, hv⟩
    · exact ⟨_, _, _, hv⟩
  have hbk2 : w2.heap[b]? = some (.cells #[.pointer (some ⟨b, 0, none⟩), .slice ao (Lib.byteCells l).length cap] 121 (0, 0)) := (hgrow.block b hblt (fun e => Hne.out (by rw [e]))).trans Hbk.out
  have f2 : w2.frozen? ⟨b, 1, none⟩ = false := Lib.frozen_of_heap hbk2 1
  have d2 : w2.cell? ⟨b, 1, none⟩ = some (.slice ao (Lib.byteCells l).length cap) := by rw [Lib.cell_of_heap hbk2]; rfl
  have hfin : Bld B b (l ++ s.data.toList) (w2.setCell ⟨b, 1, none⟩ (.slice ta tn tc)) ∧ Below B w (w2.setCell ⟨b, 1, none⟩ (.slice ta tn tc)) ∧ Others b w (w2.setCell ⟨b, 1, none⟩ (.slice ta tn tc)) := by
    refine ⟨.inr (Lib.BuilderAt.put hB hbk2 ?_ (by decide)), ?_, fun k cs t f hk ht hkb => ?_⟩
    · rw [← bytes_app, List.length_append, Lib.strCells_length]; exact hown2
    · exact (hb1.grown hgrow (by omega) (fun g hg => (Hown.out.lt g hg).1)).setCell (p := ⟨b, 1, none⟩) hB _
    · have hk0 : w1.heap[k]? = w.heap[k]? := Hk1.out k hkb
      rw [Below.heap_setCell _ _ _ _ hkb, hgrow.block k (by rw [hk] at hk0; exact (Array.getElem?_eq_some_iff.1 hk0).1) ?_, hk0]
      intro e
      rcases Hown.out.2 with ⟨hv, _⟩ | ⟨g, cap, cur, hv, _, hg, _⟩
      · rw [hv] at e; cases e
      · rw [hv] at e
        have e2 : k = g := by simpa [Value.ownBlock] using e
        subst e2
        rw [hk, hg] at hk0
        injection hk0 with hk0
        injection hk0 with _ h2
        exact ht h2.symm
  have Hfin := Lib.hid hfin
  have hblt2 : b < w2.heap.size := (Array.getElem?_eq_some_iff.1 hbk2).1
  clear hfin hown2 hgrow hbk2 Hk1 Hbk Hown Hne Hbl
  go_wp2_with fail
  go_ret2
  exact ⟨rfl, Hfin.out⟩
end Go.Proofs.YtkhacogeffidoaaDoor

set_option linter.unusedVariables false
set_option linter.unusedSimpArgs false
namespace Go.Proofs.YtkhacogeffidoaaDoor
open Go.RowKit

/-- what text.Apply refuses -/
def applyE (s : Str) (o : Op) : Int := if checkText s ≠ 0 then checkText s else if check o ≠ 0 then check o else if sumF o ≠ rc s then 10 else 0
/-- .. and what it makes -/
def applyS (s : Str) (o : Op) : Str := if applyE s o = 0 then Uni.enc (app (rns s) (opP o)) else noText

/-- runes lie in block g -/
def RunesAt (w : World) (g : Nat) (rs : List Nat) : Prop := g < w.heap.size ∧ ∀ j r, rs[j]? = some r → w.cell? ⟨g, j, none⟩ = some (.int .i32 ((r : Nat) : Int))
theorem RunesAt.below {w w' : World} {B g : Nat} {rs : List Nat} (h : RunesAt w g rs) (hb : Below B w w') (hB : g < B) : RunesAt w' g rs :=
  ⟨Nat.lt_of_lt_of_le h.1 hb.size, fun j r hj => (hb.cell (p := ⟨g, j, none⟩) hB).trans (h.2 j r hj)⟩
/-- some of them as a string -/
theorem RunesAt.conv {w : World} {g : Nat} {rs : List Nat} (h : RunesAt w g rs) (off m c : Nat) (hm : off + m ≤ rs.length) :
    (convert 90 9 (.slice (some ⟨g, off, none⟩) m c)).run Tryd.prog w = .ok (.string (Uni.enc ((rs.drop off).take m))) w := by
  have hz : ∀ j, j < (((rs.drop off).take m).map fun r : Nat => (r : Int)).length → w.cell? ((⟨g, off, none⟩ : Addr).add j) = some (.int .i32 ((((rs.drop off).take m).map fun r : Nat => (r : Int)).getD j 0)) := by
    intro j hj
    simp only [List.length_map, List.length_take, List.length_drop] at hj
    have e : (⟨g, off, none⟩ : Addr).add j = ⟨g, off + j, none⟩ := by
      unfold Addr.add
      split
      · rename_i h0; rw [h0]; rfl
      · rfl
    have h1 : off + j < rs.length := by omega
    rw [e, h.2 (off + j) rs[off + j] (List.getElem?_eq_getElem h1)]
    simp only [List.getD, List.getElem?_map]
    rw [List.getElem?_take_of_lt (by omega), List.getElem?_drop, List.getElem?_eq_getElem h1]
    rfl
  have hr := run_convert_runes (P := Tryd.prog) w 90 9 21 ⟨g, off, none⟩ m c (((rs.drop off).take m).map fun r : Nat => (r : Int)) (by simp; omega) Tryd.underlying90 Tryd.underlying21 Tryd.underlying9 hz
  rw [List.take_of_length_le (by simp; omega), runesBytes_enc] at hr
  exact hr
/-- a string as runes: where they lie then -/
theorem runes_of (s : Str) (hs : s.size ≤ 70368744177664) : ∃ R : Array Value, R.size = (rns s).length ∧ R = ((rns s).map fun r : Nat => Value.int .i32 ((r : Nat) : Int)).toArray ∧ (∀ W : World, (convert 9 90 (.string s)).run Tryd.prog W =
    .ok (.slice (some ⟨W.heap.size, 0, none⟩) (rns s).length (grownCap W (rns s).length 0 21)) (W.drew.alloc (.cells (R ++ Array.replicate (grownCap W (rns s).length 0 21 - (rns s).length) (.int .i32 0)) 21))) := by
  have hR : Conv.runesFrom s s.size 0 #[] = ((rns s).map fun r : Nat => Value.int .i32 ((r : Nat) : Int)).toArray := by
    rw [Uni.runesFrom_dec]; simp [rns, Uni.dec]
  have hz : (Conv.runesFrom s s.size 0 #[]).size = (rns s).length := by rw [hR]; simp
  refine ⟨Conv.runesFrom s s.size 0 #[], hz, hR, fun W => ?_⟩
  have h := run_runes_of_string (P := Tryd.prog) W 9 90 21 s Tryd.underlying9 Tryd.underlying90 Tryd.underlying21
    (by rw [hz]; have h2 := rc_rns s; have h3 := rc_le s; omega)
  rw [hz] at h
  exact h
theorem runesAt_new (W : World) (R : Array Value) (J : Array Value) (rs : List Nat) (hR : R = (rs.map fun r : Nat => Value.int .i32 ((r : Nat) : Int)).toArray) (t : TypeId) : RunesAt (W.alloc (.cells (R ++ J) t)).drew W.heap.size rs := by
  subst hR
  refine ⟨by simp, fun j r hj => ?_⟩
  show (W.alloc (.cells _ t)).cell? _ = _
  rw [cell_of_row _ W.heap.size j _ t (0, 0) (heap_new_at _ _ _ (by simp))]
  have hlt := (List.getElem?_eq_some_iff.1 hj).1
  rw [Array.getElem?_append_left (by simpa using hlt)]
  simp [hj]
/-- the cells of parts over runes -/
theorem OpIs.cells {o : Op} {l : List P} (h : OpIs o l) {A : Nat → Prop} {w : World} {a : Option Addr} {n c : Nat} (hr : RdS A w o a n c) (hn : 0 < n) :
    ∃ b off, a = some ⟨b, off, none⟩ ∧ A b ∧ b < w.heap.size ∧ ∀ i p, l[i]? = some p →
      w.cell? ⟨b, off + i * 3, none⟩ = some (.int .i64 p.part.kind) ∧ w.cell? ⟨b, off + i * 3 + 1, none⟩ = some (.int .i64 p.part.n) ∧ w.cell? ⟨b, off + i * 3 + 2, none⟩ = some (.string p.part.text) := by
  obtain ⟨b, off, e, hA, hb, hc⟩ := hr.part hn
  refine ⟨b, off, e, hA, hb, fun i p hi => ?_⟩
  have hil : i < o.length := by rw [h.eq]; simpa using (List.getElem?_eq_some_iff.1 hi).1
  have hoi : o[i] = p.part := by
    have h1 : o[i]? = some p.part := by rw [h.eq, List.getElem?_map, hi]; rfl
    rw [List.getElem?_eq_getElem hil] at h1
    exact Option.some.inj h1
  have := hc i hil
  rw [hoi] at this
  exact this.2.2.2
theorem FS_take (l : List P) (k : Nat) : FS (l.take k) ≤ FS l := by
  have := FS_app (l.take k) (l.drop k)
  rw [List.take_append_drop] at this; omega
theorem TS_take (l : List P) (k : Nat) : TS (l.take k) ≤ TS l := by
  have := TS_app (l.take k) (l.drop k)
  rw [List.take_append_drop] at this; omega
theorem FS_next (l : List P) (k : Nat) (h : k < l.length) : FS (l.take (k + 1)) = FS (l.take k) + l[k].F := by
  rw [take_next l k h, FS_app]; simp [FS]
theorem TS_next (l : List P) (k : Nat) (h : k < l.length) : TS (l.take (k + 1)) = TS (l.take k) + l[k].T := by
  rw [take_next l k h, TS_app]; simp [TS]
theorem app_next (l : List P) (k : Nat) (h : k < l.length) (t : List Nat) : app t (l.take (k + 1)) = app t (l.take k) ++ app (t.drop (FS (l.take k))) [l[k]] := by
  rw [take_next l k h, app_app]
theorem enc_bytes (l : List Nat) : (Uni.enc l).data.toList = Uni.encL l := rfl

set_option maxRecDepth 100000 in
set_option maxHeartbeats 4000000 in
theorem apply_ok (s : Str) (o : Op) (a : Option Addr) (n c : Nat) (w : World) (hg : Good w) (hr : RdS (· < w.heap.size) w o a n c) (hs : s.size ≤ 70368744177664) (h0 : checkText s = 0) (h1 : check o = 0) (h2 : sumF o = rc s) :
    Calls Tryd.prog 40 #[.string s, .slice a n c] w fun e w' => e = .returned (.tuple #[.string (Uni.enc (app (rns s) (opP o))), .int .i64 0]) ∧ Below w.heap.size w w' := by
  have hss : s.size ≤ strMax := by unfold strMax; omega
  have HT := Lib.hid (by have := checkText_any s w hg hss; rw [h0] at this; exact this)
  have HC := Lib.hid (fun W (hb : Below w.heap.size w W) => by
    have := check_any (· < w.heap.size) o a n c W (hg.below' hb) (fun b h => Nat.lt_of_lt_of_le h hb.size) (hr.below (fun _ h => h) hb)
    rw [h1] at this; exact this)
  have HL := Lib.hid (fun W (hb : Below w.heap.size w W) => lengths_any (· < w.heap.size) o a n c W (hr.below (fun _ h => h) hb) (check_small h1))
  have hv : valid s = true := by
    unfold checkText at h0
    cases hv : valid s with
    | true => rfl
    | false => rw [hv] at h0; simp at h0
  have hvr := rns_vr hv
  have hrc := rc_rns s
  obtain ⟨R, hRz, hR, hconv⟩ := runes_of s hs
  have hcl := rc_le s
  have hO := opIs h1
  have hnl : n = (opP o).length := by have h := hr.1; rw [h]; unfold opP; simp
  have hn2 : n ≤ 8001 := by rw [hnl]; exact hO.len
  have hcells := fun h => hO.cells hr h
  have hFl := hO.fl
  have hTl := hO.tl
  have hF : FS (opP o) = (rns s).length := by have := hO.f; omega
  rw [h2, hrc] at HL
  have hok := hO.ok
  have htn := sumT o
  clear hr hO h0 h1 h2 hss hv hg htn hrc hcl
  generalize sumT o = tn at *
  generalize opP o = l at *
  generalize rns s = rs at *
  have Hcells := Lib.hid hcells
  have Hl := Lib.hid hnl
  have HF := Lib.hid hF
  have HRz := Lib.hid hRz
  have HR := Lib.hid hR
  have Hvr := Lib.hid hvr
  have Hok := Lib.hid hok
  clear hcells hnl hF hRz hR hvr hok
  -- what the parts up to k make is short
  have Hout : Hid (∀ k, k ≤ l.length → (Uni.encL (app rs (l.take k))).length ≤ 16000) := by
    unfold Hid
    intro k hk
    have h1 := Uni.encL_append
    have h2 := encL_size (app rs (l.take k)) (app_vr _ _ Hvr.out (fun p hp => Hok.out p (List.mem_of_mem_take hp)))
    have h3 := app_len (l.take k) rs (by have := FS_take l k; have := HF.out; omega)
    have h4 := TS_take l k
    omega
  go_enter Tryd.func40, Tryd.ntmps40
  go_wp2_with fail
  refine HT.out.mono ?_
  rintro e w1 ⟨rfl, hb1⟩
  clear HT
  go_wp2_with fail
  refine (HC.out _ hb1).mono ?_
  rintro e w2 ⟨rfl, hb2⟩
  clear HC
  have hb2 := hb1.trans (hb2.mono hb1.size)
  clear hb1
  go_wp2_with fail
  have hz2 := hb2.size
  have hg2 : RunesAt (w2.alloc (.cells (R ++ Array.replicate (grownCap w2 rs.length 0 21 - rs.length) (.int .i32 0)) 21)).drew w2.heap.size rs := runesAt_new w2 R _ rs HR.out _
  have hcap := grownCap_ge w2 rs.length 0 21
  have hcapm : grownCap w2 rs.length 0 21 ≤ maxLen := grownCap_le_maxLen w2 rs.length 0 21 (by have := HF.out; unfold maxLen; omega)
  have hbW : Below w.heap.size w (w2.alloc (.cells (R ++ Array.replicate (grownCap w2 rs.length 0 21 - rs.length) (.int .i32 0)) 21)).drew := by (repeat (first | exact Below.refl _ _ | assumption | (refine Below.drew ?_) | (refine below_drewN ?_ _) | (refine Below.alloc ?_ (by first | (simp; done) | (simp; omega) | omega) _) | (refine Below.setCell ?_ (by first | (simp; done) | (simp; omega) | omega) _) | (refine Below.trans ?_ (Below.mono (by assumption) (by first | (simp; done) | (simp; omega) | omega)))))
  have hz3 : w2.heap.size < (w2.alloc (.cells (R ++ Array.replicate (grownCap w2 rs.length 0 21 - rs.length) (.int .i32 0)) 21)).drew.heap.size := hg2.1
  generalize (w2.alloc (.cells (R ++ Array.replicate (grownCap w2 rs.length 0 21 - rs.length) (.int .i32 0)) 21)).drew = w3 at *
  generalize grownCap w2 rs.length 0 21 = cap at *
  generalize w2.heap.size = g at *
  clear hb2 hconv HRz HR
  refine (HL.out _ hbW).mono ?_
  rintro e w4 ⟨rfl, hb4⟩
  have hbW := hbW.trans (hb4.mono hbW.size)
  have hg4 := hg2.below hb4 hz3
  have hz4 := hb4.size
  clear hb4 HL hg2
  unfold maxLen at hcapm
  go_wp2_with fail
  have hBw : w.heap.size ≤ w4.heap.size := hbW.size
  have hgB : g < w4.heap.size := by omega
  have h0 : Bld w4.heap.size w4.heap.size (Uni.encL (app rs (l.take 0))) (w4.alloc (.cells #[.pointer none, .slice none 0 0] 121)) := Lib.fresh_isBuilder _ _ w4
  have h1 : RunesAt (w4.alloc (.cells #[.pointer none, .slice none 0 0] 121)) g rs := hg4.below ((Below.refl _ _).alloc (Nat.le_refl _) _) hgB
  have H0 := Lib.hid h0
  have H1 := Lib.hid h1
  have H2 := Lib.hid (hbW.alloc hBw (.cells #[.pointer none, .slice none 0 0] 121))
  have H3 : Hid (w4.heap.size ≤ (w4.alloc (.cells #[.pointer none, .slice none 0 0] 121)).heap.size) := by unfold Hid; simp
  clear h0 h1 hbW hg4
  generalize (w4.alloc (.cells #[.pointer none, .slice none 0 0] 121)) = w5 at *
  generalize w4.heap.size = B at *
  go_loopw [12, 38] (fun t i wr => ∃ k : Nat, k ≤ n ∧ i = .int .i64 k ∧ t = .int .i64 ((FS (l.take k) : Nat) : Int) ∧ Bld B B (Uni.encL (app rs (l.take k))) wr ∧ RunesAt wr g rs ∧ B ≤ wr.heap.size ∧ Below w.heap.size w wr) (fun _ i _ => n - (intOf i).toNat)
  case atStart => exact ⟨0, by omega, rfl, rfl, H0.out, H1.out, H3.out, H2.out⟩
  case round =>
    obtain ⟨k, hk, rfl, rfl, hbld, hrun, hBr, hb⟩ := hrel
    clear H0 H1 H2 H3
    by_cases hlt : k < n
    · obtain ⟨b, off, rfl, _, hbs, hcs⟩ := Hcells.out (by omega)
      have hkl : k < l.length := by have := Hl.out; omega
      obtain ⟨c0, c1, c2⟩ := hcs k l[k] (List.getElem?_eq_getElem hkl)
      clear hcs
      obtain ⟨hcb, hfb⟩ := bcell hb
      have HFn := Lib.hid (FS_next l k hkl)
      have Hap := Lib.hid (app_next l k hkl rs)
      have hFk := FS_take l (k + 1)
      have hFl2 := HF.out
      have hok := Hok.out l[k] (List.getElem_mem hkl)
      have hlen := Hout.out k (by omega)
      have hTn := TS_next l k hkl
      have hTt := TS_take l (k + 1)
      rw [hTn] at hTt
      clear hTn
      have hx : FS (l.take (k + 1)) = FS (l.take k) + l[k].F := FS_next l k hkl
      rw [hx] at hFk
      clear hx
      have hBlt := hbld.lt
      have Hbld := Lib.hid hbld
      have Hrun := Lib.hid hrun
      clear hbld hrun
      generalize FS (l.take k) = F at *
      generalize l[k] = p at *
      generalize TS (l.take k) = tt at *
      cases p with
      | k m =>
        clear hTt
        simp only [P.part, P.F, P.ok] at c0 c1 c2 hFk hok HFn
        have hrl : F + m ≤ rs.length := by omega
        have hm4 : m ≤ 4000 := by omega
        clear hFl2 hFl
        have Hcv : Hid (∀ W C, Below B wr W → (convert 90 9 (.slice (some ⟨g, F, none⟩) m C)).run Tryd.prog W = .ok (.string (Uni.enc ((rs.drop F).take m))) W) := fun W C hW => (Hrun.out.below hW hgB).conv F m C hrl
        have hcv := Hcv.out (wr.alloc (.cells #[.int .i64 1, .int .i64 ((m : Nat) : Int), .string noText] 110)) (cap - F) ((Below.refl _ _).alloc hBr _)
        have Hal := Lib.hid (Hbld.out.below ((Below.refl _ _).alloc (Nat.le_refl _) (.cells #[.int .i64 1, .int .i64 ((m : Nat) : Int), .string noText] 110)))
        have hsz := enc_size ((rs.drop F).take m) (fun r h => Hvr.out r (List.mem_of_mem_drop (List.mem_of_mem_take h)))
        have hsz2 : ((rs.drop F).take m).length ≤ 4000 := by rw [List.length_take]; omega
        have Hpc : Hid (Uni.encL (app rs (l.take k)) ++ (Uni.enc ((rs.drop F).take m)).data.toList = Uni.encL (app rs (l.take (k + 1)))) := by
          unfold Hid; rw [Hap.out, Uni.encL_append]; simp [app, enc_bytes]
        generalize Uni.enc ((rs.drop F).take m) = T at *
        clear Hap
        go_wp2_with fail
        refine (wstr_any B B _ T _ Hal.out (by omega) (by simp; omega)).mono ?_
        rintro e w6 ⟨rfl, hbld6, hb6, hot⟩
        have hpb := hot wr.heap.size _ _ _ (heap_new_at wr _ _ rfl) (by decide) (by omega)
        have d1 : w6.cell? ⟨wr.heap.size, 1, none⟩ = some (.int .i64 ((m : Nat) : Int)) := (cell_keep hpb).trans (by rw [cell_of_row _ _ _ _ _ _ (heap_new_at _ _ _ rfl)]; rfl)
        rw [Hpc.out] at hbld6
        have Hb6 := Lib.hid hbld6
        have hbz := hb.size
        have Hbelow : Hid (Below w.heap.size w w6) := by unfold Hid; exact (hb.alloc hbz _).trans (hb6.mono (by omega))
        have Hrun6 : Hid (RunesAt w6 g rs) := Hrun.out.below (((Below.refl _ _).alloc hBr _).trans hb6) hgB
        have hB6 : B ≤ w6.heap.size := by have := hb6.size; simp at this; omega
        clear hbld6 hb6 hot hpb Hal Hpc hcv Hcv hcb hfb
        go_wp2_with fail
        go_roundw
        case rel => exact ⟨k + 1, by omega, by go_num, by rw [HFn.out]; go_num, Hb6.out, Hrun6.out, hB6, Hbelow.out⟩
        case measure => simp [intOf]; omega
      | i t =>
        simp only [P.part, P.F, P.ok, P.T] at c0 c1 c2 hFk hok HFn hTt
        have Hal := Lib.hid (Hbld.out.below ((Below.refl _ _).alloc (Nat.le_refl _) (.cells #[.int .i64 2, .int .i64 0, .string (Uni.enc t)] 110)))
        have hsz := enc_size t hok.2
        have Hpc : Hid (Uni.encL (app rs (l.take k)) ++ (Uni.enc t).data.toList = Uni.encL (app rs (l.take (k + 1)))) := by
          unfold Hid; rw [Hap.out, Uni.encL_append]; simp [app, enc_bytes]
        have hsz2 : t.length ≤ 4000 := by
          omega
        generalize Uni.enc t = T at *
        clear Hap hok
        go_wp2_with fail
        refine (wstr_any B B _ T _ Hal.out (by omega) (by simp; omega)).mono ?_
        rintro e w6 ⟨rfl, hbld6, hb6, hot⟩
        rw [Hpc.out] at hbld6
        have Hb6 := Lib.hid hbld6
        have hbz := hb.size
        have Hbelow : Hid (Below w.heap.size w w6) := by unfold Hid; exact (hb.alloc hbz _).trans (hb6.mono (by omega))
        have Hrun6 : Hid (RunesAt w6 g rs) := Hrun.out.below (((Below.refl _ _).alloc hBr _).trans hb6) hgB
        have hB6 : B ≤ w6.heap.size := by have := hb6.size; simp at this; omega
        clear hbld6 hb6 hot Hal Hpc hcb hfb
        go_wp2_with fail
        go_roundw
        case rel => exact ⟨k + 1, by omega, by go_num, by rw [HFn.out]; go_num, Hb6.out, Hrun6.out, hB6, Hbelow.out⟩
        case measure => simp [intOf]; omega
      | d m =>
        clear hTt
        simp only [P.part, P.F, P.ok] at c0 c1 c2 hFk hok HFn
        have Hpc : Hid (app rs (l.take k) = app rs (l.take (k + 1))) := by
          unfold Hid; rw [Hap.out]; simp [app]
        have hbz := hb.size
        have hrl : F + m ≤ rs.length := by omega
        have Hfin : Hid (∀ W, Below wr.heap.size wr W → Bld B B (Uni.encL (app rs (l.take (k + 1)))) W ∧ RunesAt W g rs ∧ B ≤ W.heap.size ∧ Below w.heap.size w W) := by
          unfold Hid
          intro W hW
          rw [← Hpc.out]
          exact ⟨Hbld.out.below hW, Hrun.out.below hW (by omega), by have := hW.size; omega, hb.trans (hW.mono hbz)⟩
        clear Hap Hpc Hbld Hrun hFl2 hFl
        go_wp2_with fail
        go_roundw
        case rel => exact ⟨k + 1, by omega, by go_num, by rw [HFn.out]; go_num, Hfin.out _ (by (repeat (first | exact Below.refl _ _ | assumption | (refine Below.drew ?_) | (refine below_drewN ?_ _) | (refine Below.alloc ?_ (by first | (simp; done) | (simp; omega) | omega) _) | (refine Below.setCell ?_ (by first | (simp; done) | (simp; omega) | omega) _) | (refine Below.trans ?_ (Below.mono (by assumption) (by first | (simp; done) | (simp; omega) | omega))))))⟩
        case measure => simp [intOf]; omega
    · have hkn : k = l.length := by have := Hl.out; omega
      have hbz := hb.size
      have Hb := Lib.hid hb
      rw [hkn, List.take_length] at hbld
      have Hbld := Lib.hid hbld
      clear hb hbld
      go_wp2_with fail
      refine (Tryd.Builder_String_any B B _ wr Hbld.out hBr).mono ?_
      rintro e w6 ⟨rfl, hb6⟩
      have Hb6 := Lib.hid (Hb.out.trans (hb6.mono hBw))
      clear hb6
      go_wp2_with fail
      go_ret2
      exact ⟨rfl, Hb6.out⟩

set_option maxRecDepth 100000 in
set_option maxHeartbeats 2000000 in
theorem apply_any (s : Str) (o : Op) (a : Option Addr) (n c : Nat) (w : World) (hg : Good w) (hr : RdS (· < w.heap.size) w o a n c) (hs : s.size ≤ 70368744177664) :
    Calls Tryd.prog 40 #[.string s, .slice a n c] w fun e w' => e = .returned (.tuple #[.string (applyS s o), .int .i64 (applyE s o)]) ∧ Below w.heap.size w w' := by
  have hss : s.size ≤ strMax := by unfold strMax; omega
  have HT := Lib.hid (checkText_any s w hg hss)
  have HC := Lib.hid (fun W (hb : Below w.heap.size w W) => check_any (· < w.heap.size) o a n c W (hg.below' hb) (fun b h => Nat.lt_of_lt_of_le h hb.size) (hr.below (fun _ h => h) hb))
  by_cases h0 : checkText s = 0
  · by_cases h1 : check o = 0
    · by_cases h2 : sumF o = rc s
      · have hE : applyE s o = 0 := by unfold applyE; rw [if_neg (by simpa using h0), if_neg (by simpa using h1), if_neg (by simpa using h2)]
        unfold applyS
        rw [hE, if_pos rfl]
        exact apply_ok s o a n c w hg hr hs h0 h1 h2
      · have hE : applyE s o = 10 := by unfold applyE; rw [if_neg (by simpa using h0), if_neg (by simpa using h1), if_pos (by simpa using h2)]
        unfold applyS
        rw [hE, if_neg (by decide)]
        have HL := Lib.hid (fun W (hb : Below w.heap.size w W) => lengths_any (· < w.heap.size) o a n c W (hr.below (fun _ h => h) hb) (check_small h1))
        obtain ⟨R, hRz, hR, hconv⟩ := runes_of s hs
        have hcl := rc_le s
        have hne : ((sumF o != rc s)) = true := by simpa using h2
        rw [rc_rns s] at hne
        have hlim : ((rns s).length : Int) ≤ 70368744177664 := by have := rc_rns s; omega
        rw [h0] at HT; rw [h1] at HC
        clear hR hRz hr h0 h1 h2 hE hcl hss hg
        generalize sumF o = x at *
        generalize sumT o = y at *
        generalize rns s = rs at *
        go_enter Tryd.func40, Tryd.ntmps40
        go_wp2_with fail
        refine HT.out.mono ?_
        rintro e w1 ⟨rfl, hb1⟩
        clear HT
        go_wp2_with fail
        refine (HC.out _ hb1).mono ?_
        rintro e w2 ⟨rfl, hb2⟩
        clear HC
        have hb2 := hb1.trans (hb2.mono hb1.size)
        clear hb1
        go_wp2_with fail
        have hz2 := hb2.size
        have hbW : Below w.heap.size w (w2.alloc (.cells (R ++ Array.replicate (grownCap w2 rs.length 0 21 - rs.length) (.int .i32 0)) 21)).drew := by (repeat (first | exact Below.refl _ _ | assumption | (refine Below.drew ?_) | (refine below_drewN ?_ _) | (refine Below.alloc ?_ (by first | (simp; done) | (simp; omega) | omega) _) | (refine Below.setCell ?_ (by first | (simp; done) | (simp; omega) | omega) _) | (refine Below.trans ?_ (Below.mono (by assumption) (by first | (simp; done) | (simp; omega) | omega)))))
        refine (HL.out _ hbW).mono ?_
        rintro e w4 ⟨rfl, hb4⟩
        have hbW := hbW.trans (hb4.mono hbW.size)
        go_wp2_with fail
        go_ret2
        exact ⟨rfl, hbW⟩
    · have hE : applyE s o = check o := by unfold applyE; rw [if_neg (by simpa using h0), if_pos h1]
      unfold applyS
      rw [hE, if_neg h1]
      rw [h0] at HT
      have hne : (check o != 0) = true := by simpa using h1
      clear hr h0 h1 hE hss hg
      generalize check o = x at *
      go_enter Tryd.func40, Tryd.ntmps40
      go_wp2_with fail
      refine HT.out.mono ?_
      rintro e w1 ⟨rfl, hb1⟩
      clear HT
      go_wp2_with fail
      refine (HC.out _ hb1).mono ?_
      rintro e w2 ⟨rfl, hb2⟩
      clear HC
      have hb2 := hb1.trans (hb2.mono hb1.size)
      clear hb1
      go_wp2_with fail
      go_ret2
      exact ⟨rfl, hb2⟩
  · have hE : applyE s o = checkText s := by unfold applyE; rw [if_pos h0]
    unfold applyS
    rw [hE, if_neg h0]
    have hne : (checkText s != 0) = true := by simpa using h0
    clear hr h0 hE hss hg HC
    generalize checkText s = x at *
    go_enter Tryd.func40, Tryd.ntmps40
    go_wp2_with fail
    refine HT.out.mono ?_
    rintro e w1 ⟨rfl, hb1⟩
    clear HT
    go_wp2_with fail
    go_ret2
    exact ⟨rfl, hb1⟩
end Go.Proofs.YtkhacogeffidoaaDoor

set_option linter.unusedVariables false
set_option linter.unusedSimpArgs false
namespace Go.Proofs.YtkhacogeffidoaaDoor
open Go.RowKit

theorem RdS.go {α : Type} [Rep α] {w w' : World} {l : List α} {a : Option Addr} {n c : Nat} (hr : RdS (· < w.heap.size) w l a n c) (hb : Below w.heap.size w w') : RdS (· < w'.heap.size) w' l a n c :=
  hr.mono fun b h => ⟨Nat.lt_of_lt_of_le h hb.size, hb.block b h⟩
/-- at its own world all blocks that are reached are there -/
theorem RdS.wide {α : Type} [Rep α] {A : Nat → Prop} {w : World} {l : List α} {a : Option Addr} {n c : Nat} (hr : RdS A w l a n c) (hA : ∀ b, A b → b < w.heap.size) : RdS (· < w.heap.size) w l a n c :=
  hr.mono fun b h => ⟨hA b h, rfl⟩
theorem valid_of {s : Str} (h : checkText s = 0) : valid s = true ∧ rc s ≤ 4000 := by
  unfold checkText at h
  cases hv : valid s with
  | false => rw [hv] at h; simp at h
  | true =>
    rw [hv] at h
    by_cases h4 : 4000 < rc s
    · simp [h4] at h
    · exact ⟨rfl, by omega⟩
theorem checkText_of {s : Str} (hv : valid s = true) (h4 : rc s ≤ 4000) : checkText s = 0 := by
  unfold checkText; rw [if_neg (by simp [hv]), if_neg (by omega)]
theorem apply_good {s : Str} {o : Op} (h0 : checkText s = 0) (h1 : check o = 0) (h2 : sumF o = rc s) :
    applyE s o = 0 ∧ applyS s o = Uni.enc (app (rns s) (opP o)) ∧ (∀ r ∈ app (rns s) (opP o), Uni.vr r) ∧ rc (applyS s o) = sumT o ∧ checkText (applyS s o) = 0 ∧ (applyS s o).size ≤ 16000 := by
  have hE : applyE s o = 0 := by unfold applyE; rw [if_neg (by simpa using h0), if_neg (by simpa using h1), if_neg (by simpa using h2)]
  have hO := opIs h1
  have hS : applyS s o = Uni.enc (app (rns s) (opP o)) := by unfold applyS; rw [if_pos hE]
  have hv := rns_vr (valid_of h0).1
  have hvr := app_vr (opP o) (rns s) hv hO.ok
  have hl : (app (rns s) (opP o)).length = TS (opP o) := app_len _ _ (by have := hO.f; have := rc_rns s; omega)
  have hrc : rc (applyS s o) = sumT o := by rw [hS, rc_enc _ hvr, hl, hO.t]
  have htl := hO.tl
  have ht := hO.t
  refine ⟨hE, hS, hvr, hrc, checkText_of (by rw [hS]; exact valid_enc _ hvr) (by rw [hrc]; omega), ?_⟩
  have := enc_size _ hvr
  rw [hS]; omega
theorem apply_miss {s : Str} {o : Op} (h0 : checkText s = 0) (h1 : check o = 0) (h2 : sumF o ≠ rc s) : applyE s o = 10 := by
  unfold applyE; rw [if_neg (by simpa using h0), if_neg (by simpa using h1), if_pos h2]
theorem rns_apply {s : Str} {o : Op} (h0 : checkText s = 0) (h1 : check o = 0) (h2 : sumF o = rc s) : rns (applyS s o) = app (rns s) (opP o) := by
  obtain ⟨_, hS, hvr, _⟩ := apply_good h0 h1 h2
  rw [hS, rns_enc hvr]
/-- the text of raw things -/
theorem letters_ok (s : Str) (m : Nat) (hm : m ≤ 4000) : checkText (letters s m) = 0 ∧ 0 ≤ rc (letters s m) ∧ rc (letters s m) ≤ m ∧ (letters s m).size ≤ m * 4 := by
  have h1 := letters_rc s m
  exact ⟨checkText_of (letters_valid s m) (by omega), by omega, by omega, letters_size s m⟩
/-- what Op makes of raw things -/
theorem mkOp_ok (n : Int) (l : List Raw) (h0 : 0 ≤ n) (h1 : n ≤ 3976) : check (mkOp n l) = 0 ∧ sumF (mkOp n l) = n ∧ 0 ≤ sumT (mkOp n l) ∧ sumT (mkOp n l) ≤ n + 24 := opOf_good texts_letters n h0 h1 l
/-- Op's call, as the walks of laws take it -/
theorem mkOp_go (n : Int) (l : List Raw) (a : Option Addr) (m c : Nat) (w : World) (hr : RdS (· < w.heap.size) w l a m c) (hn : 0 ≤ n) (hn' : n ≤ 1000000000) :
    Calls Tryd.prog 29 #[.int .i64 n, .slice a m c] w fun e w' => ∃ a' c', e = .returned (.slice a' (mkOp n l).length c') ∧ RdS (· < w'.heap.size) w' (mkOp n l) a' (mkOp n l).length c' ∧ Below w.heap.size w w' := by
  refine (mkOp_any (· < w.heap.size) n l a m c w (fun b h => h) hr hn hn').mono ?_
  rintro e w' ⟨a', c', rfl, hr', hb⟩
  refine ⟨a', c', rfl, ?_, hb⟩
  obtain ⟨h1, h2, h3, h4, h6⟩ := hr'
  refine ⟨h1, h2, h3, h4, fun hn => ?_⟩
  obtain ⟨b, off, e, _, hlt, h⟩ := h6 hn
  exact ⟨b, off, e, hlt, hlt, fun i x hx => h i x hx⟩
theorem check_go (o : Op) (a : Option Addr) (n c : Nat) (w : World) (hg : Good w) (hr : RdS (· < w.heap.size) w o a n c) :
    Calls Tryd.prog 52 #[.slice a n c] w fun e w' => e = .returned (.int .i64 (check o)) ∧ Below w.heap.size w w' := check_any _ o a n c w hg (fun _ h => h) hr
theorem lengths_go (o : Op) (a : Option Addr) (n c : Nat) (w : World) (hr : RdS (· < w.heap.size) w o a n c) (h : check o = 0) :
    Calls Tryd.prog 36 #[.slice a n c] w fun e w' => e = .returned (.tuple #[.int .i64 (sumF o), .int .i64 (sumT o)]) ∧ Below w.heap.size w w' := lengths_any _ o a n c w hr (check_small h)
end Go.Proofs.YtkhacogeffidoaaDoor

set_option linter.unusedVariables false
set_option linter.unusedSimpArgs false
namespace Go.Proofs.YtkhacogeffidoaaDoor
open Go.RowKit

theorem RdS.of_cells {w : World} {l : Op} {b t : Nat} {A : Nat → Prop} (h : w.heap[b]? = some (.cells (flat l).toArray t (0, 0))) (hp : ∀ p ∈ l, I64 p.kind ∧ I64 p.n ∧ p.text.size ≤ strMax) (hA : A b) (hl : l.length ≤ 1000) :
    RdS A w l (some ⟨b, 0, none⟩) l.length l.length := by
  refine ⟨rfl, Nat.le_refl _, by unfold maxLen; omega, (fun h => by cases h), fun _ => ⟨b, 0, rfl, hA, (Array.getElem?_eq_some_iff.1 h).1, fun i x hx => ⟨partCells x, ⟨rfl, hp x (List.mem_of_getElem? hx)⟩, fun j u hu => ?_⟩⟩⟩
  obtain ⟨h1, h2, h3⟩ := flat_at l i x hx
  rw [cell_of_row w b _ _ t (0, 0) h]
  simp only [Rep.n, Nat.zero_add, List.getElem?_toArray]
  match j, hu with
  | 0, hu => simp [partCells] at hu; rw [← hu]; exact h1
  | 1, hu => simp [partCells] at hu; rw [← hu]; exact h2
  | 2, hu => simp [partCells] at hu; rw [← hu]; exact h3
theorem RdS.nil {α : Type} [Rep α] (A : Nat → Prop) (w : World) : RdS (α := α) A w [] none 0 0 := ⟨rfl, Nat.le_refl _, by unfold maxLen; omega, fun _ => rfl, fun h => absurd h (by omega)⟩
theorem check_nil : check [] = 0 := rfl
theorem valid_x : valid ⟨#[120]⟩ = true := rfl
theorem valid_e : valid ⟨#[]⟩ = true := rfl
theorem valid_ff : valid ⟨#[255]⟩ = false := rfl
theorem rc_x : rc ⟨#[120]⟩ = 1 := rfl
theorem rc_e : rc ⟨#[]⟩ = 0 := rfl
theorem em_e : emptyS ⟨#[]⟩ = true := by rw [emptyS_iff]; rfl
theorem em_x : emptyS ⟨#[120]⟩ = false := by
  cases h : emptyS ⟨#[120]⟩ with
  | false => rfl
  | true => rw [emptyS_iff] at h; exact absurd h (by decide)
theorem abs_w {P : Program} {c : Code} {K : _} {fr : _} {W0 : World} (Q : World → Prop) (hQ : Q W0) (k : ∀ W, Q W → Code.wp P c K fr W) : Code.wp P c K fr W0 := k _ hQ
theorem alloc_sz (w : World) (o : Obj) : (w.alloc o).heap.size = w.heap.size + 1 := by
  show (w.heap.push o).size = _
  rw [Array.size_push]
theorem alloc_at (w : World) (o : Obj) (i : Nat) : (w.alloc o).heap[i]? = if i = w.heap.size then some o else w.heap[i]? := by
  show (w.heap.push o)[i]? = _
  rw [Array.getElem?_push]
end Go.Proofs.YtkhacogeffidoaaDoor

set_option linter.unusedVariables false
set_option linter.unusedSimpArgs false
namespace Go.Proofs.YtkhacogeffidoaaDoor
open Go.RowKit

/-- block b is this -/
def Blk (b : Nat) (o : Obj) (W : World) : Prop := W.heap[b]? = some o
theorem Blk.lt {b : Nat} {o : Obj} {W : World} (h : Blk b o W) : b < W.heap.size := (Array.getElem?_eq_some_iff.1 h).1
theorem Blk.go {b : Nat} {o : Obj} {W W' : World} (h : Blk b o W) (hb : Below W.heap.size W W') : Blk b o W' := (hb.block b h.lt).trans h
theorem Blk.new (W : World) (o : Obj) : Blk W.heap.size o (W.alloc o) := heap_alloc_new W o
theorem Blk.at (W : World) (o : Obj) (b : Nat) (h : W.heap.size = b) : Blk b o (W.alloc o) := heap_new_at W o b h
theorem Blk.alloc {b : Nat} {o : Obj} {W : World} (h : Blk b o W) (o' : Obj) : Blk b o (W.alloc o') := h.go ((Below.refl _ _).alloc (Nat.le_refl _) _)
theorem Blk.drew {b : Nat} {o : Obj} {W : World} (h : Blk b o W) : Blk b o W.drew := h
theorem Blk.cell {b : Nat} {cs : Array Value} {t : Nat} {W : World} (h : Blk b (.cells cs t (0, 0)) W) (i : Nat) : W.cell? ⟨b, i, none⟩ = cs[i]? := cell_of_row _ _ _ _ _ _ h
theorem Good.go {W W' : World} (h : Good W) (hb : Below W.heap.size W W') : Good W' := h.below' hb
theorem up {a b c : World} (h : Below a.heap.size a b) (k : Below b.heap.size b c) : Below a.heap.size a c := h.trans (k.mono h.size)
theorem upper {B : Nat} {a b c : World} (h : Below B a b) (k : Below b.heap.size b c) (hB : B ≤ b.heap.size) : Below B a c := h.trans (k.mono hB)
theorem RdS.none' {α : Type} [Rep α] (W : World) : RdS (α := α) (· < W.heap.size) W [] none 0 0 := RdS.nil _ _
theorem abs_run {P : Program} {f : Nat} {vs : Array Value} {F : Ending → World → Prop} {W0 : World} (Q : World → Prop) (hQ : Q W0) (k : ∀ W, Q W → Calls P f vs W F) : Calls P f vs W0 F := k _ hQ

/-- a block of slices reads as the list of what they read as -/
theorem RdS.of_slices {α : Type} [Rep α] {W : World} {ls : List (List α)} {b t : Nat} {vs : List Value} (h : Blk b (.cells vs.toArray t (0, 0)) W) (hl : vs.length = ls.length) (hm : ls.length ≤ 1000000000)
    (hv : ∀ (i : Nat) (o : List α), ls[i]? = some o → ∃ (a : Option Addr) (n c : Nat), vs[i]? = some (Value.slice a n c) ∧ RdS (· < W.heap.size) W o a n c) : RdS (· < W.heap.size) W ls (some ⟨b, 0, none⟩) ls.length ls.length := by
  refine ⟨rfl, Nat.le_refl _, by unfold maxLen; omega, (fun h => by cases h), fun _ => ⟨b, 0, rfl, h.lt, h.lt, fun i o hi => ?_⟩⟩
  obtain ⟨a, n, c, hv1, hr⟩ := hv i o hi
  refine ⟨[.slice a n c], ⟨a, n, c, rfl, hr⟩, fun j u hu => ?_⟩
  have hj : j = 0 := by
    cases j with
    | zero => rfl
    | succ j => simp at hu
  subst hj
  simp at hu
  subst hu
  have e1 : 0 + i * Rep.n (List α) + 0 = i := by show 0 + i * 1 + 0 = i; omega
  rw [e1, h.cell i]
  simpa using hv1
theorem RdS.two {α : Type} [Rep α] {W : World} {o q : List α} {b t : Nat} {a1 a2 : Option Addr} {n1 c1 n2 c2 : Nat} (h : Blk b (.cells #[.slice a1 n1 c1, .slice a2 n2 c2] t (0, 0)) W) (h1 : RdS (· < W.heap.size) W o a1 n1 c1) (h2 : RdS (· < W.heap.size) W q a2 n2 c2) :
    RdS (· < W.heap.size) W [o, q] (some ⟨b, 0, none⟩) 2 2 := by
  refine RdS.of_slices (ls := [o, q]) (vs := [.slice a1 n1 c1, .slice a2 n2 c2]) h rfl (by simp) (fun i x hi => ?_)
  match i, hi with
  | 0, hi => simp at hi; subst hi; exact ⟨_, _, _, rfl, h1⟩
  | 1, hi => simp at hi; subst hi; exact ⟨_, _, _, rfl, h2⟩
  | i + 2, hi => simp at hi
end Go.Proofs.YtkhacogeffidoaaDoor

set_option linter.unusedVariables false
set_option linter.unusedSimpArgs false
namespace Go.Proofs.YtkhacogeffidoaaDoor
open Go.RowKit

theorem isBad_any (f : Fr) (a : Option Addr) (n c : Nat) (w : World) (hg : Good w) (hr : RdS (· < w.heap.size) w f.op a n c) (hf : f.fits) :
    Calls Tryd.prog 64 #[.agg #[.int .i64 f.kind, .int .i64 f.heard, .int .i64 f.epoch, .slice a n c, .string f.text]] w fun e w' => e = .returned (.bool (f.check != 0)) ∧ Below w.heap.size w w' := by
  have HC := Lib.hid (fun W (hW : Below w.heap.size w W) => checkFrame_any (· < W.heap.size) f.kind f.heard f.epoch f.op f.text a n c W (hg.go hW) (fun _ h => h) (hr.go hW) hf.1 hf.2.1 hf.2.2.1 hf.2.2.2)
  rw [show checkFrame f.kind f.heard f.epoch f.op f.text = f.check from rfl] at HC
  generalize f.check = F at *
  clear hr hg hf
  obtain ⟨k, h, e, o, t⟩ := f
  simp only at *
  obtain ⟨q, hq⟩ : ∃ q, (F != 0) = q := ⟨_, rfl⟩
  rw [hq]
  go_enter Tryd.func64, Tryd.ntmps64
  go_wp2_with fail
  refine abs_run (fun W => Below w.heap.size w W) (by (repeat (first | exact Below.refl _ _ | assumption | (refine Below.drew ?_) | (refine below_drewN ?_ _) | (refine Below.alloc ?_ (by first | (simp; done) | (simp; omega) | omega) _) | (refine Below.setCell ?_ (by first | (simp; done) | (simp; omega) | omega) _) | (refine Below.trans ?_ (Below.mono (by assumption) (by first | (simp; done) | (simp; omega) | omega)))))) ?_
  intro W hW
  refine (HC.out W hW).mono ?_
  rintro e w2 ⟨rfl, u2⟩
  have U2 := Lib.hid (up hW u2)
  clear hW u2 HC
  cases q
  · go_wp2_with fail
    go_ret
    exact ⟨rfl, U2.out⟩
  · go_wp2_with fail
    go_ret
    exact ⟨rfl, U2.out⟩
def frsOk (l : List Fr) : Bool := l.all fun f => f.check == 0
/-- the first that may not be -/
def firstBad : List Fr → Option Nat
  | [] => none
  | f :: l => if f.check = 0 then (firstBad l).map (· + 1) else some 0
theorem firstBad_ok : ∀ l, (firstBad l).isNone = frsOk l
  | [] => rfl
  | f :: l => by
    unfold firstBad frsOk
    by_cases h : f.check = 0
    · rw [if_pos h, List.all_cons, h]
      have := firstBad_ok l
      unfold frsOk at this
      rw [← this]
      cases firstBad l <;> rfl
    · rw [if_neg h, List.all_cons]
      simp [h]
theorem firstBad_drop : ∀ (l : List Fr) (k : Nat), (∀ f ∈ l.take k, f.check = 0) → firstBad l = (firstBad (l.drop k)).map (· + k)
  | l, 0, _ => by simp
  | [], k + 1, _ => by simp [firstBad]
  | f :: l, k + 1, h => by
    have h1 := firstBad_drop l k (fun g hg => h g (by rw [List.take_succ_cons]; exact List.mem_cons_of_mem _ hg))
    have h0 : f.check = 0 := h f (by rw [List.take_succ_cons]; exact List.mem_cons_self ..)
    rw [List.drop_succ_cons, show firstBad (f :: l) = (firstBad l).map (· + 1) from by rw [firstBad, if_pos h0], h1, Option.map_map]
    congr 1
def badIx (l : List Fr) : Int := match firstBad l with | some i => i | none => -1
set_option maxRecDepth 100000 in
set_option maxHeartbeats 2000000 in
theorem indexBad_any (l : List Fr) (a : Option Addr) (n c : Nat) (w : World) (hg : Good w) (hr : RdS (· < w.heap.size) w l a n c) :
    Calls Tryd.prog 77 #[.slice a n c, .func (.func 64) #[] #[]] w fun e w' => e = .returned (.int .i64 (badIx l)) ∧ Below w.heap.size w w' := by
  have hnl := hr.1
  have hnm : n ≤ maxLen := Nat.le_trans hr.2.1 hr.2.2.1
  unfold maxLen at hnm
  obtain ⟨R, hR⟩ : ∃ R, R = badIx l := ⟨_, rfl⟩
  rw [← hR]
  have HR := Lib.hid hR
  have Hg := Lib.hid hg
  have Hr := Lib.hid hr
  have Hl := Lib.hid hnl
  clear hR hg hr hnl
  go_enter Tryd.func77, Tryd.ntmps77
  go_wp2_with fail
  go_loopw [8] (fun i wr => ∃ k : Nat, k ≤ n ∧ i = .int .i64 k ∧ (∀ f ∈ l.take k, f.check = 0) ∧ Below w.heap.size w wr) (fun i _ => n - (intOf i).toNat)
  case atStart => exact ⟨0, by omega, rfl, by simp, Below.refl _ _⟩
  case round =>
    obtain ⟨k, hk, rfl, hok, hb⟩ := hrel
    have Hok := Lib.hid hok
    have HB := Lib.hid hb
    clear hok hb
    by_cases hlt : k < n
    · obtain ⟨b, off, rfl, hAb, hbs, hcs⟩ := Hr.out.frame (by omega)
      have hkl : k < l.length := by have := Hl.out; omega
      obtain ⟨ak, nk, ck, hrk, hfk, d0, d1, d2, d3, d4⟩ := hcs k hkl
      have e0 := (HB.out.cell (p := ⟨b, off + k * 5, none⟩) hbs).trans d0
      have e1 := (HB.out.cell (p := ⟨b, off + k * 5 + 1, none⟩) hbs).trans d1
      have e2 := (HB.out.cell (p := ⟨b, off + k * 5 + 1 + 1, none⟩) hbs).trans d2
      have e3 := (HB.out.cell (p := ⟨b, off + k * 5 + 1 + 1 + 1, none⟩) hbs).trans d3
      have e4 := (HB.out.cell (p := ⟨b, off + k * 5 + 1 + 1 + 1 + 1, none⟩) hbs).trans d4
      have HC := Lib.hid (isBad_any l[k] ak nk ck wr (Hg.out.go HB.out) (hrk.go HB.out) hfk)
      have Htk := Lib.hid (take_next l k hkl)
      have Hdr := Lib.hid (List.drop_eq_getElem_cons hkl)
      generalize hfk' : l[k] = f at *
      clear d0 d1 d2 d3 d4 hrk hcs hfk hfk'
      obtain ⟨fk, fh, fe, fo, ft⟩ := f
      simp only at *
      by_cases hc : (Fr.mk fk fh fe fo ft).check = 0
      · have hb0 : ((Fr.mk fk fh fe fo ft).check != 0) = false := by simpa using hc
        rw [hb0] at HC
        have Hc := Lib.hid hc
        clear hc hb0
        go_wp2_with fail
        refine HC.out.mono ?_
        rintro e w2 ⟨rfl, u2⟩
        have HB2 := Lib.hid (HB.out.trans (u2.mono HB.out.size))
        clear u2
        go_wp2_with fail
        go_roundw
        case rel => exact ⟨k + 1, by omega, by go_num, fun f hf => by
          rw [Htk.out] at hf
          rcases List.mem_append.1 hf with hf | hf
          · exact Hok.out f hf
          · simp at hf; subst hf; exact Hc.out, HB2.out⟩
        case measure => simp [intOf]; omega
      · have hb0 : ((Fr.mk fk fh fe fo ft).check != 0) = true := by simpa using hc
        rw [hb0] at HC
        have hRk : R = (k : Int) := by
          rw [HR.out]
          unfold badIx
          rw [firstBad_drop l k Hok.out, Hdr.out]
          unfold firstBad
          rw [if_neg hc]
          simp
        subst hRk
        clear hc hb0 HR
        go_wp2_with fail
        refine HC.out.mono ?_
        rintro e w2 ⟨rfl, u2⟩
        have HB2 := Lib.hid (HB.out.trans (u2.mono HB.out.size))
        clear u2
        go_wp2_with fail
        go_ret
        exact ⟨rfl, HB2.out⟩
    · have hkn : k = n := by omega
      have hRk : R = -1 := by
        rw [HR.out]
        unfold badIx
        rw [firstBad_drop l k Hok.out, List.drop_of_length_le (by have := Hl.out; omega)]
        rfl
      subst hRk
      clear HR hkn
      go_wp2_with fail
      go_ret
      exact ⟨rfl, HB.out⟩
theorem badIx_ok (l : List Fr) : (decide (0 ≤ badIx l)) = !frsOk l := by
  rw [← firstBad_ok]
  unfold badIx
  cases firstBad l <;> simp
theorem containsBad_any (l : List Fr) (a : Option Addr) (n c : Nat) (w : World) (hg : Good w) (hr : RdS (· < w.heap.size) w l a n c) :
    Calls Tryd.prog 63 #[.slice a n c, .func (.func 64) #[] #[]] w fun e w' => e = .returned (.bool (!frsOk l)) ∧ Below w.heap.size w w' := by
  have HC := Lib.hid (indexBad_any l a n c w hg hr)
  have hb := badIx_ok l
  generalize badIx l = z at *
  generalize (!frsOk l) = q at *
  clear hg hr
  cases q
  · go_enter Tryd.func63, Tryd.ntmps63
    go_wp2_with fail
    refine HC.out.mono ?_
    rintro e w2 ⟨rfl, u2⟩
    have U2 := Lib.hid u2
    clear u2
    go_wp2_with fail
    go_ret
    exact ⟨rfl, U2.out⟩
  · go_enter Tryd.func63, Tryd.ntmps63
    go_wp2_with fail
    refine HC.out.mono ?_
    rintro e w2 ⟨rfl, u2⟩
    have U2 := Lib.hid u2
    clear u2
    go_wp2_with fail
    go_ret
    exact ⟨rfl, U2.out⟩
theorem frames_any (l : List Fr) (a : Option Addr) (n c : Nat) (w : World) (hg : Good w) (hr : RdS (· < w.heap.size) w l a n c) :
    Calls Tryd.prog 49 #[.slice a n c] w fun e w' => e = .returned (.bool (frsOk l)) ∧ Below w.heap.size w w' := by
  have HC := Lib.hid (containsBad_any l a n c w hg hr)
  generalize frsOk l = q at *
  clear hg hr
  cases q
  · go_enter Tryd.func49, Tryd.ntmps49
    go_wp2_with fail
    refine HC.out.mono ?_
    rintro e w2 ⟨rfl, u2⟩
    have U2 := Lib.hid u2
    clear u2
    go_wp2_with fail
    go_ret
    exact ⟨rfl, U2.out⟩
  · go_enter Tryd.func49, Tryd.ntmps49
    go_wp2_with fail
    refine HC.out.mono ?_
    rintro e w2 ⟨rfl, u2⟩
    have U2 := Lib.hid u2
    clear u2
    go_wp2_with fail
    go_ret
    exact ⟨rfl, U2.out⟩
def Lk.odd1 (l : Lk) : Prop := l.epoch < 0 ∨ 1048576 < l.epoch ∨ l.next < 1 ∨ 1048576 < l.next ∨ l.heard < 0 ∨ 1048576 < l.heard
instance (l : Lk) : Decidable l.odd1 := by unfold Lk.odd1; infer_instance
def Lk.odd2 (l : Lk) : Prop := 8 < l.sent.length ∨ l.next ≤ (l.sent.length : Int) ∨ (0 < l.queue.length ∧ l.sent.length < 8) ∨ frsOk l.sent = false ∨ frsOk l.queue = false
instance (l : Lk) : Decidable l.odd2 := by unfold Lk.odd2; infer_instance
/-- what link.Check answers -/
def Lk.check (l : Lk) : Int := if l.odd1 then 9 else if l.odd2 then 9 else if l.epoch = 0 ∧ 0 < (l.sent.length : Int) + l.heard then 9 else 0
def Lk.fits (l : Lk) : Prop := I64 l.epoch ∧ I64 l.next ∧ I64 l.heard
/-- a link as a value -/
def lkV (l : Lk) (s q : Value) : Value := .agg #[.int .i64 l.epoch, .int .i64 l.next, s, q, .int .i64 l.heard]
theorem lk_odd1 (l : Lk) (a b : Option Addr) (n c m d : Nat) (w : World) (hf : l.fits) (ho : l.odd1) :
    Calls Tryd.prog 26 #[lkV l (.slice a n c) (.slice b m d)] w fun e w' => e = .returned (.int .i64 9) ∧ Below w.heap.size w w' := by
  unfold lkV
  obtain ⟨h1, h2, h3⟩ := hf
  unfold I64 at h1 h2 h3
  unfold Lk.odd1 at ho
  obtain ⟨ep, nx, se, qu, he⟩ := l
  simp only at *
  by_cases k1 : ep < 0
  · clear ho
    go_enter Tryd.func26, Tryd.ntmps26
    go_wp2_with fail
    go_ret
    exact ⟨rfl, by (repeat (first | exact Below.refl _ _ | assumption | (refine Below.drew ?_) | (refine below_drewN ?_ _) | (refine Below.alloc ?_ (by first | (simp; done) | (simp; omega) | omega) _) | (refine Below.setCell ?_ (by first | (simp; done) | (simp; omega) | omega) _) | (refine Below.trans ?_ (Below.mono (by assumption) (by first | (simp; done) | (simp; omega) | omega)))))⟩
  by_cases k2 : 1048576 < ep
  · clear ho
    go_enter Tryd.func26, Tryd.ntmps26
    go_wp2_with fail
    go_ret
    exact ⟨rfl, by (repeat (first | exact Below.refl _ _ | assumption | (refine Below.drew ?_) | (refine below_drewN ?_ _) | (refine Below.alloc ?_ (by first | (simp; done) | (simp; omega) | omega) _) | (refine Below.setCell ?_ (by first | (simp; done) | (simp; omega) | omega) _) | (refine Below.trans ?_ (Below.mono (by assumption) (by first | (simp; done) | (simp; omega) | omega)))))⟩
  by_cases k3 : nx < 1
  · clear ho
    go_enter Tryd.func26, Tryd.ntmps26
    go_wp2_with fail
    go_ret
    exact ⟨rfl, by (repeat (first | exact Below.refl _ _ | assumption | (refine Below.drew ?_) | (refine below_drewN ?_ _) | (refine Below.alloc ?_ (by first | (simp; done) | (simp; omega) | omega) _) | (refine Below.setCell ?_ (by first | (simp; done) | (simp; omega) | omega) _) | (refine Below.trans ?_ (Below.mono (by assumption) (by first | (simp; done) | (simp; omega) | omega)))))⟩
  by_cases k4 : 1048576 < nx
  · clear ho
    go_enter Tryd.func26, Tryd.ntmps26
    go_wp2_with fail
    go_ret
    exact ⟨rfl, by (repeat (first | exact Below.refl _ _ | assumption | (refine Below.drew ?_) | (refine below_drewN ?_ _) | (refine Below.alloc ?_ (by first | (simp; done) | (simp; omega) | omega) _) | (refine Below.setCell ?_ (by first | (simp; done) | (simp; omega) | omega) _) | (refine Below.trans ?_ (Below.mono (by assumption) (by first | (simp; done) | (simp; omega) | omega)))))⟩
  by_cases k5 : he < 0
  · clear ho
    go_enter Tryd.func26, Tryd.ntmps26
    go_wp2_with fail
    go_ret
    exact ⟨rfl, by (repeat (first | exact Below.refl _ _ | assumption | (refine Below.drew ?_) | (refine below_drewN ?_ _) | (refine Below.alloc ?_ (by first | (simp; done) | (simp; omega) | omega) _) | (refine Below.setCell ?_ (by first | (simp; done) | (simp; omega) | omega) _) | (refine Below.trans ?_ (Below.mono (by assumption) (by first | (simp; done) | (simp; omega) | omega)))))⟩
  · have k6 : 1048576 < he := by omega
    clear ho
    go_enter Tryd.func26, Tryd.ntmps26
    go_wp2_with fail
    go_ret
    exact ⟨rfl, by (repeat (first | exact Below.refl _ _ | assumption | (refine Below.drew ?_) | (refine below_drewN ?_ _) | (refine Below.alloc ?_ (by first | (simp; done) | (simp; omega) | omega) _) | (refine Below.setCell ?_ (by first | (simp; done) | (simp; omega) | omega) _) | (refine Below.trans ?_ (Below.mono (by assumption) (by first | (simp; done) | (simp; omega) | omega)))))⟩
set_option maxRecDepth 100000 in
set_option maxHeartbeats 2000000 in
theorem lk_odd2 (l : Lk) (a b : Option Addr) (n c m d : Nat) (w : World) (hg : Good w) (hr : RdS (· < w.heap.size) w l.sent a n c) (hq : RdS (· < w.heap.size) w l.queue b m d) (hf : l.fits) (h1 : ¬ l.odd1) (ho : l.odd2) :
    Calls Tryd.prog 26 #[lkV l (.slice a n c) (.slice b m d)] w fun e w' => e = .returned (.int .i64 9) ∧ Below w.heap.size w w' := by
  unfold lkV
  have HS := Lib.hid (fun W (hW : Below w.heap.size w W) => frames_any l.sent a n c W (hg.go hW) (hr.go hW))
  have HQ := Lib.hid (fun W (hW : Below w.heap.size w W) => frames_any l.queue b m d W (hg.go hW) (hq.go hW))
  have hn := hr.1
  have hm := hq.1
  have hn2 : n ≤ maxLen := Nat.le_trans hr.2.1 hr.2.2.1
  have hm2 : m ≤ maxLen := Nat.le_trans hq.2.1 hq.2.2.1
  unfold maxLen at hn2 hm2
  unfold Lk.odd1 at h1
  unfold Lk.odd2 at ho
  rw [← hn, ← hm] at ho
  obtain ⟨ep, nx, se, qu, he⟩ := l
  simp only at *
  generalize frsOk se = bs at *
  generalize frsOk qu = bq at *
  have k1 : 0 ≤ ep := by omega
  have k2 : ep ≤ 1048576 := by omega
  have k3 : 1 ≤ nx := by omega
  have k4 : nx ≤ 1048576 := by omega
  have k5 : 0 ≤ he := by omega
  have k6 : he ≤ 1048576 := by omega
  clear hf h1 hg hr hq hn hm
  by_cases j1 : 8 < n
  · have d1 : decide ((8 : Int) < (n : Int)) = true := by simp; omega
    clear ho
    go_enter Tryd.func26, Tryd.ntmps26
    go_wp2_with fail
    go_ret
    exact ⟨rfl, by (repeat (first | exact Below.refl _ _ | assumption | (refine Below.drew ?_) | (refine below_drewN ?_ _) | (refine Below.alloc ?_ (by first | (simp; done) | (simp; omega) | omega) _) | (refine Below.setCell ?_ (by first | (simp; done) | (simp; omega) | omega) _) | (refine Below.trans ?_ (Below.mono (by assumption) (by first | (simp; done) | (simp; omega) | omega)))))⟩
  have d1 : decide ((8 : Int) < (n : Int)) = false := by simp; omega
  by_cases j2 : nx ≤ (n : Int)
  · clear ho
    go_enter Tryd.func26, Tryd.ntmps26
    go_wp2_with fail
    go_ret
    exact ⟨rfl, by (repeat (first | exact Below.refl _ _ | assumption | (refine Below.drew ?_) | (refine below_drewN ?_ _) | (refine Below.alloc ?_ (by first | (simp; done) | (simp; omega) | omega) _) | (refine Below.setCell ?_ (by first | (simp; done) | (simp; omega) | omega) _) | (refine Below.trans ?_ (Below.mono (by assumption) (by first | (simp; done) | (simp; omega) | omega)))))⟩
  by_cases j3 : 0 < m
  · have d3 : decide ((0 : Int) < (m : Int)) = true := by simp; omega
    by_cases j4 : n < 8
    · have d4 : decide ((n : Int) < 8) = true := by simp; omega
      clear ho
      go_enter Tryd.func26, Tryd.ntmps26
      go_wp2_with fail
      go_ret
      exact ⟨rfl, by (repeat (first | exact Below.refl _ _ | assumption | (refine Below.drew ?_) | (refine below_drewN ?_ _) | (refine Below.alloc ?_ (by first | (simp; done) | (simp; omega) | omega) _) | (refine Below.setCell ?_ (by first | (simp; done) | (simp; omega) | omega) _) | (refine Below.trans ?_ (Below.mono (by assumption) (by first | (simp; done) | (simp; omega) | omega)))))⟩
    · have d4 : decide ((n : Int) < 8) = false := by simp; omega
      have ho2 : bs = false ∨ bq = false := by
        rcases ho with h | h | h | h | h
        · omega
        · omega
        · omega
        · exact .inl h
        · exact .inr h
      clear ho
      cases bs with
      | false =>
        clear ho2
        go_enter Tryd.func26, Tryd.ntmps26
        go_wp2_with fail
        refine (HS.out _ ((Below.refl _ _).alloc (Nat.le_refl _) _)).mono ?_
        rintro e w2 ⟨rfl, u2⟩
        have U2 := Lib.hid (up ((Below.refl _ _).alloc (Nat.le_refl _) _) u2)
        clear u2 HS HQ
        go_wp2_with fail
        go_ret
        exact ⟨rfl, U2.out⟩
      | true =>
        have hbq : bq = false := by simpa using ho2
        subst hbq
        clear ho2
        go_enter Tryd.func26, Tryd.ntmps26
        go_wp2_with fail
        refine (HS.out _ ((Below.refl _ _).alloc (Nat.le_refl _) _)).mono ?_
        rintro e w2 ⟨rfl, u2⟩
        have x2 := (Blk.new w _).go u2
        have c3 : w2.cell? ⟨w.heap.size, 3, none⟩ = some (.slice b m d) := x2.cell 3
        have U2 := Lib.hid (up ((Below.refl _ _).alloc (Nat.le_refl _) _) u2)
        clear u2 HS x2
        go_wp2_with fail
        refine (HQ.out _ U2.out).mono ?_
        rintro e w3 ⟨rfl, u3⟩
        have U3 := Lib.hid (up U2.out u3)
        clear u3 HQ
        go_wp2_with fail
        go_ret
        exact ⟨rfl, U3.out⟩
  · have hm0 : m = 0 := by omega
    subst hm0
    have ho2 : bs = false ∨ bq = false := by
      rcases ho with h | h | h | h | h
      · omega
      · omega
      · omega
      · exact .inl h
      · exact .inr h
    clear ho j3
    cases bs with
    | false =>
      clear ho2
      go_enter Tryd.func26, Tryd.ntmps26
      go_wp2_with fail
      refine (HS.out _ ((Below.refl _ _).alloc (Nat.le_refl _) _)).mono ?_
      rintro e w2 ⟨rfl, u2⟩
      have U2 := Lib.hid (up ((Below.refl _ _).alloc (Nat.le_refl _) _) u2)
      clear u2 HS HQ
      go_wp2_with fail
      go_ret
      exact ⟨rfl, U2.out⟩
    | true =>
      have hbq : bq = false := by simpa using ho2
      subst hbq
      clear ho2
      go_enter Tryd.func26, Tryd.ntmps26
      go_wp2_with fail
      refine (HS.out _ ((Below.refl _ _).alloc (Nat.le_refl _) _)).mono ?_
      rintro e w2 ⟨rfl, u2⟩
      have x2 := (Blk.new w _).go u2
      have c3 : w2.cell? ⟨w.heap.size, 3, none⟩ = some (.slice b 0 d) := x2.cell 3
      have U2 := Lib.hid (up ((Below.refl _ _).alloc (Nat.le_refl _) _) u2)
      clear u2 HS x2
      go_wp2_with fail
      refine (HQ.out _ U2.out).mono ?_
      rintro e w3 ⟨rfl, u3⟩
      have U3 := Lib.hid (up U2.out u3)
      clear u3 HQ
      go_wp2_with fail
      go_ret
      exact ⟨rfl, U3.out⟩
end Go.Proofs.YtkhacogeffidoaaDoor
