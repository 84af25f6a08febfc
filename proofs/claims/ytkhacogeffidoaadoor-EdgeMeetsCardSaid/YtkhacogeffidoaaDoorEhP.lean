/- Plain: what an operation of the other side becomes behind all that is pending, and what is pending then; one element of a slice of the call's own is stored anew. No condition. -/
import Derived.Test.YtkhacogeffidoaaDoorTrLaw
import Derived.Test.YtkhacogeffidoaaDoorEdge
import Derived.Test.YtkhacogeffidoaaDoorOwnO
set_option linter.unusedVariables false
set_option linter.unusedSimpArgs false
namespace Go.Proofs.YtkhacogeffidoaaDoor
open Go.RowKit

def stepE (u : Bool) (p o : Op) : Int := if u then trE p o else trE o p
def stepP (u : Bool) (p o : Op) : Op := if u then trA p o else trB o p
def stepO (u : Bool) (p o : Op) : Op := if u then trB p o else trA o p
def foldE (u : Bool) : List Op → Op → Int
  | [], _ => 0
  | p :: ps, o => if stepE u p o ≠ 0 then stepE u p o else foldE u ps (stepO u p o)
def foldL (u : Bool) : List Op → Op → List Op
  | [], _ => []
  | p :: ps, o => stepP u p o :: foldL u ps (stepO u p o)
def foldO (u : Bool) : List Op → Op → Op
  | [], o => o
  | p :: ps, o => foldO u ps (stepO u p o)
theorem foldL_length (u : Bool) : ∀ (l : List Op) (o : Op), (foldL u l o).length = l.length
  | [], _ => rfl
  | p :: ps, o => by simp [foldL, foldL_length u ps]
/-- what edge.Hear refuses ahead of all transforming -/
def ehE0 (s h : Int) (l : List Op) (o : Op) (k : Int) : Int := if edgeCheck s h l ≠ 0 then edgeCheck s h l else if check o ≠ 0 then check o else if k < s - l.length ∨ s < k then 2 else if h = 1048576 then 8 else 0
/-- what stays pending -/
def ehD (s : Int) (l : List Op) (k : Int) : List Op := l.drop (k - (s - l.length)).toNat
def ehE (s h : Int) (l : List Op) (o : Op) (k : Int) (u : Bool) : Int := if ehE0 s h l o k ≠ 0 then ehE0 s h l o k else foldE u (ehD s l k) o
/-- what a call of edge.Hear leaves -/
def EhP (s h : Int) (l : List Op) (o : Op) (k : Int) (u : Bool) (w : World) (e : Ending) (w' : World) : Prop :=
  (ehE s h l o k u = 0 → ∃ a c b d, e = .returned (.tuple #[.agg #[.int .i64 s, .int .i64 (h + 1), .slice a (foldL u (ehD s l k) o).length c], .slice b (foldO u (ehD s l k) o).length d, .int .i64 0]) ∧
    RdS (fun z => w.heap.size ≤ z ∧ z < w'.heap.size) w' (foldL u (ehD s l k) o) a (foldL u (ehD s l k) o).length c ∧ RdS (fun z => w.heap.size ≤ z ∧ z < w'.heap.size) w' (foldO u (ehD s l k) o) b (foldO u (ehD s l k) o).length d ∧ Below w.heap.size w w') ∧
  (ehE s h l o k u ≠ 0 → e = .returned (.tuple #[.agg #[.int .i64 0, .int .i64 0, .slice none 0 0], .slice none 0 0, .int .i64 (ehE s h l o k u)]) ∧ Below w.heap.size w w')
theorem ehE0_zero {s h : Int} {l : List Op} {o : Op} {k : Int} (H : ehE0 s h l o k = 0) : edgeCheck s h l = 0 ∧ check o = 0 ∧ s - l.length ≤ k ∧ k ≤ s ∧ h ≠ 1048576 := by
  unfold ehE0 at H
  by_cases h1 : edgeCheck s h l = 0
  · rw [if_neg (by simpa using h1)] at H
    by_cases h2 : check o = 0
    · rw [if_neg (by simpa using h2)] at H
      by_cases h3 : k < s - l.length ∨ s < k
      · rw [if_pos h3] at H; exact absurd H (by decide)
      · rw [if_neg h3] at H
        by_cases h4 : h = 1048576
        · rw [if_pos h4] at H; exact absurd H (by decide)
        · exact ⟨h1, h2, by omega, by omega, h4⟩
    · rw [if_pos h2] at H; exact absurd H h2
  · rw [if_pos h1] at H; exact absurd H h1
/-- one element stored anew -/
theorem OwnO.set {X : Nat → Prop} {base : Nat} {g off n c : Nat} {l : List Op} {w : World} (h : OwnO X base (.slice (some ⟨g, off, none⟩) n c) l w) (i : Nat) (hi : i < l.length) (p : Op) (a' : Option Addr) (n' c' : Nat) (hp : RdS (fun b => b < w.heap.size ∧ ¬ X b ∧ b ≠ g) w p a' n' c') :
    OwnO X base (.slice (some ⟨g, off, none⟩) n c) (l.set i p) (w.setCell ⟨g, off + i, none⟩ (.slice a' n' c')) := by
  have hT : Touch (fun z => z = g) w (w.setCell ⟨g, off + i, none⟩ (.slice a' n' c')) := Touch.setCell (S := fun z => z = g) (Touch.refl _ _) (.inl rfl) _
  rcases h.row with ⟨a, hv, hl, h2⟩ | ⟨g', off', cap, hv, h1, h2, h3, h4, h5, h6⟩
  · subst hl
    simp at hi
  · injection hv with e1 e2 e3
    injection e1 with e1
    injection e1 with e4 e5
    subst e2 e3 e4 e5
    refine ⟨.inr ⟨g, off, c, by rw [List.length_set], h1, by simpa using h2, by rw [List.length_set]; exact h3, h4, fun j hj => ?_, fun j x hx => ?_⟩⟩
    · obtain ⟨h7, h8⟩ := h5 j hj
      have h9 : g < w.heap.size := h2
      constructor
      · by_cases hji : j = i
        · subst hji
          have : (w.cell? ⟨g, off + j, none⟩).isSome = true := h7
          obtain ⟨v0, hv0⟩ := Option.isSome_iff_exists.1 this
          rw [World.cell?_setCell_same _ _ _ hv0]; rfl
        · rw [World.cell?_setCell_other _ _ _ _ (by intro e; injection e with e1 e2; omega)]
          exact h7
      · rw [World.frozen?_setCell]
        exact h8
    · by_cases hji : j = i
      · subst hji
        rw [List.getElem?_set_self hi] at hx
        injection hx with hx
        subst hx
        refine ⟨[.slice a' n' c'], ⟨a', n', c', rfl, hp.mono fun b hb => ⟨⟨by simpa using hb.1, hb.2⟩, hT.block b hb.1 hb.2.2⟩⟩, fun q u hu => ?_⟩
        have hq : q = 0 := by
          cases q with
          | zero => rfl
          | succ q => simp at hu
        subst hq
        simp at hu
        subst hu
        have e6 : off + j * Rep.n Op + 0 = off + j := by show off + j * 1 + 0 = off + j; omega
        rw [e6]
        have hj2 : j < c * Rep.n Op := by show j < c * 1; omega
        obtain ⟨v0, hv0⟩ := Option.isSome_iff_exists.1 (h5 j hj2).1
        exact World.cell?_setCell_same _ _ _ hv0
      · rw [List.getElem?_set_ne (by omega)] at hx
        obtain ⟨ys, r1, r2⟩ := h6 j x hx
        refine ⟨ys, Rep.mono (fun b hb => ⟨⟨by simpa using hb.1, hb.2⟩, hT.block b hb.1 hb.2.2⟩) r1, fun q u hu => ?_⟩
        have hq : q = 0 := by
          have := Rep.len r1
          have h7 := (List.getElem?_eq_some_iff.1 hu).1
          rw [this] at h7
          have : Rep.n Op = 1 := rfl
          omega
        subst hq
        have e6 : off + j * Rep.n Op + 0 = off + j := by show off + j * 1 + 0 = off + j; omega
        have h7 := r2 0 u hu
        rw [e6] at h7 ⊢
        rw [World.cell?_setCell_other _ _ _ _ (by intro e; injection e with e1 e2; omega)]
        exact h7
end Go.Proofs.YtkhacogeffidoaaDoor
