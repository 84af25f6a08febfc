/- A piece of a slice reads as a piece of the list; what Op makes is new. No condition. -/
import Derived.Test.YtkhacogeffidoaaDoorOwn
set_option linter.unusedVariables false
set_option linter.unusedSimpArgs false
namespace Go.Proofs.YtkhacogeffidoaaDoor
open Go.RowKit

theorem RdS.sub {α : Type} [Rep α] {A : Nat → Prop} {w : World} {l : List α} {b off n c c' : Nat} (hr : RdS A w l (some ⟨b, off, none⟩) n c) (k m : Nat) (hm : k + m ≤ n) (hc : m ≤ c') (hc2 : c' ≤ maxLen) :
    RdS A w ((l.drop k).take m) (some ⟨b, off + k * Rep.n α, none⟩) m c' := by
  have hn := hr.1
  refine ⟨by rw [List.length_take, List.length_drop]; omega, hc, hc2, (fun h => by cases h), fun h0 => ?_⟩
  obtain ⟨b', off', e, hA, hb, he⟩ := hr.2.2.2.2 (by omega)
  injection e with e
  injection e with e1 e2 e3
  subst e1 e2
  refine ⟨b, off + k * Rep.n α, rfl, hA, hb, fun i x hi => ?_⟩
  have him : i < m := by
    have := (List.getElem?_eq_some_iff.1 hi).1
    rw [List.length_take] at this; omega
  rw [List.getElem?_take_of_lt him, List.getElem?_drop] at hi
  obtain ⟨xs, h1, h2⟩ := he (k + i) x hi
  refine ⟨xs, h1, fun j u hu => ?_⟩
  have h3 := h2 j u hu
  rw [Nat.add_mul, ← Nat.add_assoc] at h3
  exact h3
/-- Op's call: what it makes lies in memory of its own -/
theorem mkOp_new (n : Int) (l : List Raw) (a : Option Addr) (m c : Nat) (w : World) (hr : RdS (· < w.heap.size) w l a m c) (hn : 0 ≤ n) (hn' : n ≤ 1000000000) :
    Calls Tryd.prog 29 #[.int .i64 n, .slice a m c] w fun e w' => ∃ a' c', e = .returned (.slice a' (mkOp n l).length c') ∧ RdS (fun b => w.heap.size ≤ b ∧ b < w'.heap.size) w' (mkOp n l) a' (mkOp n l).length c' ∧ Below w.heap.size w w' := by
  refine (mkOp_any (· < w.heap.size) n l a m c w (fun b h => h) hr hn hn').mono ?_
  rintro e w' ⟨a', c', rfl, hr', hb⟩
  refine ⟨a', c', rfl, ?_, hb⟩
  obtain ⟨h1, h2, h3, h4, h6⟩ := hr'
  refine ⟨h1, h2, h3, h4, fun hn => ?_⟩
  obtain ⟨b, off, e, hA, hlt, h⟩ := h6 hn
  exact ⟨b, off, e, ⟨hA, hlt⟩, hlt, fun i x hx => h i x hx⟩
end Go.Proofs.YtkhacogeffidoaaDoor
