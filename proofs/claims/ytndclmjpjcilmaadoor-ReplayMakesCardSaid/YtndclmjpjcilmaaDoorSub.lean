/- A piece of a slice reads as a piece of the list; records of raw things. No condition. -/
import Derived.Test.YtndclmjpjcilmaaDoorReplay
import Derived.Test.YtndclmjpjcilmaaDoorOwn
namespace Go.Proofs.YtndclmjpjcilmaaDoor
open Go.RowKit

theorem RdS.sub {α : Type} [Rep α] {A : Nat → Prop} {w : World} {l : List α} {b off n c c' : Nat} (hr : RdS A w l (some ⟨b, off, none⟩) n c) (k m : Nat) (hm : k + m ≤ n) (hc : m ≤ c') (hc2 : c' ≤ maxLen) :
    RdS A w ((l.drop k).take m) (some ⟨b, off + k * Rep.n α, none⟩) m c' := by
  have hn := hr.1
  refine ⟨by rw [List.length_take, List.length_drop]; omega, hc, hc2, (fun h => by cases h), fun h0 => ?_⟩
  obtain ⟨b', off', e, hA, hb, he⟩ := hr.2.2.2.2 (by omega)
  injection e with e
  injection e with e1 e2 e3
  subst e1 e2
  refine ⟨b, off + k * Rep.n α, rfl, hA, hb, fun i x hi => ?_⟩
  have him : i < m := by
    have := (List.getElem?_eq_some_iff.1 hi).1
    rw [List.length_take] at this; omega
  rw [List.getElem?_take_of_lt him, List.getElem?_drop] at hi
  obtain ⟨xs, h1, h2⟩ := he (k + i) x hi
  refine ⟨xs, h1, fun j u hu => ?_⟩
  have h3 := h2 j u hu
  rw [Nat.add_mul, ← Nat.add_assoc] at h3
  exact h3
theorem rep_snoc (r : Rec) : ∀ (l : List Rec) (s s' : Str) (e e' : Int), rep l s e = (s', e', 0) → rep (l ++ [r]) s e = rep [r] s' e' := by
  intro l
  induction l with
  | nil =>
    intro s s' e e' h
    simp only [rep, Prod.mk.injEq] at h
    obtain ⟨rfl, rfl, _⟩ := h
    rfl
  | cons x l ih =>
    intro s s' e e' h
    by_cases h1 : checkRecord x = 0
    · by_cases h2 : 0 < x.epoch
      · rw [rep_epoch h1 h2] at h
        rw [List.cons_append, rep_epoch h1 h2, ih _ _ _ _ h]
      · by_cases h3 : applyE s x.op = 0
        · rw [rep_op h1 h2 h3] at h
          rw [List.cons_append, rep_op h1 h2 h3, ih _ _ _ _ h]
        · rw [rep_miss h1 h2 h3] at h
          simp only [Prod.mk.injEq] at h
          exact absurd h.2.2 h3
    · rw [rep_bad h1] at h
      simp only [Prod.mk.injEq] at h
      exact absurd h.2.2 h1
theorem check_nil' : check [] = 0 := by simp [check, checkFrom, sumF, sumT]
theorem rec_epoch {x : Int} (h0 : 1 ≤ x) (h1 : x ≤ 1048576) : checkRecord ⟨x, []⟩ = 0 := by
  unfold checkRecord num
  simp [check_nil']; omega
theorem rec_op {o : Op} (h : check o = 0) : checkRecord ⟨0, o⟩ = 0 := by
  unfold checkRecord num
  simp [h]
theorem rep_add_epoch {l : List Rec} {s : Str} {e x : Int} (h : rep l noText 0 = (s, e, 0)) (h0 : 1 ≤ x) (h1 : x ≤ 1048576) : rep (l ++ [⟨x, []⟩]) noText 0 = (s, max e x, 0) := by
  rw [rep_snoc _ _ _ _ _ _ h, rep_epoch (rec_epoch h0 h1) (by show 0 < x; omega)]; rfl
theorem rep_add_op {l : List Rec} {s : Str} {e : Int} {o : Op} (h : rep l noText 0 = (s, e, 0)) (h0 : checkText s = 0) (h1 : check o = 0) (h2 : sumF o = rc s) : rep (l ++ [⟨0, o⟩]) noText 0 = (applyS s o, e, 0) := by
  rw [rep_snoc _ _ _ _ _ _ h, rep_op (rec_op h1) (by simp) (apply_good h0 h1 h2).1]; rfl
theorem rep_add_miss {l : List Rec} {s : Str} {e : Int} {o : Op} (h : rep l noText 0 = (s, e, 0)) (h0 : checkText s = 0) (h1 : check o = 0) (h2 : sumF o ≠ rc s) : rep (l ++ [⟨0, o⟩]) noText 0 = (noText, 0, 10) := by
  have h3 := apply_miss h0 h1 h2
  rw [rep_snoc _ _ _ _ _ _ h, rep_miss (rec_op h1) (by simp) (by show applyE s o ≠ 0; rw [h3]; omega)]
  show (noText, (0 : Int), applyE s o) = _
  rw [h3]
/-- Op's call: what it makes lies in memory of its own -/
theorem mkOp_new (n : Int) (l : List Raw) (a : Option Addr) (m c : Nat) (w : World) (hr : RdS (· < w.heap.size) w l a m c) (hn : 0 ≤ n) (hn' : n ≤ 1000000000) :
    Calls Tryd.prog 19 #[.int .i64 n, .slice a m c] w fun e w' => ∃ a' c', e = .returned (.slice a' (mkOp n l).length c') ∧ RdS (fun b => w.heap.size ≤ b ∧ b < w'.heap.size) w' (mkOp n l) a' (mkOp n l).length c' ∧ Below w.heap.size w w' := by
  refine (mkOp_any (· < w.heap.size) n l a m c w (fun b h => h) hr hn hn').mono ?_
  rintro e w' ⟨a', c', rfl, hr', hb⟩
  refine ⟨a', c', rfl, ?_, hb⟩
  obtain ⟨h1, h2, h3, h4, h6⟩ := hr'
  refine ⟨h1, h2, h3, h4, fun hn => ?_⟩
  obtain ⟨b, off, e, hA, hlt, h⟩ := h6 hn
  exact ⟨b, off, e, ⟨hA, hlt⟩, hlt, fun i x hx => h i x hx⟩
theorem infoRec : (Tryd.prog.info? 64).map (fun i => (i.zero, i.size, i.bytes)) = some (some (.agg #[.int .i64 0, .slice none 0 0]), 2, 32) := by kernel_rfl
end Go.Proofs.YtndclmjpjcilmaaDoor
