/- Plain: what text.Apply makes. No program in sight. -/
import Derived.Test.YtkbfhgcjimfgkaaDoorApply
set_option linter.unusedVariables false
set_option linter.unusedSimpArgs false
namespace Go.Proofs.YtkbfhgcjimfgkaaDoor
open Go.RowKit

theorem RdS.go {α : Type} [Rep α] {w w' : World} {l : List α} {a : Option Addr} {n c : Nat} (hr : RdS (· < w.heap.size) w l a n c) (hb : Below w.heap.size w w') : RdS (· < w'.heap.size) w' l a n c :=
  hr.mono fun b h => ⟨Nat.lt_of_lt_of_le h hb.size, hb.block b h⟩
/-- at its own world all blocks that are reached are there -/
theorem RdS.wide {α : Type} [Rep α] {A : Nat → Prop} {w : World} {l : List α} {a : Option Addr} {n c : Nat} (hr : RdS A w l a n c) (hA : ∀ b, A b → b < w.heap.size) : RdS (· < w.heap.size) w l a n c :=
  hr.mono fun b h => ⟨hA b h, rfl⟩
theorem valid_of {s : Str} (h : checkText s = 0) : valid s = true ∧ rc s ≤ 4000 := by
  unfold checkText at h
  cases hv : valid s with
  | false => rw [hv] at h; simp at h
  | true =>
    rw [hv] at h
    by_cases h4 : 4000 < rc s
    · simp [h4] at h
    · exact ⟨rfl, by omega⟩
theorem checkText_of {s : Str} (hv : valid s = true) (h4 : rc s ≤ 4000) : checkText s = 0 := by
  unfold checkText; rw [if_neg (by simp [hv]), if_neg (by omega)]
theorem apply_good {s : Str} {o : Op} (h0 : checkText s = 0) (h1 : check o = 0) (h2 : sumF o = rc s) :
    applyE s o = 0 ∧ applyS s o = Uni.enc (app (rns s) (opP o)) ∧ (∀ r ∈ app (rns s) (opP o), Uni.vr r) ∧ rc (applyS s o) = sumT o ∧ checkText (applyS s o) = 0 ∧ (applyS s o).size ≤ 16000 := by
  have hE : applyE s o = 0 := by unfold applyE; rw [if_neg (by simpa using h0), if_neg (by simpa using h1), if_neg (by simpa using h2)]
  have hO := opIs h1
  have hS : applyS s o = Uni.enc (app (rns s) (opP o)) := by unfold applyS; rw [if_pos hE]
  have hv := rns_vr (valid_of h0).1
  have hvr := app_vr (opP o) (rns s) hv hO.ok
  have hl : (app (rns s) (opP o)).length = TS (opP o) := app_len _ _ (by have := hO.f; have := rc_rns s; omega)
  have hrc : rc (applyS s o) = sumT o := by rw [hS, rc_enc _ hvr, hl, hO.t]
  have htl := hO.tl
  have ht := hO.t
  refine ⟨hE, hS, hvr, hrc, checkText_of (by rw [hS]; exact valid_enc _ hvr) (by rw [hrc]; omega), ?_⟩
  have := enc_size _ hvr
  rw [hS]; omega
theorem apply_miss {s : Str} {o : Op} (h0 : checkText s = 0) (h1 : check o = 0) (h2 : sumF o ≠ rc s) : applyE s o = 10 := by
  unfold applyE; rw [if_neg (by simpa using h0), if_neg (by simpa using h1), if_pos h2]
theorem rns_apply {s : Str} {o : Op} (h0 : checkText s = 0) (h1 : check o = 0) (h2 : sumF o = rc s) : rns (applyS s o) = app (rns s) (opP o) := by
  obtain ⟨_, hS, hvr, _⟩ := apply_good h0 h1 h2
  rw [hS, rns_enc hvr]
/-- the text of raw things -/
theorem letters_ok (s : Str) (m : Nat) (hm : m ≤ 4000) : checkText (letters s m) = 0 ∧ 0 ≤ rc (letters s m) ∧ rc (letters s m) ≤ m ∧ (letters s m).size ≤ m * 4 := by
  have h1 := letters_rc s m
  exact ⟨checkText_of (letters_valid s m) (by omega), by omega, by omega, letters_size s m⟩
/-- what Op makes of raw things -/
theorem mkOp_ok (n : Int) (l : List Raw) (h0 : 0 ≤ n) (h1 : n ≤ 3976) : check (mkOp n l) = 0 ∧ sumF (mkOp n l) = n ∧ 0 ≤ sumT (mkOp n l) ∧ sumT (mkOp n l) ≤ n + 24 := opOf_good texts_letters n h0 h1 l
/-- Op's call, as the walks of laws take it -/
theorem mkOp_go (n : Int) (l : List Raw) (a : Option Addr) (m c : Nat) (w : World) (hr : RdS (· < w.heap.size) w l a m c) (hn : 0 ≤ n) (hn' : n ≤ 1000000000) :
    Calls Tryd.prog 19 #[.int .i64 n, .slice a m c] w fun e w' => ∃ a' c', e = .returned (.slice a' (mkOp n l).length c') ∧ RdS (· < w'.heap.size) w' (mkOp n l) a' (mkOp n l).length c' ∧ Below w.heap.size w w' := by
  refine (mkOp_any (· < w.heap.size) n l a m c w (fun b h => h) hr hn hn').mono ?_
  rintro e w' ⟨a', c', rfl, hr', hb⟩
  refine ⟨a', c', rfl, ?_, hb⟩
  obtain ⟨h1, h2, h3, h4, h6⟩ := hr'
  refine ⟨h1, h2, h3, h4, fun hn => ?_⟩
  obtain ⟨b, off, e, _, hlt, h⟩ := h6 hn
  exact ⟨b, off, e, hlt, hlt, fun i x hx => h i x hx⟩
theorem check_go (o : Op) (a : Option Addr) (n c : Nat) (w : World) (hg : Good w) (hr : RdS (· < w.heap.size) w o a n c) :
    Calls Tryd.prog 44 #[.slice a n c] w fun e w' => e = .returned (.int .i64 (check o)) ∧ Below w.heap.size w w' := check_any _ o a n c w hg (fun _ h => h) hr
theorem lengths_go (o : Op) (a : Option Addr) (n c : Nat) (w : World) (hr : RdS (· < w.heap.size) w o a n c) (h : check o = 0) :
    Calls Tryd.prog 45 #[.slice a n c] w fun e w' => e = .returned (.tuple #[.int .i64 (sumF o), .int .i64 (sumT o)]) ∧ Below w.heap.size w w' := lengths_any _ o a n c w hr (check_small h)
end Go.Proofs.YtkbfhgcjimfgkaaDoor
