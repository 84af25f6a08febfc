/- Plain: who keeps all changes nothing; what stands in its one form builds itself. No program in sight. -/
import Derived.Test.YtkhacogeffidoaaDoorXf
set_option linter.unusedVariables false
set_option linter.unusedSimpArgs false
namespace Go.Proofs.YtkhacogeffidoaaDoor
open Go.RowKit

theorem addP_self {p : P} {r : List P} (h : Can (p :: r)) : addP r p = p :: r := by
  cases r with
  | nil =>
    have hk : p.ok := h
    cases p with
    | k n => simp only [P.ok] at hk; simp only [addP]; rw [if_neg (by omega)]
    | d n => simp only [P.ok] at hk; simp only [addP]; rw [if_neg (by omega)]
    | i t => simp only [P.ok] at hk; simp only [addP]; rw [if_neg hk.1]
  | cons q r =>
    obtain ⟨hk, hc, -⟩ := h
    cases p with
    | k n => simp only [P.ok] at hk; cases q <;> first | (simp [P.clash] at hc; done) | (simp only [addP]; rw [if_neg (by omega)])
    | d n => simp only [P.ok] at hk; cases q <;> first | (simp [P.clash] at hc; done) | (simp only [addP]; rw [if_neg (by omega)])
    | i t => simp only [P.ok] at hk; cases q <;> first | (simp [P.clash] at hc; done) | (simp only [addP]; rw [if_neg hk.1])
theorem Can.suffix {a b : List P} (h : Can (a ++ b)) : Can b := by
  induction a with
  | nil => exact h
  | cons p a ih => exact ih h.tail
theorem foldl_self (l : List P) : ∀ r : List P, Can (l.reverse ++ r) → l.foldl addP r = l.reverse ++ r := by
  induction l with
  | nil => intro r _; rfl
  | cons p l ih =>
    intro r h
    rw [List.reverse_cons, List.append_assoc] at h
    have hc : Can (p :: r) := Can.suffix h
    rw [List.foldl_cons, addP_self hc, ih (p :: r) h, List.reverse_cons, List.append_assoc]
    rfl
theorem build_self {l : List P} (h : Can l.reverse) : build l = l.reverse := by
  have := foldl_self l [] (by simpa using h)
  simpa [build] using this
theorem opOfP_self {o : Op} (h : check o = 0) : opOfP (opP o) = o := by
  have hI := opIs h
  unfold opOfP
  rw [build_self hI.can, List.reverse_reverse]
  exact hI.eq.symm
/-- n runes are kept -/
def kp (n : Nat) : List P := if n = 0 then [] else [.k n]
theorem kp_pos {n : Nat} (h : n ≠ 0) : kp n = [.k n] := if_neg h
theorem kp_zero : kp 0 = [] := rfl
theorem pass_kp {n m : Nat} (h : m ≤ n) (h1 : 1 ≤ m) : pass (kp n) m = kp (n - m) := by
  rw [kp_pos (by omega)]
  by_cases hz : m = n
  · rw [pass_eq (p := .k n) hz, hz, Nat.sub_self, kp_zero]
  · rw [pass_ne (p := .k n) hz, kp_pos (by omega)]; rfl
theorem addP_kp (m n : Nat) : addP (kp m) (.k n) = kp (m + n) := by
  by_cases h0 : m = 0
  · subst h0
    rw [Nat.zero_add, kp_zero]
    by_cases h1 : n = 0
    · subst h1; rfl
    · rw [kp_pos h1]; simp only [addP]; rw [if_neg h1]
  · rw [kp_pos h0, kp_pos (by omega)]
    simp only [addP]
    by_cases h1 : n = 0
    · rw [if_pos h1, h1]; rfl
    · rw [if_neg h1]
/-- what is kept behind parts -/
def keeps : List P → List P
  | [] => []
  | .i t :: r => .k t.length :: keeps r
  | .k m :: r => .k m :: keeps r
  | .d _ :: r => keeps r
theorem keeps_fold (l : List P) : ∀ m, (keeps l).foldl addP (kp m) = kp (m + TS l) := by
  induction l with
  | nil => intro m; rfl
  | cons p l ih =>
    intro m
    cases p with
    | k n => simp only [keeps, List.foldl_cons, addP_kp, ih, TS, P.T]; congr 1; omega
    | i t => simp only [keeps, List.foldl_cons, addP_kp, ih, TS, P.T]; congr 1; omega
    | d n => simp only [keeps, ih, TS, P.T]; congr 1; omega
theorem keeps_build (l : List P) : build (keeps l) = kp (TS l) := by
  have := keeps_fold l 0
  rw [Nat.zero_add] at this
  exact this
theorem xf_keep (l : List P) : ∀ f, AllOk l → ZS l + FS l ≤ f → xf f l (kp (FS l)) = (l, keeps l) ∧ xf f (kp (FS l)) l = (keeps l, l) := by
  induction l with
  | nil => intro f _ _; simp [FS, kp_zero, keeps]; cases f <;> simp only [xf]
  | cons p l ih =>
    intro f ha hz
    obtain ⟨h1, h2⟩ := allOk_cons.1 ha
    have hp := P.ok_z h1
    obtain ⟨f, rfl⟩ : ∃ g, f = g + 1 := ⟨f - 1, by simp only [ZS] at hz; omega⟩
    have hi := ih f h2 (by simp only [ZS, FS] at hz; omega)
    cases p with
    | i t =>
      have e : FS (.i t :: l) = FS l := by simp [FS, P.F]
      rw [e, xf_i1, hi.1, xf_i2 _ _ _ _ (by intro u r h; unfold kp at h; split at h <;> cases h), hi.2]
      exact ⟨rfl, rfl⟩
    | k n =>
      simp only [P.z] at hp
      have e : FS (.k n :: l) = n + FS l := by simp [FS, P.F]
      have hk : kp (n + FS l) = [.k (n + FS l)] := kp_pos (by omega)
      have hm : min n (n + FS l) = n := by omega
      have hm2 : min (n + FS l) n = n := by omega
      have hps : pass [.k (n + FS l)] n = kp (FS l) := by rw [← hk, pass_kp (by omega) hp]; congr 1; omega
      rw [e, hk, xf_2 _ _ _ _ _ rfl rfl, xf_2 _ _ _ _ _ rfl rfl]
      simp only [P.z, hm, hm2, xe1, xe2, hps, pass_eq (p := .k n) (l := l) (n := n) rfl, hi.1, hi.2]
      exact ⟨rfl, rfl⟩
    | d n =>
      simp only [P.z] at hp
      have e : FS (.d n :: l) = n + FS l := by simp [FS, P.F]
      have hk : kp (n + FS l) = [.k (n + FS l)] := kp_pos (by omega)
      have hm : min n (n + FS l) = n := by omega
      have hm2 : min (n + FS l) n = n := by omega
      have hps : pass [.k (n + FS l)] n = kp (FS l) := by rw [← hk, pass_kp (by omega) hp]; congr 1; omega
      rw [e, hk, xf_2 _ _ _ _ _ rfl rfl, xf_2 _ _ _ _ _ rfl rfl]
      simp only [P.z, hm, hm2, xe1, xe2, hps, pass_eq (p := .d n) (l := l) (n := n) rfl, hi.1, hi.2]
      exact ⟨rfl, rfl⟩
theorem mkOp_nil (n : Nat) : mkOp (n : Int) [] = (kp n).map P.part := by
  unfold mkOp opOf opRun
  simp only [List.take_nil, List.foldl_nil]
  have h := addR_part (.k n) (fun l h => by cases h) [] (fun q h => by cases h)
  have h2 := addP_kp 0 n
  rw [Nat.zero_add, kp_zero] at h2
  rw [h2] at h
  have h3 : addR [] ⟨1, (n : Int), noText⟩ = (kp n).map P.part := h
  rw [h3]
  unfold kp
  split <;> rfl
theorem kp_can (n : Nat) : Can (kp n) := by
  unfold kp
  split
  · trivial
  · show P.ok (.k n); simp only [P.ok]; omega
end Go.Proofs.YtkhacogeffidoaaDoor
