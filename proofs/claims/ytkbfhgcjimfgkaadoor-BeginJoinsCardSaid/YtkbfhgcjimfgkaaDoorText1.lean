/- The walks of text.part, text.Lengths, text.Check. -/
import Derived.Test.YtkbfhgcjimfgkaaDoorLib
set_option linter.unusedVariables false
set_option linter.unusedSimpArgs false
namespace Go.Proofs.YtkbfhgcjimfgkaaDoor
open Go.RowKit

def partOk (p : Part) : Int :=
  if p.kind = 1 ∨ p.kind = 3 then (if p.n < 1 ∨ 4000 < p.n then 2 else if emptyS p.text = false then 4 else 0)
  else if p.kind = 2 then (if checkText p.text ≠ 0 then checkText p.text else if emptyS p.text = true ∨ p.n ≠ 0 then 4 else 0)
  else 3

set_option maxHeartbeats 400000 in
theorem part_any (p : Part) (w : World) (hg : Good w) (h1 : I64 p.kind) (h2 : I64 p.n) (h3 : p.text.size ≤ strMax) :
    Calls Tryd.prog 68 #[.agg #[.int .i64 p.kind, .int .i64 p.n, .string p.text]] w fun e w' => e = .returned (.int .i64 (partOk p)) ∧ Below w.heap.size w w' := by
  obtain ⟨k, n, t⟩ := p
  unfold I64 at h1 h2
  simp only at h1 h2 h3 ⊢
  go_enter Tryd.func68, Tryd.ntmps68
  go_wp2_with (go_at_call 25; refine (checkText_any t _ (hg.below' ?hb) h3).mono ?_; (case hb => (repeat (first | exact Below.refl _ _ | assumption | (refine Below.drew ?_) | (refine below_drewN ?_ _) | (refine Below.alloc ?_ (by first | (simp; done) | (simp; omega) | omega) _) | (refine Below.setCell ?_ (by first | (simp; done) | (simp; omega) | omega) _) | (refine Below.trans ?_ (Below.mono (by assumption) (by first | (simp; done) | (simp; omega) | omega)))))); rintro e w1 ⟨rfl, hb1⟩; obtain ⟨hc1, hf1⟩ := bcell hb1)
  all_goals go_ret
  all_goals refine ⟨ret_int ?_, ?_⟩
  all_goals first
    | (repeat (first | exact Below.refl _ _ | assumption | (refine Below.drew ?_) | (refine below_drewN ?_ _) | (refine Below.alloc ?_ (by first | (simp; done) | (simp; omega) | omega) _) | (refine Below.setCell ?_ (by first | (simp; done) | (simp; omega) | omega) _) | (refine Below.trans ?_ (Below.mono (by assumption) (by first | (simp; done) | (simp; omega) | omega))))); done
    | (simp_all [partOk, emptyS]; done)
    | (simp_all [partOk, emptyS]; omega)

def lenF (p : Part) : Int := if p.kind = 1 ∨ p.kind = 3 then p.n else 0
def lenT (p : Part) : Int := if p.kind = 1 then p.n else if p.kind = 2 then rc p.text else 0
def sumF (l : Op) : Int := (l.map lenF).sum
def sumT (l : Op) : Int := (l.map lenT).sum
theorem take_next {α : Type} (l : List α) (k : Nat) (h : k < l.length) : l.take (k + 1) = l.take k ++ [l[k]] := by
  rw [List.take_succ_eq_append_getElem h]
theorem sumF_next (l : Op) (k : Nat) (h : k < l.length) : sumF (l.take (k + 1)) = sumF (l.take k) + lenF l[k] := by
  unfold sumF; rw [take_next l k h, List.map_append, List.sum_append]; simp
theorem sumT_next (l : Op) (k : Nat) (h : k < l.length) : sumT (l.take (k + 1)) = sumT (l.take k) + lenT l[k] := by
  unfold sumT; rw [take_next l k h, List.map_append, List.sum_append]; simp
/-- parts whose lengths add up -/
def Small (l : Op) : Prop := l.length ≤ 2147483648 ∧ ∀ p ∈ l, 0 ≤ lenF p ∧ lenF p ≤ 2147483648 ∧ 0 ≤ lenT p ∧ lenT p ≤ 2147483648
theorem Small.bound {l : Op} (h : Small l) : ∀ k, k ≤ l.length → 0 ≤ sumF (l.take k) ∧ sumF (l.take k) ≤ k * 2147483648 ∧ 0 ≤ sumT (l.take k) ∧ sumT (l.take k) ≤ k * 2147483648 := by
  intro k
  induction k with
  | zero => intro _; simp [sumF, sumT]
  | succ k ih =>
    intro hk
    have h1 := ih (by omega)
    have h2 := h.2 l[k] (List.getElem_mem (by omega))
    rw [sumF_next l k (by omega), sumT_next l k (by omega)]
    refine ⟨by omega, by push_cast; omega, by omega, by push_cast; omega⟩

set_option maxHeartbeats 1000000 in
theorem lengths_any (A : Nat → Prop) (l : Op) (a : Option Addr) (n c : Nat) (w : World) (hr : RdS A w l a n c) (hs : Small l) :
    Calls Tryd.prog 45 #[.slice a n c] w fun e w' => e = .returned (.tuple #[.int .i64 (sumF l), .int .i64 (sumT l)]) ∧ Below w.heap.size w w' := by
  have hnl : n = l.length := hr.1
  have hn2 : n ≤ 2147483648 := by have := hs.1; omega
  have Hp : Hid (0 < n → ∃ b off, a = some ⟨b, off, none⟩ ∧ A b ∧ b < w.heap.size ∧ ∀ i (h : i < l.length), I64 l[i].kind ∧ I64 l[i].n ∧ l[i].text.size ≤ strMax ∧
      w.cell? ⟨b, off + i * 3, none⟩ = some (.int .i64 l[i].kind) ∧ w.cell? ⟨b, off + i * 3 + 1, none⟩ = some (.int .i64 l[i].n) ∧ w.cell? ⟨b, off + i * 3 + 2, none⟩ = some (.string l[i].text)) := fun h => hr.part h
  clear hr
  have Hl := Lib.hid hnl
  clear hnl
  go_enter Tryd.func45, Tryd.ntmps45
  go_wp2_with fail
  go_loopw [2, 3, 8] (fun f t i wr => ∃ k : Nat, k ≤ n ∧ i = .int .i64 k ∧ f = .int .i64 (sumF (l.take k)) ∧ t = .int .i64 (sumT (l.take k)) ∧ Below w.heap.size w wr) (fun _ _ i _ => n - (intOf i).toNat)
  case atStart => exact ⟨0, by omega, rfl, rfl, rfl, Below.refl _ _⟩
  case round =>
    obtain ⟨k, hk, rfl, rfl, rfl, hb⟩ := hrel
    by_cases hlt : k < n
    · obtain ⟨b, off, rfl, _, hbs, hcs⟩ := Hp.out (by omega)
      have hkl : k < l.length := by have := Hl.out; omega
      obtain ⟨_, hn64, ht, c0, c1, c2⟩ := hcs k hkl
      clear hcs
      have hbd := hs.bound k (by omega)
      have hbd' := hs.2 l[k] (List.getElem_mem hkl)
      have HF := Lib.hid (sumF_next l k hkl)
      have HT := Lib.hid (sumT_next l k hkl)
      have hz := hb.size
      unfold I64 at hn64
      obtain ⟨hcb, hfb⟩ := bcell hb
      generalize l[k] = p at *
      obtain ⟨pk, pn, pt⟩ := p
      simp only at *
      rcases Int.decEq pk 1 with h1 | rfl
      · rcases Int.decEq pk 2 with h2 | rfl
        · rcases Int.decEq pk 3 with h3 | rfl
          · have g1 : (pk == 1) = false := by simp [h1]
            have g2 : (pk == 2) = false := by simp [h2]
            have g3 : (pk == 3) = false := by simp [h3]
            have e1 : lenF ⟨pk, pn, pt⟩ = 0 := by simp [lenF, h1, h3]
            have e2 : lenT ⟨pk, pn, pt⟩ = 0 := by simp [lenT, h1, h2]
            rw [e1] at HF; rw [e2] at HT
            clear e1 e2 h1 h2 h3 hbd'
            go_wp2_with fail
            go_roundw
            case rel => exact ⟨k + 1, by omega, by go_num, by rw [HF.out]; go_num, by rw [HT.out]; go_num, by (repeat (first | exact Below.refl _ _ | assumption | (refine Below.drew ?_) | (refine below_drewN ?_ _) | (refine Below.alloc ?_ (by first | (simp; done) | (simp; omega) | omega) _) | (refine Below.setCell ?_ (by first | (simp; done) | (simp; omega) | omega) _) | (refine Below.trans ?_ (Below.mono (by assumption) (by first | (simp; done) | (simp; omega) | omega)))))⟩
            case measure => simp [intOf]; omega
          · have e1 : lenF ⟨3, pn, pt⟩ = pn := by simp [lenF]
            have e2 : lenT ⟨3, pn, pt⟩ = 0 := by simp [lenT]
            rw [e1] at HF hbd'; rw [e2] at HT hbd'
            clear e1 e2 h1 h2
            go_wp2_with fail
            go_roundw
            case rel => exact ⟨k + 1, by omega, by go_num, by rw [HF.out], by rw [HT.out]; go_num, by (repeat (first | exact Below.refl _ _ | assumption | (refine Below.drew ?_) | (refine below_drewN ?_ _) | (refine Below.alloc ?_ (by first | (simp; done) | (simp; omega) | omega) _) | (refine Below.setCell ?_ (by first | (simp; done) | (simp; omega) | omega) _) | (refine Below.trans ?_ (Below.mono (by assumption) (by first | (simp; done) | (simp; omega) | omega)))))⟩
            case measure => simp [intOf]; omega
        · have e1 : lenF ⟨2, pn, pt⟩ = 0 := by simp [lenF]
          have e2 : lenT ⟨2, pn, pt⟩ = rc pt := by simp [lenT]
          rw [e1] at HF hbd'; rw [e2] at HT hbd'
          clear e1 e2 h1
          go_wp2_with (go_at_call 31; refine (rc_any pt _ ht).mono ?_; rintro e w1 ⟨rfl, hb1⟩; obtain ⟨hc1, hf1⟩ := bcell hb1)
          go_roundw
          case rel => exact ⟨k + 1, by omega, by go_num, by rw [HF.out]; go_num, by rw [HT.out], by (repeat (first | exact Below.refl _ _ | assumption | (refine Below.drew ?_) | (refine below_drewN ?_ _) | (refine Below.alloc ?_ (by first | (simp; done) | (simp; omega) | omega) _) | (refine Below.setCell ?_ (by first | (simp; done) | (simp; omega) | omega) _) | (refine Below.trans ?_ (Below.mono (by assumption) (by first | (simp; done) | (simp; omega) | omega)))))⟩
          case measure => simp [intOf]; omega
      · have e1 : lenF ⟨1, pn, pt⟩ = pn := by simp [lenF]
        have e2 : lenT ⟨1, pn, pt⟩ = pn := by simp [lenT]
        rw [e1] at HF hbd'; rw [e2] at HT hbd'
        clear e1 e2
        go_wp2_with fail
        go_quiet (fail)
        go_wp2_with fail
        go_roundw
        case rel => exact ⟨k + 1, by omega, by go_num, by rw [HF.out], by rw [HT.out], by (repeat (first | exact Below.refl _ _ | assumption | (refine Below.drew ?_) | (refine below_drewN ?_ _) | (refine Below.alloc ?_ (by first | (simp; done) | (simp; omega) | omega) _) | (refine Below.setCell ?_ (by first | (simp; done) | (simp; omega) | omega) _) | (refine Below.trans ?_ (Below.mono (by assumption) (by first | (simp; done) | (simp; omega) | omega)))))⟩
        case measure => simp [intOf]; omega
    · have hkn : k = l.length := by have := Hl.out; omega
      subst hkn
      clear Hp hs
      go_wp2_with fail
      go_ret2
      exact ⟨by simp, hb⟩
end Go.Proofs.YtkbfhgcjimfgkaaDoor
