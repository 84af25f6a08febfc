/- The walk of text.Check. -/
import Derived.Test.YtkbfhgcjimfgkaaDoorText1
set_option linter.unusedVariables false
set_option linter.unusedSimpArgs false
namespace Go.Proofs.YtkbfhgcjimfgkaaDoor
open Go.RowKit

def clash (q r : Int) : Bool := decide (q = r ∨ q = 3 ∧ r = 2)
def checkFrom : Option Int → Op → Int
  | _, [] => 0
  | q, p :: r => if partOk p ≠ 0 then partOk p else if (match q with | some q => clash q p.kind | none => false) = true then 4 else checkFrom (some p.kind) r
def check (l : Op) : Int := if 8001 < l.length then 1 else if checkFrom none l ≠ 0 then checkFrom none l else if 4000 < sumF l ∨ 4000 < sumT l then 1 else 0

theorem partOk_small {p : Part} (h : partOk p = 0) : 0 ≤ lenF p ∧ lenF p ≤ 4000 ∧ 0 ≤ lenT p ∧ lenT p ≤ 4000 := by
  obtain ⟨k, n, t⟩ := p
  have hr0 : 0 ≤ rc t := by unfold rc; omega
  unfold partOk at h
  unfold lenF lenT
  simp only at h ⊢
  by_cases h1 : k = 1 ∨ k = 3
  · rw [if_pos h1] at h
    by_cases h2 : n < 1 ∨ 4000 < n
    · rw [if_pos h2] at h; omega
    · rcases h1 with h1 | h1 <;> simp [h1] <;> omega
  · rw [if_neg h1] at h
    by_cases h2 : k = 2
    · rw [if_pos h2] at h
      subst h2
      have h3 : checkText t = 0 := by
        by_cases h4 : checkText t = 0
        · exact h4
        · rw [if_pos h4] at h; exact h
      unfold checkText at h3
      have h5 : rc t ≤ 4000 := by
        by_cases h5 : valid t = false
        · rw [if_pos h5] at h3; omega
        · rw [if_neg h5] at h3
          by_cases h6 : 4000 < rc t
          · rw [if_pos h6] at h3; omega
          · omega
      simp
      omega
    · rw [if_neg h2] at h; omega
theorem checkFrom_drop (q : Option Int) (p : Part) (l : Op) (h1 : partOk p = 0) (h2 : (match q with | some q => clash q p.kind | none => false) = false) : checkFrom q (p :: l) = checkFrom (some p.kind) l := by
  cases q <;> simp only [checkFrom, h1, h2] <;> simp_all
theorem checkFrom_clash (q : Option Int) (p : Part) (l : Op) (h1 : partOk p = 0) (h2 : (match q with | some q => clash q p.kind | none => false) = true) : checkFrom q (p :: l) = 4 := by
  cases q <;> simp only [checkFrom, h1, h2] <;> simp_all
/-- the kind ahead of place k -/
def ahead (l : Op) : Nat → Option Int
  | 0 => none
  | k + 1 => (l[k]?).map (·.kind)

set_option maxHeartbeats 1000000 in
theorem check_any (A : Nat → Prop) (l : Op) (a : Option Addr) (n c : Nat) (w : World) (hg : Good w) (hA : ∀ b, A b → b < w.heap.size) (hr : RdS A w l a n c) :
    Calls Tryd.prog 44 #[.slice a n c] w fun e w' => e = .returned (.int .i64 (check l)) ∧ Below w.heap.size w w' := by
  have hnl : n = l.length := hr.1
  have hnm : n ≤ maxLen := by have h1 := hr.2.1; have h2 := hr.2.2.1; omega
  unfold maxLen at hnm
  have Hl := Lib.hid hnl
  by_cases h8 : 8001 < n
  · have hfin : check l = 1 := by unfold check; rw [if_pos (by omega)]
    rw [hfin]
    clear hfin hnl hr
    go_enter Tryd.func44, Tryd.ntmps44
    go_wp2_with fail
    go_ret
    exact ⟨rfl, Below.refl _ _⟩
  · have Hr := Lib.hid hr
    have HF : Hid (check l = if checkFrom none l ≠ 0 then checkFrom none l else if 4000 < sumF l ∨ 4000 < sumT l then 1 else 0) := by unfold Hid check; rw [if_neg (by omega)]
    clear hr hnl
    have h8' : n ≤ 8001 := by omega
    clear h8
    go_enter Tryd.func44, Tryd.ntmps44
    go_wp2_with fail
    go_loopw [13] (fun i wr => ∃ k : Nat, k ≤ n ∧ i = .int .i64 k ∧ checkFrom none l = checkFrom (ahead l k) (l.drop k) ∧ (∀ p ∈ l.take k, partOk p = 0) ∧ Below w.heap.size w wr) (fun i _ => n - (intOf i).toNat)
    case atStart => exact ⟨0, by omega, rfl, rfl, by simp, Below.refl _ _⟩
    case round =>
      obtain ⟨k, hk, rfl, hcf, hall, hb⟩ := hrel
      have Hcf := Lib.hid hcf
      have Hall := Lib.hid hall
      clear hcf hall
      by_cases hlt : k < n
      · have hrw := Hr.out.below hA hb
        obtain ⟨b, off, rfl, hAb, hbs, hcs⟩ := hrw.part (by omega)
        have hkl : k < l.length := by have := Hl.out; omega
        obtain ⟨hk64, hn64, ht, c0, c1, c2⟩ := hcs k hkl
        have Hd := Lib.hid (List.drop_eq_getElem_cons hkl)
        have hgw : Good wr := hg.below' hb
        have hbz := hb.size
        have Hah : Hid (ahead l (k + 1) = some l[k].kind) := by unfold Hid; simp only [ahead]; rw [List.getElem?_eq_getElem hkl]; rfl
        have Htk := Lib.hid (take_next l k hkl)
        by_cases hpo : partOk l[k] = 0
        · have Hall2 : Hid (∀ p ∈ l.take (k + 1), partOk p = 0) := by
            unfold Hid; rw [Htk.out]; intro p hp
            rcases List.mem_append.1 hp with h | h
            · exact Hall.out p h
            · simp at h; rw [h]; exact hpo
          have Hst : Hid ((match ahead l k with | some q => clash q l[k].kind | none => false) = false → checkFrom none l = checkFrom (ahead l (k + 1)) (l.drop (k + 1))) := by
            unfold Hid; intro h; rw [Hcf.out, Hd.out, Hah.out, checkFrom_drop _ _ _ hpo h]
          have Hbad : Hid ((match ahead l k with | some q => clash q l[k].kind | none => false) = true → check l = 4) := by
            unfold Hid; intro h
            have h1 : checkFrom none l = 4 := by rw [Hcf.out, Hd.out, checkFrom_clash _ _ _ hpo h]
            rw [HF.out, h1]; rfl
          have hpart := fun W (hW : Good W) => part_any l[k] W hW hk64 hn64 ht
          rw [hpo] at hpart
          have Hpart := Lib.hid hpart
          clear hpart HF Hcf Hd Hah Htk Hall
          cases k with
          | zero =>
            have Hst2 := Lib.hid (Hst.out rfl)
            clear Hst Hbad hcs hrw
            simp only [Nat.zero_mul, Nat.add_zero] at c0 c1 c2
            generalize l[0] = p at *
            obtain ⟨pk, pn, pt⟩ := p
            simp only at *
            go_wp2_with (go_at_call 68; refine (Hpart.out _ (hgw.below' ?hb)).mono ?_; (case hb => (repeat (first | exact Below.refl _ _ | assumption | (refine Below.drew ?_) | (refine below_drewN ?_ _) | (refine Below.alloc ?_ (by first | (simp; done) | (simp; omega) | omega) _) | (refine Below.setCell ?_ (by first | (simp; done) | (simp; omega) | omega) _) | (refine Below.trans ?_ (Below.mono (by assumption) (by first | (simp; done) | (simp; omega) | omega)))))); rintro e w1 ⟨rfl, hb1⟩; obtain ⟨hc1, hf1⟩ := bcell hb1)
            go_quiet (fail)
            go_wp2_with fail
            go_roundw
            case rel => exact ⟨1, by omega, by go_num, Hst2.out, Hall2.out, by (repeat (first | exact Below.refl _ _ | assumption | (refine Below.drew ?_) | (refine below_drewN ?_ _) | (refine Below.alloc ?_ (by first | (simp; done) | (simp; omega) | omega) _) | (refine Below.setCell ?_ (by first | (simp; done) | (simp; omega) | omega) _) | (refine Below.trans ?_ (Below.mono (by assumption) (by first | (simp; done) | (simp; omega) | omega)))))⟩
            case measure => simp [intOf]; omega
          | succ j =>
            obtain ⟨_, _, _, d0, _, _⟩ := hcs j (by omega)
            have hah : ahead l (j + 1) = some l[j].kind := by simp only [ahead]; rw [List.getElem?_eq_getElem (by omega)]; rfl
            rw [hah] at Hst Hbad
            clear hah hcs hrw
            generalize l[j + 1] = p at *
            generalize l[j] = q at *
            obtain ⟨pk, pn, pt⟩ := p
            obtain ⟨qk, qn, qt⟩ := q
            simp only at *
            have hp0 : 0 < j + 1 := by omega
            cases hqp : (qk == pk) with
            | true =>
              have Hbad2 := Lib.hid (Hbad.out (by simp only [clash]; simp at hqp; simp [hqp]))
              clear Hst Hbad
              go_wp2_with (go_at_call 68; refine (Hpart.out _ (hgw.below' ?hb)).mono ?_; (case hb => (repeat (first | exact Below.refl _ _ | assumption | (refine Below.drew ?_) | (refine below_drewN ?_ _) | (refine Below.alloc ?_ (by first | (simp; done) | (simp; omega) | omega) _) | (refine Below.setCell ?_ (by first | (simp; done) | (simp; omega) | omega) _) | (refine Below.trans ?_ (Below.mono (by assumption) (by first | (simp; done) | (simp; omega) | omega)))))); rintro e w1 ⟨rfl, hb1⟩; obtain ⟨hc1, hf1⟩ := bcell hb1)
              go_quiet (fail)
              go_wp2_with fail
              go_ret
              exact ⟨ret_int Hbad2.out.symm, by (repeat (first | exact Below.refl _ _ | assumption | (refine Below.drew ?_) | (refine below_drewN ?_ _) | (refine Below.alloc ?_ (by first | (simp; done) | (simp; omega) | omega) _) | (refine Below.setCell ?_ (by first | (simp; done) | (simp; omega) | omega) _) | (refine Below.trans ?_ (Below.mono (by assumption) (by first | (simp; done) | (simp; omega) | omega)))))⟩
            | false =>
              cases hq3 : (qk == 3) with
              | true =>
                cases hp2 : (pk == 2) with
                | true =>
                  have Hbad2 := Lib.hid (Hbad.out (by simp only [clash]; simp at hq3 hp2; simp [hq3, hp2]))
                  clear Hst Hbad
                  go_wp2_with (go_at_call 68; refine (Hpart.out _ (hgw.below' ?hb)).mono ?_; (case hb => (repeat (first | exact Below.refl _ _ | assumption | (refine Below.drew ?_) | (refine below_drewN ?_ _) | (refine Below.alloc ?_ (by first | (simp; done) | (simp; omega) | omega) _) | (refine Below.setCell ?_ (by first | (simp; done) | (simp; omega) | omega) _) | (refine Below.trans ?_ (Below.mono (by assumption) (by first | (simp; done) | (simp; omega) | omega)))))); rintro e w1 ⟨rfl, hb1⟩; obtain ⟨hc1, hf1⟩ := bcell hb1)
                  go_quiet (fail)
                  go_wp2_with fail
                  go_ret
                  exact ⟨ret_int Hbad2.out.symm, by (repeat (first | exact Below.refl _ _ | assumption | (refine Below.drew ?_) | (refine below_drewN ?_ _) | (refine Below.alloc ?_ (by first | (simp; done) | (simp; omega) | omega) _) | (refine Below.setCell ?_ (by first | (simp; done) | (simp; omega) | omega) _) | (refine Below.trans ?_ (Below.mono (by assumption) (by first | (simp; done) | (simp; omega) | omega)))))⟩
                | false =>
                  have Hst2 := Lib.hid (Hst.out (by simp only [clash]; simp at hqp hp2; simp [hqp, hp2]))
                  clear Hst Hbad
                  go_wp2_with (go_at_call 68; refine (Hpart.out _ (hgw.below' ?hb)).mono ?_; (case hb => (repeat (first | exact Below.refl _ _ | assumption | (refine Below.drew ?_) | (refine below_drewN ?_ _) | (refine Below.alloc ?_ (by first | (simp; done) | (simp; omega) | omega) _) | (refine Below.setCell ?_ (by first | (simp; done) | (simp; omega) | omega) _) | (refine Below.trans ?_ (Below.mono (by assumption) (by first | (simp; done) | (simp; omega) | omega)))))); rintro e w1 ⟨rfl, hb1⟩; obtain ⟨hc1, hf1⟩ := bcell hb1)
                  go_quiet (fail)
                  go_wp2_with fail
                  go_roundw
                  case rel => exact ⟨j + 1 + 1, by omega, by go_num, Hst2.out, Hall2.out, by (repeat (first | exact Below.refl _ _ | assumption | (refine Below.drew ?_) | (refine below_drewN ?_ _) | (refine Below.alloc ?_ (by first | (simp; done) | (simp; omega) | omega) _) | (refine Below.setCell ?_ (by first | (simp; done) | (simp; omega) | omega) _) | (refine Below.trans ?_ (Below.mono (by assumption) (by first | (simp; done) | (simp; omega) | omega)))))⟩
                  case measure => simp [intOf]; omega
              | false =>
                have Hst2 := Lib.hid (Hst.out (by simp only [clash]; simp at hqp hq3; simp [hqp, hq3]))
                clear Hst Hbad
                go_wp2_with (go_at_call 68; refine (Hpart.out _ (hgw.below' ?hb)).mono ?_; (case hb => (repeat (first | exact Below.refl _ _ | assumption | (refine Below.drew ?_) | (refine below_drewN ?_ _) | (refine Below.alloc ?_ (by first | (simp; done) | (simp; omega) | omega) _) | (refine Below.setCell ?_ (by first | (simp; done) | (simp; omega) | omega) _) | (refine Below.trans ?_ (Below.mono (by assumption) (by first | (simp; done) | (simp; omega) | omega)))))); rintro e w1 ⟨rfl, hb1⟩; obtain ⟨hc1, hf1⟩ := bcell hb1)
                go_quiet (fail)
                go_wp2_with fail
                go_roundw
                case rel => exact ⟨j + 1 + 1, by omega, by go_num, Hst2.out, Hall2.out, by (repeat (first | exact Below.refl _ _ | assumption | (refine Below.drew ?_) | (refine below_drewN ?_ _) | (refine Below.alloc ?_ (by first | (simp; done) | (simp; omega) | omega) _) | (refine Below.setCell ?_ (by first | (simp; done) | (simp; omega) | omega) _) | (refine Below.trans ?_ (Below.mono (by assumption) (by first | (simp; done) | (simp; omega) | omega)))))⟩
                case measure => simp [intOf]; omega
        · have hfin : checkFrom none l = partOk l[k] := by rw [Hcf.out, Hd.out]; cases ahead l k <;> rw [checkFrom, if_pos hpo]
          rw [hfin, if_pos hpo] at HF
          clear hfin Hd Hcf Hah Htk hcs hrw
          generalize l[k] = p at *
          obtain ⟨pk, pn, pt⟩ := p
          simp only at *
          have hpb : (partOk ⟨pk, pn, pt⟩ != 0) = true := by simpa using hpo
          clear hpo
          have hpart := fun W (hW : Good W) => part_any ⟨pk, pn, pt⟩ W hW hk64 hn64 ht
          simp only at hpart
          generalize partOk ⟨pk, pn, pt⟩ = r at *
          have Hpart := Lib.hid hpart
          clear hpart
          go_wp2_with (go_at_call 68; refine (Hpart.out _ (hgw.below' ?hb)).mono ?_; (case hb => (repeat (first | exact Below.refl _ _ | assumption | (refine Below.drew ?_) | (refine below_drewN ?_ _) | (refine Below.alloc ?_ (by first | (simp; done) | (simp; omega) | omega) _) | (refine Below.setCell ?_ (by first | (simp; done) | (simp; omega) | omega) _) | (refine Below.trans ?_ (Below.mono (by assumption) (by first | (simp; done) | (simp; omega) | omega)))))); rintro e w1 ⟨rfl, hb1⟩; obtain ⟨hc1, hf1⟩ := bcell hb1)
          go_ret
          exact ⟨ret_int HF.out.symm, by (repeat (first | exact Below.refl _ _ | assumption | (refine Below.drew ?_) | (refine below_drewN ?_ _) | (refine Below.alloc ?_ (by first | (simp; done) | (simp; omega) | omega) _) | (refine Below.setCell ?_ (by first | (simp; done) | (simp; omega) | omega) _) | (refine Below.trans ?_ (Below.mono (by assumption) (by first | (simp; done) | (simp; omega) | omega)))))⟩
      · have hkn : k = l.length := by have := Hl.out; omega
        have hall2 : ∀ p ∈ l, partOk p = 0 := by have h := Hall.out; rw [hkn, List.take_length] at h; exact h
        have h0 : checkFrom none l = 0 := by rw [Hcf.out, hkn, List.drop_length]; cases ahead l l.length <;> rfl
        have hsm : Small l := ⟨by omega, fun p hp => by have := partOk_small (hall2 p hp); omega⟩
        have HF2 : Hid (check l = if 4000 < sumF l ∨ 4000 < sumT l then 1 else 0) := by unfold Hid; rw [HF.out, h0]; rfl
        have Hlen := Lib.hid (fun W h => lengths_any A l a n c W h hsm)
        have hbd := hsm.bound l.length (by omega)
        rw [List.take_length] at hbd
        clear h0 hsm hall2 HF Hcf Hall
        have Hrw := Lib.hid (Hr.out.below hA hb)
        generalize sumF l = x at *
        generalize sumT l = y at *
        clear hkn
        by_cases hx : 4000 < x
        · go_wp2_with (go_at_call 45; refine (Hlen.out _ Hrw.out).mono ?_; rintro e w1 ⟨rfl, hb1⟩)
          go_ret
          exact ⟨ret_int (by rw [HF2.out, if_pos (.inl hx)]), hb.trans (hb1.mono hb.size)⟩
        · by_cases hy : 4000 < y
          · go_wp2_with (go_at_call 45; refine (Hlen.out _ Hrw.out).mono ?_; rintro e w1 ⟨rfl, hb1⟩)
            go_ret
            exact ⟨ret_int (by rw [HF2.out, if_pos (.inr hy)]), hb.trans (hb1.mono hb.size)⟩
          · go_wp2_with (go_at_call 45; refine (Hlen.out _ Hrw.out).mono ?_; rintro e w1 ⟨rfl, hb1⟩)
            go_ret
            exact ⟨ret_int (by rw [HF2.out, if_neg (by omega)]), hb.trans (hb1.mono hb.size)⟩
end Go.Proofs.YtkbfhgcjimfgkaaDoor
