/- The walk of text.Move. -/
import Derived.Test.YtndclmjpjcilmaaDoorMove
set_option linter.unusedSimpArgs false
namespace Go.Proofs.YtndclmjpjcilmaaDoor
open Go.RowKit

set_option maxRecDepth 100000 in
set_option maxHeartbeats 2000000 in
theorem move_any (A : Nat → Prop) (x : Int) (l : Op) (push : Bool) (a : Option Addr) (n c : Nat) (w : World) (hg : Good w) (hA : ∀ b, A b → b < w.heap.size) (hr : RdS A w l a n c) (hx : I64 x) (hc : check l = 0) :
    Calls Tryd.prog 24 #[.int .i64 x, .slice a n c, .bool push] w fun e w' => e = .returned (.tuple #[.int .i64 (if x < 0 ∨ sumF l < x then 0 else mv push l x 0 0), .int .i64 (if x < 0 ∨ sumF l < x then 2 else 0)]) ∧ Below w.heap.size w w' := by
  have hnl : n = l.length := hr.1
  obtain ⟨hlen, hok, hF, hT⟩ := check_zero hc
  have hF0 := sumF_nonneg l hok
  have hn2 : n ≤ 8001 := by omega
  have Hck := Lib.hid (by have := check_any A l a n c w hg hA hr; rw [hc] at this; exact this)
  have Hlen := Lib.hid (fun W (hb : Below w.heap.size w W) => lengths_any A l a n c W (hr.below hA hb) (check_small hc))
  have Hp : Hid (0 < n → ∃ b off, a = some ⟨b, off, none⟩ ∧ A b ∧ b < w.heap.size ∧ ∀ i (h : i < l.length), I64 l[i].kind ∧ I64 l[i].n ∧ l[i].text.size ≤ strMax ∧
      w.cell? ⟨b, off + i * 3, none⟩ = some (.int .i64 l[i].kind) ∧ w.cell? ⟨b, off + i * 3 + 1, none⟩ = some (.int .i64 l[i].n) ∧ w.cell? ⟨b, off + i * 3 + 2, none⟩ = some (.string l[i].text)) := fun h => hr.part h
  have Hbd : Hid (∀ k, k ≤ l.length → 0 ≤ sumF (l.take k) ∧ sumF (l.take k) ≤ 4000 ∧ 0 ≤ sumT (l.take k) ∧ sumT (l.take k) ≤ 4000) := fun k _ => by
    have h1 := sum_parts lenF l k (fun p hp => (partOk_small (hok p hp)).1)
    have h2 := sum_parts lenT l k (fun p hp => (partOk_small (hok p hp)).2.2.1)
    unfold sumF sumT at *
    omega
  have Hl := Lib.hid hnl
  have Hok := Lib.hid hok
  have Hc := Lib.hid hc
  clear hnl hok hc hr hlen hT
  unfold I64 at hx
  generalize hu : (if x < 0 ∨ sumF l < x then (0 : Int) else mv push l x 0 0) = u
  generalize hv : (if x < 0 ∨ sumF l < x then (2 : Int) else 0) = v
  have Hu := Lib.hid hu
  have Hv := Lib.hid hv
  clear hu hv
  go_enter Tryd.func24, Tryd.ntmps24
  go_wp2_with fail
  refine Hck.out.mono ?_
  rintro e w1 ⟨rfl, hb1⟩
  go_wp2_with fail
  refine (Hlen.out _ (by (repeat (first | exact Below.refl _ _ | assumption | (refine Below.drew ?_) | (refine below_drewN ?_ _) | (refine Below.alloc ?_ (by first | (simp; done) | (simp; omega) | omega) _) | (refine Below.setCell ?_ (by first | (simp; done) | (simp; omega) | omega) _) | (refine Below.trans ?_ (Below.mono (by assumption) (by first | (simp; done) | (simp; omega) | omega))))))).mono ?_
  rintro e w2 ⟨rfl, hb2⟩
  have Hb2 := Lib.hid (hb1.trans (hb2.mono hb1.size))
  clear hb1 hb2
  by_cases h0 : x < 0
  · have hu := Hu.out
    have hv := Hv.out
    rw [if_pos (.inl h0)] at hu hv
    subst hu hv
    clear Hu Hv
    clear Hck Hlen
    go_wp2_with fail
    go_ret2
    exact ⟨rfl, Hb2.out⟩
  by_cases h1 : sumF l < x
  · have hu := Hu.out
    have hv := Hv.out
    rw [if_pos (.inr h1)] at hu hv
    subst hu hv
    clear Hu Hv
    clear Hck Hlen
    generalize sumF l = z at *
    go_wp2_with fail
    go_ret2
    exact ⟨rfl, Hb2.out⟩
  have hu := Hu.out
  have hv := Hv.out
  rw [if_neg (by omega)] at hu hv
  clear Hu Hv
  subst hv
  have Hm := Lib.hid hu
  clear hu
  clear Hck Hlen
  have hx4 : x ≤ 4000 := by omega
  have h1' : x ≤ sumF l := by omega
  clear h1
  have Hx := Lib.hid h1'
  generalize sumF l = z at h1' hF hF0
  go_wp2_with fail
  generalize sumT l = z2
  go_loopw [0, 11, 12, 34] (fun a o m i wr => ∃ (k : Nat) (X : Int), k ≤ n ∧ i = .int .i64 k ∧ a = .int .i64 X ∧ o = .int .i64 (sumF (l.take k)) ∧ m = .int .i64 (sumT (l.take k)) ∧ sumF (l.take k) ≤ X ∧ X ≤ 4000 ∧ mv push (l.drop k) X (sumF (l.take k)) (sumT (l.take k)) = u ∧ Below w.heap.size w wr) (fun _ _ _ i _ => n - (intOf i).toNat)
  case atStart => exact ⟨0, x, by omega, rfl, rfl, rfl, rfl, by simp [sumF]; omega, hx4, by simpa [sumF, sumT] using Hm.out, Hb2.out⟩
  case round =>
    obtain ⟨k, X, hk, rfl, rfl, rfl, rfl, hX0, hX4, hmv, hb⟩ := hrel
    clear Hm Hx h1' hF hF0 hx4 h0 hx
    by_cases hlt : k < n
    · obtain ⟨b, off, rfl, _, hbs, hcs⟩ := Hp.out (by omega)
      have hkl : k < l.length := by have := Hl.out; omega
      obtain ⟨_, hn64, ht, c0, c1, c2⟩ := hcs k hkl
      clear hcs
      have hbk := Hbd.out k (by omega)
      have hbk1 := Hbd.out (k + 1) (by omega)
      have hpk := partOk_kind (Hok.out l[k] (List.getElem_mem hkl))
      have hFn := sumF_next l k hkl
      have hTn := sumT_next l k hkl
      rw [hFn, hTn] at hbk1
      have HF := Lib.hid hFn
      have HT := Lib.hid hTn
      rw [List.drop_eq_getElem_cons hkl] at hmv
      have hz := hb.size
      obtain ⟨hcb, hfb⟩ := bcell hb
      clear hFn hTn
      have hSz := fun W : World => size_any l[k] W hn64 ht
      generalize sumF (l.take k) = O at *
      generalize sumT (l.take k) = N at *
      generalize l[k] = p at *
      obtain ⟨pk, pn, pt⟩ := p
      simp only at *
      rcases hpk with ⟨rfl, n1, n2⟩ | ⟨rfl, rfl, n2⟩ | ⟨rfl, n1, n2⟩
      · have e1 : lenF ⟨1, pn, pt⟩ = pn := by simp [lenF]
        have e2 : lenT ⟨1, pn, pt⟩ = pn := by simp [lenT]
        rw [e1] at HF hbk1; rw [e2] at HT hbk1
        simp only [mv, i12, i32, i31, if_false, if_true] at hmv
        clear e1 e2 hSz hn64 ht
        by_cases h1 : X < O + pn
        · rw [if_pos h1] at hmv
          have d : decide (X < O + pn) = true := by simpa using h1
          have Hmv := Lib.hid hmv
          clear hmv h1
          go_wp2_with fail
          go_ret2
          exact ⟨by have h := Hmv.out; subst h; rfl, by (repeat (first | exact Below.refl _ _ | assumption | (refine Below.drew ?_) | (refine below_drewN ?_ _) | (refine Below.alloc ?_ (by first | (simp; done) | (simp; omega) | omega) _) | (refine Below.setCell ?_ (by first | (simp; done) | (simp; omega) | omega) _) | (refine Below.trans ?_ (Below.mono (by assumption) (by first | (simp; done) | (simp; omega) | omega)))))⟩
        · rw [if_neg h1] at hmv
          have d : decide (X < O + pn) = false := by simpa using h1
          have Hmv := Lib.hid hmv
          have h2 : O + pn ≤ X := by omega
          clear hmv h1
          go_wp2_with fail
          go_quiet (fail)
          go_wp2_with fail
          go_roundw
          case rel => exact ⟨k + 1, X, by omega, by go_num, rfl, by rw [HF.out], by rw [HT.out], by rw [HF.out]; exact h2, hX4, by rw [HF.out, HT.out]; exact Hmv.out, by (repeat (first | exact Below.refl _ _ | assumption | (refine Below.drew ?_) | (refine below_drewN ?_ _) | (refine Below.alloc ?_ (by first | (simp; done) | (simp; omega) | omega) _) | (refine Below.setCell ?_ (by first | (simp; done) | (simp; omega) | omega) _) | (refine Below.trans ?_ (Below.mono (by assumption) (by first | (simp; done) | (simp; omega) | omega)))))⟩
          case measure => simp [intOf]; omega
      · have e1 : lenF ⟨2, 0, pt⟩ = 0 := by simp [lenF]
        have e2 : lenT ⟨2, 0, pt⟩ = rc pt := by simp [lenT]
        rw [e1] at HF hbk1; rw [e2] at HT hbk1
        simp only [mv, if_true] at hmv
        simp only [if_true] at hSz
        have HSz := Lib.hid hSz
        clear e1 e2 hSz hn64 ht
        generalize rc pt = R at *
        have d0 : decide (X < O) = false := by simp; omega
        by_cases h1 : O = X
        · subst h1
          cases push with
          | false =>
            rw [if_pos ⟨rfl, rfl⟩] at hmv
            have Hmv := Lib.hid hmv
            clear hmv
            go_wp2_with fail
            go_ret2
            exact ⟨by have h := Hmv.out; rw [← h, show N + O - O = N by omega]; rfl, by (repeat (first | exact Below.refl _ _ | assumption | (refine Below.drew ?_) | (refine below_drewN ?_ _) | (refine Below.alloc ?_ (by first | (simp; done) | (simp; omega) | omega) _) | (refine Below.setCell ?_ (by first | (simp; done) | (simp; omega) | omega) _) | (refine Below.trans ?_ (Below.mono (by assumption) (by first | (simp; done) | (simp; omega) | omega)))))⟩
          | true =>
            rw [if_neg (by rintro ⟨_, h⟩; cases h)] at hmv
            have Hmv := Lib.hid hmv
            clear hmv
            go_wp2_with (go_at_call 41; refine (HSz.out _).mono ?_; rintro e w3 ⟨rfl, hb3⟩; obtain ⟨hc3, hf3⟩ := bcell hb3)
            go_roundw
            case rel => exact ⟨k + 1, O, by omega, by go_num, rfl, by rw [HF.out]; go_num, by rw [HT.out], by rw [HF.out]; omega, hX4, by rw [HF.out, HT.out, Int.add_zero]; exact Hmv.out, by (repeat (first | exact Below.refl _ _ | assumption | (refine Below.drew ?_) | (refine below_drewN ?_ _) | (refine Below.alloc ?_ (by first | (simp; done) | (simp; omega) | omega) _) | (refine Below.setCell ?_ (by first | (simp; done) | (simp; omega) | omega) _) | (refine Below.trans ?_ (Below.mono (by assumption) (by first | (simp; done) | (simp; omega) | omega)))))⟩
            case measure => simp [intOf]; omega
        · rw [if_neg (fun h => h1 h.1)] at hmv
          have d1 : (O == X) = false := by simpa using h1
          have Hmv := Lib.hid hmv
          clear hmv h1
          go_wp2_with (go_at_call 41; refine (HSz.out _).mono ?_; rintro e w3 ⟨rfl, hb3⟩; obtain ⟨hc3, hf3⟩ := bcell hb3)
          go_roundw
          case rel => exact ⟨k + 1, X, by omega, by go_num, rfl, by rw [HF.out]; go_num, by rw [HT.out], by rw [HF.out]; omega, hX4, by rw [HF.out, HT.out, Int.add_zero]; exact Hmv.out, by (repeat (first | exact Below.refl _ _ | assumption | (refine Below.drew ?_) | (refine below_drewN ?_ _) | (refine Below.alloc ?_ (by first | (simp; done) | (simp; omega) | omega) _) | (refine Below.setCell ?_ (by first | (simp; done) | (simp; omega) | omega) _) | (refine Below.trans ?_ (Below.mono (by assumption) (by first | (simp; done) | (simp; omega) | omega)))))⟩
          case measure => simp [intOf]; omega
      · have e1 : lenF ⟨3, pn, pt⟩ = pn := by simp [lenF]
        have e2 : lenT ⟨3, pn, pt⟩ = 0 := by simp [lenT]
        rw [e1] at HF hbk1; rw [e2] at HT hbk1
        simp only [mv, i12, i32, i31, if_false, if_true] at hmv
        clear e1 e2 hSz hn64 ht
        by_cases h1 : X < O + pn
        · rw [if_pos h1] at hmv
          have d : decide (X < O + pn) = true := by simpa using h1
          have Hmv := Lib.hid hmv
          clear hmv h1
          go_wp2_with fail
          go_roundw
          case rel => exact ⟨k + 1, O + pn, by omega, by go_num, rfl, by rw [HF.out], by rw [HT.out]; go_num, by rw [HF.out]; omega, by omega, by rw [HF.out, HT.out, Int.add_zero]; exact Hmv.out, by (repeat (first | exact Below.refl _ _ | assumption | (refine Below.drew ?_) | (refine below_drewN ?_ _) | (refine Below.alloc ?_ (by first | (simp; done) | (simp; omega) | omega) _) | (refine Below.setCell ?_ (by first | (simp; done) | (simp; omega) | omega) _) | (refine Below.trans ?_ (Below.mono (by assumption) (by first | (simp; done) | (simp; omega) | omega)))))⟩
          case measure => simp [intOf]; omega
        · rw [if_neg h1] at hmv
          have d : decide (X < O + pn) = false := by simpa using h1
          have Hmv := Lib.hid hmv
          have h2 : O + pn ≤ X := by omega
          clear hmv h1
          go_wp2_with fail
          go_roundw
          case rel => exact ⟨k + 1, X, by omega, by go_num, rfl, by rw [HF.out], by rw [HT.out]; go_num, by rw [HF.out]; exact h2, hX4, by rw [HF.out, HT.out, Int.add_zero]; exact Hmv.out, by (repeat (first | exact Below.refl _ _ | assumption | (refine Below.drew ?_) | (refine below_drewN ?_ _) | (refine Below.alloc ?_ (by first | (simp; done) | (simp; omega) | omega) _) | (refine Below.setCell ?_ (by first | (simp; done) | (simp; omega) | omega) _) | (refine Below.trans ?_ (Below.mono (by assumption) (by first | (simp; done) | (simp; omega) | omega)))))⟩
          case measure => simp [intOf]; omega
    · have hkn : k = l.length := by have := Hl.out; omega
      subst hkn
      rw [List.drop_length] at hmv
      simp only [mv] at hmv
      subst hmv
      clear Hp
      go_wp2_with fail
      go_ret2
      exact ⟨rfl, hb⟩
end Go.Proofs.YtndclmjpjcilmaaDoor
