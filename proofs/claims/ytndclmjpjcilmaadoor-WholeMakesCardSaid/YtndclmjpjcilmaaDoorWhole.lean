/- The walk of text.Whole. -/
import Derived.Test.YtndclmjpjcilmaaDoorCopy
import Derived.Test.YtndclmjpjcilmaaDoorBuilder
import Derived.LoopN
import Derived.Outline
set_option linter.unusedSimpArgs false
namespace Go.Proofs.YtndclmjpjcilmaaDoor
open Go.RowKit

def wholeE (s t : Str) : Int := if checkText s ≠ 0 then checkText s else checkText t
def wholeO (s t : Str) : Op := if wholeE s t = 0 then (addR (addR [] ⟨2, 0, t⟩) ⟨3, rc s, noText⟩).reverse else []

theorem bag_new (T : TypeId) (B : Nat) (W : World) (hB : B ≤ W.heap.size) : Bag T B W.heap.size (.slice none 0 0) [] [] (W.alloc (.cells #[.slice none 0 0] T)) :=
  ⟨hB, heap_new_at W _ _ rfl, World.ownsRow_nil _ _ _ _, by simp [Value.ownBlock]⟩
theorem Bag.toRd {T B b : Nat} {v : Value} {ex : List Value} {l : Op} {w : World} (h : Bag T B b v ex l w) (hp : Fits l) : ∃ a c, v = .slice a l.length c ∧ RdS (· < w.heap.size) w l a l.length c := by
  obtain ⟨a, c, hv, hr⟩ := RdS.of_own h.own hp
  exact ⟨a, c, hv, hr.wide (fun b hb => hb.2)⟩
theorem fits_addR {r : List Part} {p : Part} (hr : Fits r) (hp : I64 p.kind ∧ I64 p.n ∧ p.text.size ≤ strMax) (hadd : ∀ q ∈ r, I64 (q.n + p.n) ∧ (q.text ++ p.text).size ≤ strMax) : Fits (addR r p) := by
  refine addR_each (fun q => (I64 q.kind ∧ I64 q.n ∧ q.text.size ≤ strMax) ∧ I64 (q.n + p.n) ∧ (q.text ++ p.text).size ≤ strMax) (fun q => I64 q.kind ∧ I64 q.n ∧ q.text.size ≤ strMax) p hp (fun q h => h.1) (fun q h _ => ⟨h.1.1, h.2.1, h.2.2⟩) r (fun q hq => ⟨hr q hq, hadd q hq⟩)
theorem fits_rev {r : List Part} (h : Fits r) : Fits r.reverse := fun p hp => h p (by simpa using hp)

set_option maxRecDepth 100000 in
set_option maxHeartbeats 2000000 in
theorem whole_any (s t : Str) (w : World) (hg : Good w) (hs : s.size ≤ 1000000000000) (ht : t.size ≤ 1000000000000) :
    Calls Tryd.prog 29 #[.string s, .string t] w fun e w' => ∃ a c, e = .returned (.tuple #[.slice a (wholeO s t).length c, .int .i64 (wholeE s t)]) ∧ RdS (· < w'.heap.size) w' (wholeO s t) a (wholeO s t).length c ∧ Below w.heap.size w w' := by
  have HS := Lib.hid (fun W (hb : Below w.heap.size w W) => checkText_any s W (hg.below' hb) (by unfold strMax; omega))
  have HT := Lib.hid (fun W (hb : Below w.heap.size w W) => checkText_any t W (hg.below' hb) (by unfold strMax; omega))
  have HR := Lib.hid (fun W => rc_any s W (by unfold strMax; omega))
  by_cases h0 : checkText s = 0
  · by_cases h1 : checkText t = 0
    · have hE : wholeE s t = 0 := by unfold wholeE; rw [if_neg (by simpa using h0)]; exact h1
      have hO : wholeO s t = (addR (addR [] ⟨2, 0, t⟩) ⟨3, rc s, noText⟩).reverse := by unfold wholeO; rw [if_pos hE]
      rw [hE, hO]
      rw [h0] at HS
      rw [h1] at HT
      have v1 := (valid_of h1).1
      have r0 := rc_nonneg s
      have r1 := (valid_of h0).2
      clear hE hO h0 h1
      generalize hF : (addR (addR [] ⟨2, 0, t⟩) ⟨3, rc s, noText⟩).reverse = F
      have HF := Lib.hid hF
      clear hF
      go_enter Tryd.func29, Tryd.ntmps29
      go_wp2_with fail
      refine wp_loop_rounds 3 ?_
      rw [rounds_succ]
      go_wp2_with fail
      refine (HS.out _ (by (repeat (first | exact Below.refl _ _ | assumption | (refine Below.drew ?_) | (refine below_drewN ?_ _) | (refine Below.alloc ?_ (by first | (simp; done) | (simp; omega) | omega) _) | (refine Below.setCell ?_ (by first | (simp; done) | (simp; omega) | omega) _) | (refine Below.trans ?_ (Below.mono (by assumption) (by first | (simp; done) | (simp; omega) | omega))))))).mono ?_
      rintro e w1 ⟨rfl, hb1⟩
      have hB1 : Below w.heap.size w w1 := by
        have h0 : Below w.heap.size w (w.alloc (.cells #[.string s, .string t] 9)) := (Below.refl _ _).alloc (Nat.le_refl _) _
        exact h0.trans (hb1.mono h0.size)
      have hc1 : w1.cell? ⟨w.heap.size, 1, none⟩ = some (.string t) := (hb1.cell (p := ⟨w.heap.size, 1, none⟩) (by simp)).trans (by rw [cell_of_row _ _ _ _ _ _ (heap_new_at _ _ _ rfl)]; rfl)
      have hz1 := hb1.size
      simp at hz1
      clear hb1 HS
      go_wp2_with fail
      rw [rounds_succ]
      go_wp2_with fail
      refine (HT.out _ hB1).mono ?_
      rintro e w2 ⟨rfl, hb2⟩
      have hB2 := hB1.trans (hb2.mono hB1.size)
      clear hb2 HT hB1 hc1 hz1
      go_wp2_with fail
      rw [rounds_succ]
      go_wp2_with fail
      have hz2 := hB2.size
      have hbag := bag_new 108 w.heap.size w2 hz2
      have hB3 : Below w.heap.size w (w2.alloc (.cells #[.slice none 0 0] 108)) := hB2.alloc hz2 _
      refine (insert_any w.heap.size w2.heap.size (.slice none 0 0) t [] _ (by omega) v1 trivial (by simp) (by simp) hbag).mono ?_
      rintro e w4 ⟨v4, rfl, hbag4, ht4, _⟩
      have hB4 : Below w.heap.size w w4 := hB3.trans (ht4.toBelow hB3.size (fun k hk => by
        rcases hk with rfl | hk
        · exact hz2
        · cases hk))
      have hz4 := hB4.size
      have hlen4 := addR_len [] ⟨2, 0, t⟩
      have hfit4 : Fits (addR [] ⟨2, 0, t⟩) := fits_addR (by intro p hp; cases hp) ⟨by unfold I64; simp only; omega, by unfold I64; simp only; omega, by simp only; unfold strMax; omega⟩ (by intro p hp; cases hp)
      have hmild4 : ∀ q ∈ addR [] ⟨2, 0, t⟩, Mild q := by
        intro q hq
        refine addR_each (fun _ => False) Mild ⟨2, 0, t⟩ ⟨by simp only; omega, by simp only; omega, by simp only; omega⟩ (fun q h => h.elim) (fun q h => h.elim) [] (by simp) q hq
      have hpart4 : ∀ q ∈ addR [] ⟨2, 0, t⟩, q.n = 0 ∧ q.text = t := by
        intro q hq
        cases htr : triv ⟨2, 0, t⟩ with
        | true => simp [addR, htr] at hq
        | false => rw [addR_nil htr] at hq; simp at hq; subst hq; exact ⟨rfl, rfl⟩
      have hfit5 : Fits (addR (addR [] ⟨2, 0, t⟩) ⟨3, rc s, noText⟩) := fits_addR hfit4 ⟨by unfold I64; simp only; omega, by unfold I64; simp only; omega, by simp only [noText_size]; unfold strMax; omega⟩ (fun q hq => by
        obtain ⟨q1, q2⟩ := hpart4 q hq
        rw [q1, q2]
        refine ⟨by unfold I64; simp only; omega, ?_⟩
        simp only [app_noText]; unfold strMax; omega)
      have hlen5 := addR_len (addR [] ⟨2, 0, t⟩) ⟨3, rc s, noText⟩
      clear ht4 hbag hB3 hB2 hpart4 hfit4
      have HF2 := Lib.hid (p := addR (addR [] ⟨2, 0, t⟩) ⟨3, rc s, noText⟩ = F.reverse) (by rw [← HF.out, List.reverse_reverse])
      clear HF
      generalize addR [] ⟨2, 0, t⟩ = r4 at *
      go_wp2_with fail
      refine (HR.out _).mono ?_
      rintro e w5 ⟨rfl, hb5⟩
      have hbag5 := hbag4.below hb5
      have hB5 := hB4.trans (hb5.mono hz4)
      clear hb5 hbag4 hB4 hz4 HR
      go_wp2_with fail
      refine (remove_any w.heap.size w2.heap.size v4 (rc s) r4 w5 (by omega) hmild4 (by simp at hlen4; omega) hbag5).mono ?_
      rintro e w6 ⟨v6, rfl, hbag6, ht6, _⟩
      have hB6 : Below w.heap.size w w6 := hB5.trans (ht6.toBelow hB5.size hbag5.sB)
      have hz6 := hB6.size
      clear ht6 hbag5 hB5 hmild4
      have hF3 := HF2.out
      rw [hF3] at hbag6 hlen5 hfit5
      clear hF3 HF2
      rw [List.reverse_reverse] at hbag6
      simp only [List.length_reverse] at hlen5
      have hfit6 : Fits F := by have := fits_rev hfit5; rwa [List.reverse_reverse] at this
      clear hfit5
      obtain ⟨a6, c6, hv6, hr6⟩ := hbag6.toRd hfit6
      subst hv6
      have d6 := hbag6.cell 0
      simp only [List.getElem?_cons_zero] at d6
      have hl6 : F.length ≤ 1000000000 := by simp at hlen4; omega
      clear hbag6 hfit6
      generalize hm : F.length = m at *
      have Hm := Lib.hid hm
      clear hm
      go_wp2_with fail
      refine (copied_any F a6 m c6 w6 hr6 hl6).mono ?_
      rintro e w7 ⟨a7, c7, rfl, hr7, hb7⟩
      have hB7 := hB6.trans (hb7.mono hz6)
      have Hr7 := Lib.hid (hr7.wide (fun b hb => hb.2))
      clear hb7 hr7
      clear Hm
      go_wp2_with fail
      go_ret2
      exact ⟨_, _, rfl, Hr7.out, hB7⟩
    · have hE : wholeE s t = checkText t := by unfold wholeE; rw [if_neg (by simpa using h0)]
      have hO : wholeO s t = [] := by unfold wholeO; rw [hE, if_neg h1]
      rw [hE, hO]
      rw [h0] at HS
      have hne : (checkText t != 0) = true := by simpa using h1
      clear hE hO h0 h1
      generalize checkText t = x at *
      go_enter Tryd.func29, Tryd.ntmps29
      go_wp2_with fail
      refine wp_loop_rounds 3 ?_
      rw [rounds_succ]
      go_wp2_with fail
      refine (HS.out _ (by (repeat (first | exact Below.refl _ _ | assumption | (refine Below.drew ?_) | (refine below_drewN ?_ _) | (refine Below.alloc ?_ (by first | (simp; done) | (simp; omega) | omega) _) | (refine Below.setCell ?_ (by first | (simp; done) | (simp; omega) | omega) _) | (refine Below.trans ?_ (Below.mono (by assumption) (by first | (simp; done) | (simp; omega) | omega))))))).mono ?_
      rintro e w1 ⟨rfl, hb1⟩
      have hB1 : Below w.heap.size w w1 := by
        have h0 : Below w.heap.size w (w.alloc (.cells #[.string s, .string t] 9)) := (Below.refl _ _).alloc (Nat.le_refl _) _
        exact h0.trans (hb1.mono h0.size)
      have hc1 : w1.cell? ⟨w.heap.size, 1, none⟩ = some (.string t) := (hb1.cell (p := ⟨w.heap.size, 1, none⟩) (by simp)).trans (by rw [cell_of_row _ _ _ _ _ _ (heap_new_at _ _ _ rfl)]; rfl)
      have hz1 := hb1.size
      simp at hz1
      clear hb1 HS
      go_wp2_with fail
      rw [rounds_succ]
      go_wp2_with fail
      refine (HT.out _ hB1).mono ?_
      rintro e w2 ⟨rfl, hb2⟩
      have hB2 := hB1.trans (hb2.mono hB1.size)
      clear hb2 HT hB1 hc1 hz1
      go_wp2_with fail
      go_ret2
      exact ⟨none, 0, rfl, RdS.nil' _ _ _ _ (by unfold maxLen; omega) (fun _ => rfl), hB2⟩
  · have hE : wholeE s t = checkText s := by unfold wholeE; rw [if_pos h0]
    have hO : wholeO s t = [] := by unfold wholeO; rw [hE, if_neg h0]
    rw [hE, hO]
    have hne : (checkText s != 0) = true := by simpa using h0
    clear hE hO h0
    generalize checkText s = x at *
    go_enter Tryd.func29, Tryd.ntmps29
    go_wp2_with fail
    refine wp_loop_rounds 3 ?_
    rw [rounds_succ]
    go_wp2_with fail
    refine (HS.out _ (by (repeat (first | exact Below.refl _ _ | assumption | (refine Below.drew ?_) | (refine below_drewN ?_ _) | (refine Below.alloc ?_ (by first | (simp; done) | (simp; omega) | omega) _) | (refine Below.setCell ?_ (by first | (simp; done) | (simp; omega) | omega) _) | (refine Below.trans ?_ (Below.mono (by assumption) (by first | (simp; done) | (simp; omega) | omega))))))).mono ?_
    rintro e w1 ⟨rfl, hb1⟩
    have hB1 : Below w.heap.size w w1 := by
      have h0 : Below w.heap.size w (w.alloc (.cells #[.string s, .string t] 9)) := (Below.refl _ _).alloc (Nat.le_refl _) _
      exact h0.trans (hb1.mono h0.size)
    clear hb1 HS
    go_wp2_with fail
    go_ret2
    exact ⟨none, 0, rfl, RdS.nil' _ _ _ _ (by unfold maxLen; omega) (fun _ => rfl), hB1⟩
end Go.Proofs.YtndclmjpjcilmaaDoor
