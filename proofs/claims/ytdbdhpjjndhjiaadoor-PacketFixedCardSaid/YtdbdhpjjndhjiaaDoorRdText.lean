/- The walks of (*wire.reader).text and end. -/
import Derived.Test.YtdbdhpjjndhjiaaDoorRd
import Derived.Laws.BytesArg
set_option linter.unusedSimpArgs false
namespace Go.Proofs.YtdbdhpjjndhjiaaDoor
open Go.RowKit

/-- bytes of a slice as a string -/
theorem RdS.conv {A : Nat → Prop} {w : World} {l : Bs} {a : Option Addr} {n c : Nat} (hr : RdS A w l a n c) : (convert 25 9 (.slice a n c)).run Tryd.prog w = .ok (.string (strOf l)) w := by
  have hn := hr.1
  by_cases h0 : n = 0
  · have hl : l = [] := List.eq_nil_of_length_eq_zero (by omega)
    subst hl h0
    rw [run_convert_bytes_string w _ _ 5 _ 0 c Tryd.underlying25 Tryd.underlying5 Tryd.underlying9]
    cases a <;> simp [Conv.bytesToString, loadCells, strOf]
    all_goals rfl
  · obtain ⟨g, off, rfl, _, _, hcs⟩ := hr.byte (by omega)
    have := run_convert_bytes_arg (P := Tryd.prog) w 25 5 Tryd.underlying25 Tryd.underlying5 g off n c (l.map fun x => (x.toNat : Int)) (by simp [hn]) (fun i hi => by
      have hil : i < l.length := by omega
      rw [hcs i hil]
      simp [List.getD, hil]) _ Tryd.underlying9
    have e1 : ((fun n : Int => UInt8.ofNat n.toNat) ∘ fun x : UInt8 => (x.toNat : Int)) = id := by funext x; simp
    have e : strOfNums (l.map fun x => (x.toNat : Int)) = strOf l := by
      unfold strOfNums strOf
      rw [List.map_map, e1, List.map_id]
    rw [this, e]
/-- the first ones of a slice -/
theorem RdS.upto {α : Type} [Rep α] {A : Nat → Prop} {w : World} {l : List α} {a : Option Addr} {n c : Nat} (hr : RdS A w l a n c) (k : Nat) (hk : k ≤ n) : RdS A w (l.take k) a k c := by
  have hn := hr.1
  have hc := hr.2.1
  refine ⟨by rw [List.length_take]; omega, by omega, hr.2.2.1, hr.2.2.2.1, fun h0 => ?_⟩
  obtain ⟨b', off', e, hA, hb, he⟩ := hr.2.2.2.2 (by omega)
  refine ⟨b', off', e, hA, hb, fun i x hi => ?_⟩
  have him : i < k := by
    have := (List.getElem?_eq_some_iff.1 hi).1
    rw [List.length_take] at this; omega
  rw [List.getElem?_take_of_lt him] at hi
  exact he i x hi
theorem Rdr.set0' {b : Nat} {r : Rd} {l' : Bs} {w : World} {a : Option Addr} {n c : Nat} (h : Rdr b r w) (hr : RdS (· < b) w l' a n c) (hf : Flat a) : Rdr b ⟨l', r.fault⟩ (w.setCell ⟨b, 0, none⟩ (.slice a n c)) := Rdr.set0 (l := r.rest) h hr hf
/-- what a call of text leaves -/
def RTextP (b : Nat) (r : Rd) (w : World) (x : Ending) (w' : World) : Prop := x = .returned (.string r.text.1) ∧ Rdr b r.text.2 w' ∧ Only b w w'
set_option maxRecDepth 100000 in
set_option maxHeartbeats 4000000 in
theorem rtext_any (b : Nat) (r : Rd) (w : World) (h : Rdr b r w) :
    Calls Tryd.prog 63 #[.pointer (some ⟨b, 0, none⟩)] w (RTextP b r w) := by
  have HT := Lib.hid (take_any b r w h)
  clear h
  by_cases hlt : r.take.2.rest.length < r.take.1
  · have Hpost : Hid (∀ W, Rdr b (r.take.2.fail 5) W → Only b w W → RTextP b r w (.returned (.string ⟨#[]⟩)) W) := by
      intro W h1 h2
      unfold RTextP Rd.text
      rw [if_pos hlt]
      exact ⟨rfl, h1, h2⟩
    unfold TakeP at HT
    generalize RTextP b r w = TP at *
    generalize r.take = q at *
    obtain ⟨n, l, f⟩ := q
    simp only at *
    go_enter Tryd.func63, Tryd.ntmps63
    go_wp2_with fail
    refine HT.out.mono ?_
    rintro e w1 ⟨rfl, h1, o1⟩
    have HF := Lib.hid (fail_any b ⟨l, f⟩ 5 w1 h1)
    obtain ⟨a, c, xf, x1, x2⟩ := h1.ex
    have c0 : w1.cell? ⟨b, 0, none⟩ = some (.slice a l.length c) := x1.cell 0
    have O1 := Lib.hid o1
    clear HT h1 x1 x2 o1
    go_wp2_with fail
    refine HF.out.mono ?_
    rintro e w2 ⟨rfl, h2, o2⟩
    have G := Lib.hid (Hpost.out w2 h2 (O1.out.trans o2))
    clear HF h2 o2 O1 Hpost
    go_wp2_with fail
    exact G.out
  · have hle : r.take.1 ≤ r.take.2.rest.length := by omega
    have Hpost : Hid (∀ W, Rdr b ⟨r.take.2.rest.drop r.take.1, r.take.2.fault⟩ W → Only b w W → RTextP b r w (.returned (.string (strOf (r.take.2.rest.take r.take.1)))) W) := by
      intro W h1 h2
      unfold RTextP Rd.text
      rw [if_neg hlt]
      exact ⟨rfl, h1, h2⟩
    unfold TakeP at HT
    generalize RTextP b r w = TP at *
    generalize r.take = q at *
    obtain ⟨n, l, f⟩ := q
    simp only at *
    clear hlt
    go_enter Tryd.func63, Tryd.ntmps63
    go_wp2_with fail
    refine HT.out.mono ?_
    rintro e w1 ⟨rfl, h1, o1⟩
    obtain ⟨a, c, xf, x1, x2⟩ := h1.ex
    have c0 : w1.cell? ⟨b, 0, none⟩ = some (.slice a l.length c) := x1.cell 0
    have f0 : w1.frozen? ⟨b, 0, none⟩ = false := x1.frozen 0
    have hcv := (x2.upto n hle).conv
    have hlc := x2.2.1
    have hcm : c ≤ 9223372036854775807 := x2.2.2.1
    simp only at hlc hcm
    have i1 : (0 : Int) ≤ (n : Int) := by omega
    have i2 : (n : Int) ≤ (l.length : Int) := by omega
    have i3 : (l.length : Int) ≤ (c : Int) := by omega
    have O1 := Lib.hid o1
    have H1 := Lib.hid h1
    rcases xf with rfl | ⟨g, off, rfl⟩
    · have hc0 : c = 0 := x2.2.2.2.1 rfl
      have hl0 : l = [] := List.eq_nil_of_length_eq_zero (by omega)
      subst hc0 hl0
      have hn0 : n = 0 := by simp at hle; omega
      subst hn0
      have G : Hid (TP (.returned (.string (strOf (([] : Bs).take 0)))) (w1.setCell ⟨b, 0, none⟩ (.slice none 0 0))) := Hpost.out _ (h1.set0' (RdS.empty _ _ _) (.inl rfl)) (o1.trans (touch1 _))
      clear HT h1 x1 x2 o1 H1 O1 Hpost
      generalize strOf (([] : Bs).take 0) = S at *
      simp only [List.length_nil] at c0
      go_wp2_with fail
      exact G.out
    · have hx : RdS (· < b) w1 (l.drop n) (some ⟨g, off + n, none⟩) (l.length - n) (c - n) := by
        have := x2.from_ n hle
        simpa [show Rep.n UInt8 = 1 from rfl] using this
      by_cases hnc : n < c
      · have G : Hid (TP (.returned (.string (strOf (l.take n)))) (w1.setCell ⟨b, 0, none⟩ (.slice (some ⟨g, off + n, none⟩) (l.length - n) (c - n)))) := Hpost.out _ (h1.set0' hx (.inr ⟨_, _, rfl⟩)) (o1.trans (touch1 _))
        clear HT h1 x1 x2 o1 H1 O1 Hpost hx
        generalize strOf (l.take n) = S at *
        go_wp2_with fail
        exact G.out
      · have hnc2 : c = n := by omega
        have hln : l.length = n := by omega
        have hd : l.drop n = [] := List.drop_of_length_le (by omega)
        rw [hd] at Hpost
        have G : Hid (TP (.returned (.string (strOf (l.take n)))) (w1.setCell ⟨b, 0, none⟩ (.slice (some ⟨g, off, none⟩) 0 0))) := Hpost.out _ (h1.set0' (RdS.empty _ _ _) (.inr ⟨_, _, rfl⟩)) (o1.trans (touch1 _))
        clear HT h1 x1 x2 o1 H1 O1 Hpost hx hd i2 i3
        generalize strOf (l.take n) = S at *
        rw [hln] at c0
        clear hln
        subst hnc2
        go_wp2_with fail
        exact G.out

set_option maxRecDepth 100000 in
set_option maxHeartbeats 1000000 in
theorem end_any (b : Nat) (r : Rd) (w : World) (h : Rdr b r w) :
    Calls Tryd.prog 43 #[.pointer (some ⟨b, 0, none⟩)] w fun x w' => x = .returned (.tuple #[]) ∧ Rdr b r.done w' ∧ Only b w w' := by
  obtain ⟨l, f⟩ := r
  obtain ⟨a, c, -, h1, h2⟩ := h.ex
  have c0 : w.cell? ⟨b, 0, none⟩ = some (.slice a l.length c) := h1.cell 0
  have c1 : w.cell? ⟨b, 1, none⟩ = some (.int .i64 f) := h1.cell 1
  by_cases hf : f = 0
  · subst hf
    by_cases hl : l = []
    · have hd : Rd.done ⟨l, 0⟩ = ⟨l, 0⟩ := by unfold Rd.done; simp [hl]
      rw [hd]
      subst hl
      simp only [List.length_nil] at c0
      have G := Lib.hid h
      clear h h1 h2 hd
      go_enter Tryd.func43, Tryd.ntmps43
      go_wp2_with fail
      go_end0
      exact ⟨rfl, G.out, Touch.refl _ _⟩
    · have hd : Rd.done ⟨l, 0⟩ = Rd.fail ⟨l, 0⟩ 4 := by unfold Rd.done; simp [hl]
      rw [hd]
      have hll := List.length_pos_iff.2 hl
      have hlI : decide ((0 : Int) < (l.length : Int)) = true := by simp; omega
      have HF := Lib.hid (fail_any b ⟨l, 0⟩ 4 w h)
      clear h h1 h2 hd hl
      generalize Rd.fail ⟨l, 0⟩ 4 = q at *
      generalize l.length = n at *
      go_enter Tryd.func43, Tryd.ntmps43
      go_wp2_with fail
      refine HF.out.mono ?_
      rintro e w2 ⟨rfl, g1, g2⟩
      have G1 := Lib.hid g1
      have G2 := Lib.hid g2
      clear g1 g2 HF
      go_wp2_with fail
      go_end0
      exact ⟨rfl, G1.out, G2.out⟩
  · have hd : Rd.done ⟨l, f⟩ = ⟨l, f⟩ := by unfold Rd.done; simp [hf]
    rw [hd]
    have hf0 : (f == 0) = false := by simpa using hf
    have G := Lib.hid h
    clear h h1 h2 hd hf
    go_enter Tryd.func43, Tryd.ntmps43
    go_wp2_with fail
    go_end0
    exact ⟨rfl, G.out, Touch.refl _ _⟩
end Go.Proofs.YtdbdhpjjndhjiaaDoor
