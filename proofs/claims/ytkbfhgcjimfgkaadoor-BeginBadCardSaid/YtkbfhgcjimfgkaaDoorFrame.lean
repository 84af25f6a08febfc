/- The walks of wire.number and wire.CheckFrame. -/
import Derived.Test.YtkbfhgcjimfgkaaDoorText2
import Derived.Test.YtkbfhgcjimfgkaaDoorBag
set_option linter.unusedVariables false
set_option linter.unusedSimpArgs false
namespace Go.Proofs.YtkbfhgcjimfgkaaDoor
open Go.RowKit

def num (x : Int) : Bool := decide (0 ≤ x) && decide (x ≤ 1048576)
theorem number_any (x : Int) (w : World) (_ : I64 x) :
    Calls Tryd.prog 63 #[.int .i64 x] w fun e w' => e = .returned (.bool (num x)) ∧ w = w' := by
  unfold num
  by_cases h0 : 0 ≤ x
  · by_cases h1 : x ≤ 1048576
    · have d0 : decide (0 ≤ x) = true := by simpa using h0
      have d1 : decide (x ≤ 1048576) = true := by simpa using h1
      go_enter Tryd.func63, Tryd.ntmps63
      go_wp2_with fail
      go_ret
      exact ⟨by simp [d0, d1], rfl⟩
    · have d0 : decide (0 ≤ x) = true := by simpa using h0
      have d1 : decide (x ≤ 1048576) = false := by simpa using h1
      go_enter Tryd.func63, Tryd.ntmps63
      go_wp2_with fail
      go_ret
      exact ⟨by simp [d0, d1], rfl⟩
  · have d0 : decide (0 ≤ x) = false := by simpa using h0
    go_enter Tryd.func63, Tryd.ntmps63
    go_wp2_with fail
    go_ret
    exact ⟨by simp [d0], rfl⟩

def frameOdd (k h e : Int) (n : Nat) (t : Str) : Bool := ((k == 1) == decide (0 < e)) || (!(k == 1) && decide (0 < n)) || ((k == 3) && decide (0 < h)) || (!(k == 3) && !(emptyS t))
def checkFrame (k h e : Int) (o : Op) (t : Str) : Int :=
  if k < 1 ∨ 3 < k then 3 else if num h = false ∨ num e = false then 2 else if check o ≠ 0 then check o else if checkText t ≠ 0 then checkText t else if frameOdd k h e o.length t = true then 4 else 0

set_option maxRecDepth 100000 in
set_option maxHeartbeats 2000000 in
theorem checkFrame_any (A : Nat → Prop) (k h e : Int) (o : Op) (t : Str) (a : Option Addr) (n c : Nat) (w : World) (hg : Good w) (hA : ∀ b, A b → b < w.heap.size) (hr : RdS A w o a n c) (hk : I64 k) (hh : I64 h) (he : I64 e) (ht : t.size ≤ strMax) :
    Calls Tryd.prog 65 #[.agg #[.int .i64 k, .int .i64 h, .int .i64 e, .slice a n c, .string t]] w fun ee w' => ee = .returned (.int .i64 (checkFrame k h e o t)) ∧ Below w.heap.size w w' := by
  have hn : o.length = n := hr.1.symm
  have hn2 : n ≤ maxLen := Nat.le_trans hr.2.1 hr.2.2.1
  unfold maxLen at hn2
  generalize hu : checkFrame k h e o t = u
  unfold checkFrame at hu
  rw [hn] at hu
  have HC := Lib.hid (fun W (hb : Below w.heap.size w W) => check_any A o a n c W (hg.below' hb) (fun b hb' => Nat.lt_of_lt_of_le (hA b hb') hb.size) (hr.below hA hb))
  have HT := Lib.hid (fun W (hb : Below w.heap.size w W) => checkText_any t W (hg.below' hb) ht)
  have HH := Lib.hid (fun W => number_any h W hh)
  have HE := Lib.hid (fun W => number_any e W he)
  clear hr hn ht
  unfold I64 at hk hh he
  generalize check o = co at *
  generalize checkText t = ct at *
  generalize num h = nh at *
  generalize num e = ne at *
  have Hu := Lib.hid hu
  clear hu
  by_cases k1 : k < 1
  · have d : decide (k < 1) = true := by simpa using k1
    have hu := Hu.out
    rw [if_pos (.inl k1)] at hu
    subst hu
    clear Hu
    go_enter Tryd.func65, Tryd.ntmps65
    go_wp2_with fail
    go_ret
    exact ⟨rfl, by (repeat (first | exact Below.refl _ _ | assumption | (refine Below.drew ?_) | (refine below_drewN ?_ _) | (refine Below.alloc ?_ (by first | (simp; done) | (simp; omega) | omega) _) | (refine Below.setCell ?_ (by first | (simp; done) | (simp; omega) | omega) _) | (refine Below.trans ?_ (Below.mono (by assumption) (by first | (simp; done) | (simp; omega) | omega)))))⟩
  by_cases k3 : 3 < k
  · have d : decide (k < 1) = false := by simpa using k1
    have d3 : decide (3 < k) = true := by simpa using k3
    have hu := Hu.out
    rw [if_pos (.inr k3)] at hu
    subst hu
    clear Hu
    go_enter Tryd.func65, Tryd.ntmps65
    go_wp2_with fail
    go_ret
    exact ⟨rfl, by (repeat (first | exact Below.refl _ _ | assumption | (refine Below.drew ?_) | (refine below_drewN ?_ _) | (refine Below.alloc ?_ (by first | (simp; done) | (simp; omega) | omega) _) | (refine Below.setCell ?_ (by first | (simp; done) | (simp; omega) | omega) _) | (refine Below.trans ?_ (Below.mono (by assumption) (by first | (simp; done) | (simp; omega) | omega)))))⟩
  have d : decide (k < 1) = false := by simpa using k1
  have d3 : decide (3 < k) = false := by simpa using k3
  have hu := Hu.out
  rw [if_neg (by omega)] at hu
  clear Hu
  have Hu := Lib.hid hu
  clear hu
  go_enter Tryd.func65, Tryd.ntmps65
  go_wp2_with fail
  refine (HH.out _).mono ?_
  rintro ee w1 ⟨rfl, rfl⟩
  cases nh with
  | false =>
    have hu := Hu.out
    rw [if_pos (.inl rfl)] at hu
    subst hu
    clear Hu
    go_wp2_with fail
    go_ret
    exact ⟨rfl, by (repeat (first | exact Below.refl _ _ | assumption | (refine Below.drew ?_) | (refine below_drewN ?_ _) | (refine Below.alloc ?_ (by first | (simp; done) | (simp; omega) | omega) _) | (refine Below.setCell ?_ (by first | (simp; done) | (simp; omega) | omega) _) | (refine Below.trans ?_ (Below.mono (by assumption) (by first | (simp; done) | (simp; omega) | omega)))))⟩
  | true =>
  go_wp2_with fail
  refine (HE.out _).mono ?_
  rintro ee w1 ⟨rfl, rfl⟩
  cases ne with
  | false =>
    have hu := Hu.out
    rw [if_pos (.inr rfl)] at hu
    subst hu
    clear Hu
    go_wp2_with fail
    go_ret
    exact ⟨rfl, by (repeat (first | exact Below.refl _ _ | assumption | (refine Below.drew ?_) | (refine below_drewN ?_ _) | (refine Below.alloc ?_ (by first | (simp; done) | (simp; omega) | omega) _) | (refine Below.setCell ?_ (by first | (simp; done) | (simp; omega) | omega) _) | (refine Below.trans ?_ (Below.mono (by assumption) (by first | (simp; done) | (simp; omega) | omega)))))⟩
  | true =>
  have hu := Hu.out
  rw [if_neg (by simp)] at hu
  clear Hu
  go_wp2_with fail
  refine (HC.out _ (by (repeat (first | exact Below.refl _ _ | assumption | (refine Below.drew ?_) | (refine below_drewN ?_ _) | (refine Below.alloc ?_ (by first | (simp; done) | (simp; omega) | omega) _) | (refine Below.setCell ?_ (by first | (simp; done) | (simp; omega) | omega) _) | (refine Below.trans ?_ (Below.mono (by assumption) (by first | (simp; done) | (simp; omega) | omega))))))).mono ?_
  rintro ee w1 ⟨rfl, hb1⟩
  obtain ⟨hc1, hf1⟩ := bcell hb1
  have hB1 : Below w.heap.size w w1 := by (repeat (first | exact Below.refl _ _ | assumption | (refine Below.drew ?_) | (refine below_drewN ?_ _) | (refine Below.alloc ?_ (by first | (simp; done) | (simp; omega) | omega) _) | (refine Below.setCell ?_ (by first | (simp; done) | (simp; omega) | omega) _) | (refine Below.trans ?_ (Below.mono (by assumption) (by first | (simp; done) | (simp; omega) | omega)))))
  have hz1 : w.heap.size + 1 ≤ w1.heap.size := by have := hb1.size; simpa using this
  by_cases hco : co = 0
  case neg =>
    rw [if_pos hco] at hu
    subst hu
    have d4 : (co != 0) = true := by simpa using hco
    clear hco
    go_wp2_with fail
    go_ret
    exact ⟨rfl, by (repeat (first | exact Below.refl _ _ | assumption | (refine Below.drew ?_) | (refine below_drewN ?_ _) | (refine Below.alloc ?_ (by first | (simp; done) | (simp; omega) | omega) _) | (refine Below.setCell ?_ (by first | (simp; done) | (simp; omega) | omega) _) | (refine Below.trans ?_ (Below.mono (by assumption) (by first | (simp; done) | (simp; omega) | omega)))))⟩
  subst hco
  rw [if_neg (by simp)] at hu
  go_wp2_with fail
  refine (HT.out _ (by (repeat (first | exact Below.refl _ _ | assumption | (refine Below.drew ?_) | (refine below_drewN ?_ _) | (refine Below.alloc ?_ (by first | (simp; done) | (simp; omega) | omega) _) | (refine Below.setCell ?_ (by first | (simp; done) | (simp; omega) | omega) _) | (refine Below.trans ?_ (Below.mono (by assumption) (by first | (simp; done) | (simp; omega) | omega))))))).mono ?_
  rintro ee w2 ⟨rfl, hb2⟩
  obtain ⟨hc2, hf2⟩ := bcell hb2
  have hB2 := hB1.trans (hb2.mono hB1.size)
  by_cases hct : ct = 0
  case neg =>
    rw [if_pos hct] at hu
    subst hu
    have d4 : (ct != 0) = true := by simpa using hct
    clear hct
    go_wp2_with fail
    go_ret
    exact ⟨rfl, hB2⟩
  subst hct
  rw [if_neg (by simp)] at hu
  have Hu := Lib.hid hu
  clear hu
  have hrow : w2.heap[w.heap.size]? = some (.cells #[.int .i64 k, .int .i64 h, .int .i64 e, .slice a n c, .string t] 44 (0, 0)) :=
    (hb2.block _ (by omega)).trans ((hb1.block _ (by simp)).trans (heap_new_at _ _ _ rfl))
  have q0 : w2.cell? ⟨w.heap.size, 0, none⟩ = some (.int .i64 k) := by rw [cell_of_row _ _ _ _ _ _ hrow]; rfl
  have q1 : w2.cell? ⟨w.heap.size, 1, none⟩ = some (.int .i64 h) := by rw [cell_of_row _ _ _ _ _ _ hrow]; rfl
  have q2 : w2.cell? ⟨w.heap.size, 2, none⟩ = some (.int .i64 e) := by rw [cell_of_row _ _ _ _ _ _ hrow]; rfl
  have q3 : w2.cell? ⟨w.heap.size, 3, none⟩ = some (.slice a n c) := by rw [cell_of_row _ _ _ _ _ _ hrow]; rfl
  have q4 : w2.cell? ⟨w.heap.size, 4, none⟩ = some (.string t) := by rw [cell_of_row _ _ _ _ _ _ hrow]; rfl
  clear hrow hc1 hf1 hc2 hf2 hb1
  have Hb2 := Lib.hid hB2
  clear hb2
  clear hB2 hB1 HC HT HH HE hk hh he
  have hk3 : k = 1 ∨ k = 2 ∨ k = 3 := by omega
  clear k1 k3 d d3

  rcases hk3 with rfl | rfl | rfl
  · by_cases de : 0 < e
    · have d5 : decide (0 < e) = true := by simpa using de
      have hu := Hu.out
      rw [show frameOdd 1 h e n t = true by simp [frameOdd, *]] at hu
      rw [if_pos rfl] at hu
      subst hu
      clear Hu
      go_wp2_with fail
      go_ret
      exact ⟨rfl, Hb2.out⟩
    · have d5 : decide (0 < e) = false := by simpa using de
      cases em : emptyS t with
      | true =>
        have d6 : t.toList.isEmpty = true := em
        have hu := Hu.out
        rw [show frameOdd 1 h e n t = false by simp [frameOdd, *]] at hu
        rw [if_neg (by decide)] at hu
        subst hu
        clear Hu
        go_wp2_with fail
        go_ret
        exact ⟨rfl, Hb2.out⟩
      | false =>
        have d6 : t.toList.isEmpty = false := em
        have hu := Hu.out
        rw [show frameOdd 1 h e n t = true by simp [frameOdd, *]] at hu
        rw [if_pos rfl] at hu
        subst hu
        clear Hu
        go_wp2_with fail
        go_ret
        exact ⟨rfl, Hb2.out⟩
  · by_cases de : 0 < e
    · have d5 : decide (0 < e) = true := by simpa using de
      by_cases dn : 0 < n
      · have d7 : decide (0 < n) = true := by simpa using dn
        have hu := Hu.out
        rw [show frameOdd 2 h e n t = true by simp [frameOdd, *]] at hu
        rw [if_pos rfl] at hu
        subst hu
        clear Hu
        go_wp2_with fail
        go_ret
        exact ⟨rfl, Hb2.out⟩
      · have d7 : decide (0 < n) = false := by simpa using dn
        cases em : emptyS t with
        | true =>
          have d6 : t.toList.isEmpty = true := em
          have hu := Hu.out
          rw [show frameOdd 2 h e n t = false by simp [frameOdd, *]] at hu
          rw [if_neg (by decide)] at hu
          subst hu
          clear Hu
          go_wp2_with fail
          go_ret
          exact ⟨rfl, Hb2.out⟩
        | false =>
          have d6 : t.toList.isEmpty = false := em
          have hu := Hu.out
          rw [show frameOdd 2 h e n t = true by simp [frameOdd, *]] at hu
          rw [if_pos rfl] at hu
          subst hu
          clear Hu
          go_wp2_with fail
          go_ret
          exact ⟨rfl, Hb2.out⟩
    · have d5 : decide (0 < e) = false := by simpa using de
      have hu := Hu.out
      rw [show frameOdd 2 h e n t = true by simp [frameOdd, *]] at hu
      rw [if_pos rfl] at hu
      subst hu
      clear Hu
      go_wp2_with fail
      go_ret
      exact ⟨rfl, Hb2.out⟩
  · by_cases de : 0 < e
    · have d5 : decide (0 < e) = true := by simpa using de
      by_cases dn : 0 < n
      · have d7 : decide (0 < n) = true := by simpa using dn
        have hu := Hu.out
        rw [show frameOdd 3 h e n t = true by simp [frameOdd, *]] at hu
        rw [if_pos rfl] at hu
        subst hu
        clear Hu
        go_wp2_with fail
        go_ret
        exact ⟨rfl, Hb2.out⟩
      · have d7 : decide (0 < n) = false := by simpa using dn
        by_cases dh : 0 < h
        · have d8 : decide (0 < h) = true := by simpa using dh
          have hu := Hu.out
          rw [show frameOdd 3 h e n t = true by simp [frameOdd, *]] at hu
          rw [if_pos rfl] at hu
          subst hu
          clear Hu
          go_wp2_with fail
          go_ret
          exact ⟨rfl, Hb2.out⟩
        · have d8 : decide (0 < h) = false := by simpa using dh
          have hu := Hu.out
          rw [show frameOdd 3 h e n t = false by simp [frameOdd, *]] at hu
          rw [if_neg (by decide)] at hu
          subst hu
          clear Hu
          go_wp2_with fail
          go_ret
          exact ⟨rfl, Hb2.out⟩
    · have d5 : decide (0 < e) = false := by simpa using de
      have hu := Hu.out
      rw [show frameOdd 3 h e n t = true by simp [frameOdd, *]] at hu
      rw [if_pos rfl] at hu
      subst hu
      clear Hu
      go_wp2_with fail
      go_ret
      exact ⟨rfl, Hb2.out⟩
end Go.Proofs.YtkbfhgcjimfgkaaDoor
