/- The walk of MoveOrder. -/
import Derived.Test.YtndclmjpjcilmaaDoorMoveW
import Derived.Test.YtndclmjpjcilmaaDoorOpLaw
set_option linter.unusedSimpArgs false
namespace Go.Proofs.YtndclmjpjcilmaaDoor
open Go.RowKit

theorem RdS.lt {A : Nat → Prop} {w : World} {l : Op} {a : Option Addr} {n c : Nat} (hr : RdS A w l a n c) : RdS (· < w.heap.size) w l a n c := by
  obtain ⟨h1, h2, h3, h4, h6⟩ := hr
  refine ⟨h1, h2, h3, h4, fun hn => ?_⟩
  obtain ⟨b, off, e, _, hlt, h⟩ := h6 hn
  exact ⟨b, off, e, hlt, hlt, fun i x hx => h i x hx⟩

set_option maxRecDepth 100000 in
set_option maxHeartbeats 3000000 in
theorem moveOrder_walk (w : World) (hg : Good w) (s : Str) (hs : s.size ≤ maxLen) (a : Option Addr) (n c : Nat) (l : List Raw) (hr : RdS (· < w.heap.size) w l a n c) (x y : Int) (hx : I64 x) (hy : I64 y) (push : Bool) :
    Calls Tryd.prog 7 #[.string s, .slice a n c, .int .i64 x, .int .i64 y, .bool push] w fun e w' => e = .returned (.bool true) ∧ Below w.heap.size w w' := by
  have HL := Lib.hid (letters_any s 30 w hs (by omega))
  have hT : (letters s 30).size ≤ 70368744177664 := by have := letters_size s 30; omega
  have HR := Lib.hid (fun W => runes_any (letters s 30) W hT)
  have hR : 0 ≤ rc (letters s 30) ∧ rc (letters s 30) ≤ 30 := by rw [letters_rc]; omega
  clear hT hs
  generalize letters s 30 = T at *
  generalize rc T = R at *
  have hop := opOf_good texts_letters R hR.1 (by omega) l
  have HOp := Lib.hid (fun W (hb : Below w.heap.size w W) => mkOp_any (· < w.heap.size) R l a n c W (fun b h => Nat.lt_of_lt_of_le h hb.size) (hr.below (fun _ h => h) hb) hR.1 (by omega))
  clear hr
  have hop2 : check (mkOp R l) = 0 ∧ sumF (mkOp R l) = R ∧ 0 ≤ sumT (mkOp R l) ∧ sumT (mkOp R l) ≤ R + 24 := hop
  clear hop
  generalize mkOp R l = o at *
  obtain ⟨hck, hsf, hst, hst2⟩ := hop2
  have hall := (check_zero hck).2.1
  have rx := pk_range x (R + 1) (by omega)
  have ry := pk_range y (R + 1) (by omega)
  have HX := Lib.hid (fun W => picked_any x (R + 1) W hx (by omega) (by omega))
  have HY := Lib.hid (fun W => picked_any y (R + 1) W hy (by omega) (by omega))
  clear hx hy
  generalize pk x (R + 1) = X at *
  generalize pk y (R + 1) = Y at *
  go_enter Tryd.func7, Tryd.ntmps7
  go_wp2_with fail
  refine HL.out.mono ?_
  rintro e w1 ⟨rfl, hb1⟩
  go_wp2_with fail
  refine (HR.out _).mono ?_
  rintro e w2 ⟨rfl, hb2⟩
  go_wp2_with fail
  have hB2 := hb1.trans (hb2.mono hb1.size)
  refine (HOp.out _ hB2).mono ?_
  rintro e w3 ⟨a', c', rfl, hr3, hb3⟩
  have hr3 := hr3.lt
  have Hb3 := Lib.hid (hB2.trans (hb3.mono hB2.size))
  have hin : ∀ (z : Int) (p : Bool), 0 ≤ z → z ≤ R → ∀ W, Below w3.heap.size w3 W → Calls Tryd.prog 24 #[.int .i64 z, .slice a' o.length c', .bool p] W fun e w' => e = .returned (.tuple #[.int .i64 (mv p o z 0 0), .int .i64 0]) ∧ Below W.heap.size W w' := by
    intro z p h0 h1 W hb
    have := move_any (· < w3.heap.size) z o p a' o.length c' W ((hg.below' Hb3.out).below' hb) (fun b h => Nat.lt_of_lt_of_le h hb.size) (hr3.below (fun _ h => h) hb) (by unfold I64; omega) hck
    rw [if_neg (by omega), if_neg (by omega)] at this
    exact this
  have hout : ∀ (p : Bool), ∀ W, Below w3.heap.size w3 W → Calls Tryd.prog 24 #[.int .i64 (R + 1), .slice a' o.length c', .bool p] W fun e w' => e = .returned (.tuple #[.int .i64 0, .int .i64 2]) ∧ Below W.heap.size W w' := by
    intro p W hb
    have := move_any (· < w3.heap.size) (R + 1) o p a' o.length c' W ((hg.below' Hb3.out).below' hb) (fun b h => Nat.lt_of_lt_of_le h hb.size) (hr3.below (fun _ h => h) hb) (by unfold I64; omega) hck
    rw [if_pos (by omega), if_pos (by omega)] at this
    exact this
  have HLen := Lib.hid (fun W (hb : Below w3.heap.size w3 W) => lengths_any (· < w3.heap.size) o a' o.length c' W (hr3.below (fun _ h => h) hb) (check_small hck))
  clear hr3 hB2 hb1 hb2 hb3 HL HR HOp
  go_wp2_with fail
  refine (HX.out _).mono ?_
  rintro e w4 ⟨rfl, rfl⟩
  go_wp2_with fail
  refine (HY.out _).mono ?_
  rintro e w4 ⟨rfl, rfl⟩
  clear HX HY
  by_cases hgt : Y < X
  · have d : decide (Y < X) = true := by simpa using hgt
    have hXY : Y ≤ X := by omega
    have hMX := hin Y push (by omega) (by omega)
    have hMY := hin X push (by omega) (by omega)
    have hMW := hin Y true (by omega) (by omega)
    have hb1 := (mv_bound push o hall Y 0 0 (by omega)).1
    have hb2 := mv_mono push o hall Y X 0 0 (by omega) hXY
    have hb3 := (mv_bound push o hall X 0 0 (by omega)).2
    have hb4 := mv_push push o hall Y 0 0 (by omega)
    have HMX := Lib.hid hMX
    have HMY := Lib.hid hMY
    have HMW := Lib.hid hMW
    have HMR := Lib.hid (hout push)
    clear hMX hMY hMW hin hout
    generalize mv push o Y 0 0 = U at *
    generalize mv push o X 0 0 = V at *
    generalize mv true o Y 0 0 = Z at *
    generalize sumT o = G at *
    have e1 : decide (0 ≤ U) = true := by simp; omega
    have e2 : decide (U ≤ V) = true := by simp; omega
    have e3 : decide (V ≤ G) = true := by simp; omega
    have e4 : decide (U ≤ Z) = true := by simp; omega
    go_wp2_with fail
    refine (HMX.out _ (Below.refl _ _)).mono ?_
    rintro e w4 ⟨rfl, hC4⟩
    go_wp2_with fail
    refine (HMY.out _ hC4).mono ?_
    rintro e w5 ⟨rfl, hC5⟩
    have hC5 := hC4.trans (hC5.mono hC4.size)
    clear hC4
    go_wp2_with fail
    refine (HMW.out _ hC5).mono ?_
    rintro e w6 ⟨rfl, hC6⟩
    have hC6 := hC5.trans (hC6.mono hC5.size)
    clear hC5
    go_wp2_with fail
    refine (HMR.out _ hC6).mono ?_
    rintro e w7 ⟨rfl, hC7⟩
    have hC7 := hC6.trans (hC7.mono hC6.size)
    clear hC6
    go_wp2_with fail
    refine (HLen.out _ hC7).mono ?_
    rintro e w8 ⟨rfl, hC8⟩
    have hC8 := hC7.trans (hC8.mono hC7.size)
    have Hb8 := Lib.hid (Hb3.out.trans (hC8.mono Hb3.out.size))
    clear hC7 hC8 hb1 hb2 hb3 hb4
    go_wp2_with fail
    go_ret
    exact ⟨rfl, Hb8.out⟩
  · have d : decide (Y < X) = false := by simpa using hgt
    have hXY : X ≤ Y := by omega
    have hMX := hin X push (by omega) (by omega)
    have hMY := hin Y push (by omega) (by omega)
    have hMW := hin X true (by omega) (by omega)
    have hb1 := (mv_bound push o hall X 0 0 (by omega)).1
    have hb2 := mv_mono push o hall X Y 0 0 (by omega) hXY
    have hb3 := (mv_bound push o hall Y 0 0 (by omega)).2
    have hb4 := mv_push push o hall X 0 0 (by omega)
    have HMX := Lib.hid hMX
    have HMY := Lib.hid hMY
    have HMW := Lib.hid hMW
    have HMR := Lib.hid (hout push)
    clear hMX hMY hMW hin hout
    generalize mv push o X 0 0 = U at *
    generalize mv push o Y 0 0 = V at *
    generalize mv true o X 0 0 = Z at *
    generalize sumT o = G at *
    have e1 : decide (0 ≤ U) = true := by simp; omega
    have e2 : decide (U ≤ V) = true := by simp; omega
    have e3 : decide (V ≤ G) = true := by simp; omega
    have e4 : decide (U ≤ Z) = true := by simp; omega
    go_wp2_with fail
    refine (HMX.out _ (Below.refl _ _)).mono ?_
    rintro e w4 ⟨rfl, hC4⟩
    go_wp2_with fail
    refine (HMY.out _ hC4).mono ?_
    rintro e w5 ⟨rfl, hC5⟩
    have hC5 := hC4.trans (hC5.mono hC4.size)
    clear hC4
    go_wp2_with fail
    refine (HMW.out _ hC5).mono ?_
    rintro e w6 ⟨rfl, hC6⟩
    have hC6 := hC5.trans (hC6.mono hC5.size)
    clear hC5
    go_wp2_with fail
    refine (HMR.out _ hC6).mono ?_
    rintro e w7 ⟨rfl, hC7⟩
    have hC7 := hC6.trans (hC7.mono hC6.size)
    clear hC6
    go_wp2_with fail
    refine (HLen.out _ hC7).mono ?_
    rintro e w8 ⟨rfl, hC8⟩
    have hC8 := hC7.trans (hC8.mono hC7.size)
    have Hb8 := Lib.hid (Hb3.out.trans (hC8.mono Hb3.out.size))
    clear hC7 hC8 hb1 hb2 hb3 hb4
    go_wp2_with fail
    go_ret
    exact ⟨rfl, Hb8.out⟩
end Go.Proofs.YtndclmjpjcilmaaDoor
