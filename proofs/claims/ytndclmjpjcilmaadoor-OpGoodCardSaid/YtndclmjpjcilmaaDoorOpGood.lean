/- The walk of OpGood. -/
import Derived.Test.YtndclmjpjcilmaaDoorAppLaw
set_option linter.unusedSimpArgs false
namespace Go.Proofs.YtndclmjpjcilmaaDoor
open Go.RowKit

theorem x_ok (s : Str) (h : checkText s = 0) (h3 : rc s ≤ 3999) : checkText (s ++ ⟨#[120]⟩) = 0 ∧ rc (s ++ ⟨#[120]⟩) = rc s + 1 := by
  have h1 := append_valid (valid_of h).1 (show valid ⟨#[120]⟩ = true from rfl)
  have h2 : rc ⟨#[120]⟩ = 1 := rfl
  exact ⟨checkText_of h1.1 (by omega), by omega⟩

set_option maxRecDepth 100000 in
set_option maxHeartbeats 3000000 in
theorem opGood_walk (w : World) (hg : Good w) (s : Str) (hs : s.size ≤ maxLen) (a : Option Addr) (n c : Nat) (l : List Raw) (hr : RdS (· < w.heap.size) w l a n c) :
    Calls Tryd.prog 8 #[.string s, .slice a n c] w fun e w' => e = .returned (.bool true) ∧ Below w.heap.size w w' := by
  have HL := Lib.hid (letters_any s 30 w hs (by omega))
  obtain ⟨t0, t1, t2, t3⟩ := letters_ok s 30 (by omega)
  generalize letters s 30 = T at *
  have hs70 : T.size ≤ 70368744177664 := by omega
  have hsM : T.size ≤ strMax := by unfold strMax; omega
  have HR := Lib.hid (fun W => runes_any T W hs70)
  obtain ⟨x0, x1⟩ := x_ok T t0 (by omega)
  have hadd : ∀ W : World, (Op.stringOp .add T ⟨#[120]⟩).run Tryd.prog W = .ok (.string (T ++ ⟨#[120]⟩)) W := fun W => run_string_add_sum W _ _ (by show T.size + 1 ≤ _; omega)
  have hxs : (T ++ ⟨#[120]⟩ : ByteArray).size ≤ 70368744177664 := by rw [size_app]; show T.size + 1 ≤ _; omega
  generalize (T ++ ⟨#[120]⟩ : ByteArray) = X at *
  obtain ⟨o0, o1, o2, o3⟩ := mkOp_ok (rc T) l t1 (by omega)
  have HOp := Lib.hid (fun W (h : RdS (· < W.heap.size) W l a n c) => mkOp_go (rc T) l a n c W h t1 (by omega))
  generalize mkOp (rc T) l = o at *
  obtain ⟨p0, -, -, p3, -, p5⟩ := apply_good t0 o0 o1
  have q0 := apply_miss x0 o0 (by omega : sumF o ≠ rc X)
  have HA := Lib.hid (fun a n c W hg hr => apply_any T o a n c W hg hr hs70)
  have HX := Lib.hid (fun a n c W hg hr => apply_any X o a n c W hg hr hxs)
  rw [p0] at HA
  rw [q0] at HX
  have hu70 : (applyS T o).size ≤ 70368744177664 := by omega
  have HU := Lib.hid (fun W => runes_any (applyS T o) W hu70)
  rw [p3] at HU
  have HT := Lib.hid (fun W hg => checkText_any T W hg hsM)
  rw [t0] at HT
  have HC := Lib.hid (fun a n c W hg hr => check_go o a n c W hg hr)
  rw [o0] at HC
  have HLn := Lib.hid (fun a n c W hr => lengths_go o a n c W hr o0)
  rw [o1] at HLn
  have e1 : (rc T == rc T) = true := by simp
  have e2 : (sumT o == sumT o) = true := by simp
  clear p0 p3 p5 q0 t0 t2 t3 x0 x1 o0 o1 o2 o3 hs70 hsM hxs hu70 hs
  generalize applyS T o = U at *
  generalize applyS X o = U2 at *
  generalize sumT o = st at *
  generalize rc T = R at *
  go_enter Tryd.func8, Tryd.ntmps8
  go_wp2_with fail
  refine HL.out.mono ?_
  rintro e w1 ⟨rfl, hb1⟩
  have hg1 := hg.below' hb1
  have hr1 := hr.go hb1
  have hB1 := hb1
  clear hr
  go_wp2_with fail
  refine (HR.out _).mono ?_
  rintro e w2 ⟨rfl, hb2⟩
  have hg2 := hg1.below' hb2
  have hr2 := hr1.go hb2
  have hB2 := hB1.trans (hb2.mono hB1.size)
  clear hr1
  go_wp2_with fail
  refine (HOp.out _ hr2).mono ?_
  rintro e w3 ⟨a', c', rfl, ho3, hb3⟩
  generalize o.length = m at *
  have hg3 := hg2.below' hb3
  have hB3 := hB2.trans (hb3.mono hB2.size)
  clear hr2 hb1 hb2 hb3 hB1 hB2 hg1 hg2 HL HOp
  go_wp2_with fail
  refine (HLn.out _ _ _ _ ho3).mono ?_
  rintro e w4 ⟨rfl, hb4⟩
  have hg4 := hg3.below' hb4
  have ho4 := ho3.go hb4
  have hB4 := hB3.trans (hb4.mono hB3.size)
  clear ho3 hb4 hB3 hg3 HLn
  go_wp2_with fail
  refine (HA.out _ _ _ _ hg4 ho4).mono ?_
  rintro e w5 ⟨rfl, hb5⟩
  have hg5 := hg4.below' hb5
  have ho5 := ho4.go hb5
  have hB5 := hB4.trans (hb5.mono hB4.size)
  clear ho4 hb5 hB4 hg4 HA
  go_wp2_with fail
  refine (HX.out _ _ _ _ hg5 ho5).mono ?_
  rintro e w6 ⟨rfl, hb6⟩
  have hg6 := hg5.below' hb6
  have ho6 := ho5.go hb6
  have hB6 := hB5.trans (hb6.mono hB5.size)
  clear ho5 hb6 hB5 hg5 HX
  go_wp2_with fail
  refine (HT.out _ hg6).mono ?_
  rintro e w7 ⟨rfl, hb7⟩
  have hg7 := hg6.below' hb7
  have ho7 := ho6.go hb7
  have hB7 := hB6.trans (hb7.mono hB6.size)
  clear ho6 hb7 hB6 hg6 HT
  go_wp2_with fail
  refine (HC.out _ _ _ _ hg7 ho7).mono ?_
  rintro e w8 ⟨rfl, hb8⟩
  have hB8 := hB7.trans (hb8.mono hB7.size)
  clear ho7 hb8 hB7 hg7 HC
  go_wp2_with fail
  refine (HR.out _).mono ?_
  rintro e w9 ⟨rfl, hb9⟩
  have hB9 := hB8.trans (hb9.mono hB8.size)
  clear hb9 hB8
  go_wp2_with fail
  refine (HU.out _).mono ?_
  rintro e w10 ⟨rfl, hb10⟩
  have hB10 := hB9.trans (hb10.mono hB9.size)
  clear hb10 hB9
  go_wp2_with fail
  go_ret
  exact ⟨rfl, hB10⟩
end Go.Proofs.YtndclmjpjcilmaaDoor
