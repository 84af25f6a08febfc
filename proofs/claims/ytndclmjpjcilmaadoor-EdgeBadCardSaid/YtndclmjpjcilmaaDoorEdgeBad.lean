/- The walk of EdgeBad. -/
import Derived.Test.YtndclmjpjcilmaaDoorEdge
import Derived.Test.YtndclmjpjcilmaaDoorUp
import Derived.Test.YtndclmjpjcilmaaDoorReg2
set_option linter.unusedSimpArgs false
namespace Go.Proofs.YtndclmjpjcilmaaDoor
open Go.RowKit

theorem chain_two {o q : Op} (h1 : check o = 0) (h2 : check q = 0) : chainFrom none [o, q] = decide (sumF q = sumT o) := by
  rw [chain_none h1]; simp [chainFrom, h2]

theorem edgeCheck_two {o q : Op} (h1 : check o = 0) (h2 : check q = 0) (s : Int) (hs : 0 ≤ s) (hs' : s ≤ 1048576) : edgeCheck s 0 [o, q] = if 2 ≤ s ∧ sumF q = sumT o then 0 else 9 := by
  have hl : (([o, q] : List Op).length : Int) = 2 := rfl
  unfold edgeCheck
  by_cases h : edgeOdd s 0 [o, q]
  · rw [if_pos h, if_neg]
    unfold edgeOdd at h
    omega
  · rw [if_neg h, chain_two h1 h2]
    unfold edgeOdd at h
    by_cases h3 : sumF q = sumT o
    · rw [if_pos (by simpa using h3), if_pos ⟨by omega, h3⟩]
    · rw [if_neg (by simpa using h3), if_neg (fun h' => h3 h'.2)]

set_option maxRecDepth 100000 in
set_option maxHeartbeats 3000000 in
theorem edgeBad_walk (w : World) (hg : Good w) (s : Str) (hs : s.size ≤ maxLen) (a : Option Addr) (n c : Nat) (l : List Raw) (hr : RdS (· < w.heap.size) w l a n c) (sent : Int) (hse : I64 sent) (n5 : Int) (hn5 : I64 n5) :
    Calls Tryd.prog 5 #[.string s, .slice a n c, .int .i64 sent, .int .i64 n5] w fun e w' => e = .returned (.bool true) ∧ Below w.heap.size w w' := by
  have HL := Lib.hid (letters_any s 10 w hs (by omega))
  obtain ⟨s0, s1, s2, s3⟩ := letters_ok s 10 (by omega)
  have HR := Lib.hid (fun W => runes_any (letters s 10) W (by omega))
  generalize letters s 10 = S at *
  generalize rc S = K at *
  have r1 := pk_range sent 4 (by omega)
  have r2 := pk_range n5 5 (by omega)
  have HP1 := Lib.hid (fun W => picked_any sent 4 W hse (by omega) (by omega))
  have HP2 := Lib.hid (fun W => picked_any n5 5 W hn5 (by omega) (by omega))
  generalize pk sent 4 = s4 at *
  generalize pk n5 5 = p5 at *
  obtain ⟨o0, o1, o2, o3⟩ := mkOp_ok K l (by omega) (by omega)
  have HO := Lib.hid (fun W (h : RdS (· < W.heap.size) W l a n c) => mkOp_go K l a n c W h (by omega) (by omega))
  generalize mkOp K l = o at *
  obtain ⟨q0, q1, q2, q3⟩ := mkOp_ok (sumT o) [] (by omega) (by omega)
  have HQ := Lib.hid (fun W => mkOp_go (sumT o) [] none 0 0 W (RdS.none' W) (by omega) (by omega))
  generalize mkOp (sumT o) [] = q at *
  obtain ⟨z0, z1, z2, z3⟩ := mkOp_ok (sumT o + 1 + p5) [] (by omega) (by omega)
  have HZ := Lib.hid (fun W => mkOp_go (sumT o + 1 + p5) [] none 0 0 W (RdS.none' W) (by omega) (by omega))
  generalize mkOp (sumT o + 1 + p5) [] = z at *
  have HLn := Lib.hid (fun a c W h => lengths_go o a o.length c W h o0)
  have hE1 : (edgeCheck s4 0 [o, q] == 0) = decide (2 ≤ s4) := by
    rw [edgeCheck_two o0 q0 s4 (by omega) (by omega)]
    by_cases h : 2 ≤ s4
    · rw [if_pos ⟨h, q1⟩]; simp [h]
    · rw [if_neg (fun h' => h h'.1)]; simp [h]
  have hE2 : edgeCheck 2 0 [o, z] = 9 := by
    rw [edgeCheck_two o0 z0 2 (by omega) (by omega), if_neg (fun h' => by have := h'.2; omega)]
  have hE3 : edgeCheck 0 0 [] = 0 := by simp [edgeCheck, edgeOdd, chainFrom]
  have HC1 := Lib.hid (fun a W hg hr => edge_any s4 0 [o, q] a 2 2 W hg hr (by unfold I64; omega) (by unfold I64; omega))
  have HC2 := Lib.hid (fun a W hg hr => edge_any 2 0 [o, z] a 2 2 W hg hr (by unfold I64; omega) (by unfold I64; omega))
  have HC3 := Lib.hid (fun W hg => edge_any 0 0 [] none 0 0 W hg (RdS.none' W) (by unfold I64; omega) (by unfold I64; omega))
  rw [hE2] at HC2
  rw [hE3] at HC3
  generalize edgeCheck s4 0 [o, q] = E at *
  obtain ⟨d, hd⟩ : ∃ d, decide (2 ≤ s4) = d := ⟨_, rfl⟩
  rw [hd] at hE1
  clear hE2 hE3 s0 hs hse hn5 o0 o1 q0 q1 q2 q3 z0 z1 z2 z3
  generalize sumF o = x at *
  generalize sumT o = y at *
  generalize hno : o.length = no at *
  generalize hnq : q.length = nq at *
  generalize hnz : z.length = nz at *
  clear hno hnq hnz
  go_enter Tryd.func5, Tryd.ntmps5
  go_wp2_with fail
  refine HL.out.mono ?_
  rintro e w1 ⟨rfl, u1⟩
  go_wp2_with fail
  refine (HR.out _).mono ?_
  rintro e w2 ⟨rfl, u2⟩
  have v2 := up u1 u2
  go_wp2_with fail
  refine (HO.out _ (hr.go v2)).mono ?_
  rintro e w3 ⟨a3, c3, rfl, hro, u3⟩
  have v3 := up v2 u3
  clear u1 u2 u3 v2 HL HR HO
  go_wp2_with fail
  refine (HLn.out _ _ _ hro).mono ?_
  rintro e w4 ⟨rfl, u4⟩
  have v4 := up v3 u4
  have hro4 := hro.go u4
  clear hro u4 v3 HLn
  go_wp2_with fail
  refine (HP1.out _).mono ?_
  rintro e w5 ⟨rfl, rfl⟩
  go_wp2_with fail
  refine (HQ.out _).mono ?_
  rintro e w6 ⟨a6, c6, rfl, hrq, u6⟩
  have v6 := up v4 u6
  have hro6 := hro4.go u6
  clear hro4 u6 v4 HQ HP1
  go_wp2_with fail
  refine abs_run (fun W => Below w6.heap.size w6 W ∧ Blk w6.heap.size (.cells #[.slice a3 no c3, .slice a6 nq c6] 30 (0, 0)) W ∧ Blk (w6.heap.size + 1) (.cells #[.int .i64 s4, .int .i64 0, .slice (some ⟨w6.heap.size, 0, none⟩) 2 2] 42 (0, 0)) W) ⟨by (repeat (first | exact Below.refl _ _ | assumption | (refine Below.drew ?_) | (refine below_drewN ?_ _) | (refine Below.alloc ?_ (by first | (simp; done) | (simp; omega) | omega) _) | (refine Below.setCell ?_ (by first | (simp; done) | (simp; omega) | omega) _) | (refine Below.trans ?_ (Below.mono (by assumption) (by first | (simp; done) | (simp; omega) | omega))))), (Blk.new _ _).alloc _, Blk.at _ _ _ (by simp)⟩ ?_
  rintro w7 ⟨u7, b7, x7⟩
  have v7 := up v6 u7
  have hro7 := hro6.go u7
  have hrp7 := RdS.two b7 hro7 (hrq.go u7)
  clear hro6 hrq u7 v6 b7
  refine (HP2.out _).mono ?_
  rintro e w8 ⟨rfl, rfl⟩
  clear HP2
  go_wp2_with fail
  refine (HZ.out _).mono ?_
  rintro e w9 ⟨a9, c9, rfl, hrz, u9⟩
  have v9 := up v7 u9
  have hro9 := hro7.go u9
  have hrp9 := hrp7.go u9
  have x9 := x7.go u9
  clear hro7 hrp7 x7 u9 v7 HZ
  go_wp2_with fail
  refine abs_w (fun W => Below w9.heap.size w9 W ∧ Blk w9.heap.size (.cells #[.slice a3 no c3, .slice a9 nz c9] 30 (0, 0)) W ∧ Blk (w9.heap.size + 1) (.cells #[.int .i64 2, .int .i64 0, .slice (some ⟨w9.heap.size, 0, none⟩) 2 2] 42 (0, 0)) W) ⟨by (repeat (first | exact Below.refl _ _ | assumption | (refine Below.drew ?_) | (refine below_drewN ?_ _) | (refine Below.alloc ?_ (by first | (simp; done) | (simp; omega) | omega) _) | (refine Below.setCell ?_ (by first | (simp; done) | (simp; omega) | omega) _) | (refine Below.trans ?_ (Below.mono (by assumption) (by first | (simp; done) | (simp; omega) | omega))))), (Blk.new _ _).alloc _, Blk.at _ _ _ (by simp)⟩ ?_
  rintro w10 ⟨u10, b10, y10⟩
  have v10 := up v9 u10
  have hrp10 := hrp9.go u10
  have hrz10 := RdS.two b10 (hro9.go u10) (hrz.go u10)
  have x10 := x9.go u10
  have hg10 := hg.go v10
  clear hro9 hrz u10 v9 b10 hrp9 x9 hr hg
  refine region_lit2 (by kernel_rfl) (by kernel_rfl) (by kernel_rfl) [[], [0], [0, 1], [], [3], [3, 4], [0, 1, 2, 3, 4, 5], [0, 1, 2, 3, 4, 5, 6], [0, 1, 2, 3, 4, 5, 6, 7], [0, 1, 2, 3, 4, 5, 6, 7, 8], [0, 1, 2, 3, 4, 5, 6, 7, 8, 9], [0, 1, 2, 3, 4, 5, 6, 7, 8, 9, 10], [0, 1, 2, 3, 4, 5, 6, 7, 8, 9, 10, 11], [0, 1, 2, 3, 4, 5, 6, 7, 8, 9, 10, 11, 12], [0, 1, 2, 3, 4, 5, 6, 7, 8, 9, 10, 11, 12, 13], [0, 1, 2, 3, 4, 5, 6, 7, 8, 9, 10, 11, 12, 13, 14], [0, 1, 2, 3, 4, 5, 6, 7, 8, 9, 10, 11, 12, 13, 14, 15], [0, 1, 2, 3, 4, 5, 6, 7, 8, 9, 10, 11, 12, 13, 14, 15, 16]] (by kernel_rfl) [some 42, some 43, some 44, some 45, some 46, some 47, some 48, some 49, some 50, some 51, some 52, some 53, some 54, some 55, some 56, some 57, some 58, some 8] (by kernel_rfl) [false, false, false, false, false, false, false, false, false, false, false, false, false, false, false, false, false, true] (by kernel_rfl)
    (fun W => Below w10.heap.size w10 W)
    (fun i v W => match i with
      | 0 => v = .agg #[.int .i64 s4, .int .i64 0, .slice (some ⟨w6.heap.size, 0, none⟩) 2 2]
      | 1 => v = .int .i64 E
      | 2 => v = .bool d
      | 3 => v = .pointer (some ⟨w6.heap.size + 1, 0, none⟩)
      | 4 => v = .int .i64 s4
      | 5 => v = .bool d
      | 6 => v = .bool true
      | 7 => v = .bool true
      | 8 => v = .agg #[.int .i64 2, .int .i64 0, .slice (some ⟨w9.heap.size, 0, none⟩) 2 2]
      | 9 => v = .int .i64 9
      | 10 => v = .bool true
      | 11 => v = .bool true
      | 12 => v = .bool true
      | 13 => v = .agg #[.int .i64 0, .int .i64 0, .slice none 0 0]
      | 14 => v = .int .i64 0
      | 15 => v = .bool true
      | 16 => v = .bool true
      | _ => v = .bool true)
    (fun W W' => Below W.heap.size W W')
    [fun x => ⟨#[undef, undef, undef, undef, undef, undef, undef, undef, undef, undef, undef, undef, undef, .pointer (some ⟨w6.heap.size + 1, 0, none⟩), undef, undef, undef, undef, undef, undef, undef, undef, undef, undef, undef, undef, undef, undef, undef, undef, undef, undef, undef, undef, undef, undef, undef, undef, undef, undef, undef, undef, undef], []⟩,
   fun x => ⟨#[undef, undef, undef, undef, undef, undef, undef, undef, undef, undef, undef, undef, undef, undef, undef, undef, undef, undef, undef, undef, undef, undef, undef, undef, undef, undef, undef, undef, undef, undef, undef, undef, undef, undef, undef, undef, undef, undef, undef, undef, undef, undef, x 0, undef], []⟩,
   fun x => ⟨#[undef, undef, undef, undef, undef, undef, undef, undef, undef, undef, undef, undef, undef, undef, undef, undef, undef, undef, undef, undef, undef, undef, undef, undef, undef, undef, undef, undef, undef, undef, undef, undef, undef, undef, undef, undef, undef, undef, undef, undef, undef, undef, undef, x 1, undef], []⟩,
   fun x => ⟨#[undef, undef, undef, undef, undef, undef, undef, undef, undef, undef, undef, undef, undef, .pointer (some ⟨w6.heap.size + 1, 0, none⟩), undef, undef, undef, undef, undef, undef, undef, undef, undef, undef, undef, undef, undef, undef, undef, undef, undef, undef, undef, undef, undef, undef, undef, undef, undef, undef, undef, undef, undef, undef, undef, undef], []⟩,
   fun x => ⟨#[undef, undef, undef, undef, undef, undef, undef, undef, undef, undef, undef, undef, undef, undef, undef, undef, undef, undef, undef, undef, undef, undef, undef, undef, undef, undef, undef, undef, undef, undef, undef, undef, undef, undef, undef, undef, undef, undef, undef, undef, undef, undef, undef, undef, undef, x 3, undef], []⟩,
   fun x => ⟨#[undef, undef, undef, undef, undef, undef, undef, undef, undef, undef, undef, undef, undef, undef, undef, undef, undef, undef, undef, undef, undef, undef, undef, undef, undef, undef, undef, undef, undef, undef, undef, undef, undef, undef, undef, undef, undef, undef, undef, undef, undef, undef, undef, undef, undef, undef, x 4, undef], []⟩,
   fun x => ⟨#[undef, undef, undef, undef, undef, undef, undef, undef, undef, undef, undef, undef, undef, undef, undef, undef, undef, undef, undef, undef, undef, undef, undef, undef, undef, undef, undef, undef, undef, undef, undef, undef, undef, undef, undef, undef, undef, undef, undef, undef, undef, undef, undef, undef, x 2, undef, undef, x 5, undef], []⟩,
   fun x => ⟨#[undef, undef, undef, undef, undef, undef, undef, undef, undef, undef, undef, undef, undef, undef, undef, undef, undef, undef, undef, undef, undef, undef, undef, undef, undef, undef, undef, undef, undef, undef, undef, undef, undef, undef, undef, undef, undef, undef, undef, undef, undef, undef, undef, undef, undef, undef, undef, undef, x 6, undef], []⟩,
   fun x => ⟨#[undef, undef, undef, undef, undef, undef, undef, undef, undef, undef, undef, undef, undef, undef, .pointer (some ⟨w9.heap.size + 1, 0, none⟩), undef, undef, undef, undef, undef, undef, undef, undef, undef, undef, undef, undef, undef, undef, undef, undef, undef, undef, undef, undef, undef, undef, undef, undef, undef, undef, undef, undef, undef, undef, undef, undef, undef, undef, x 7, undef], []⟩,
   fun x => ⟨#[undef, undef, undef, undef, undef, undef, undef, undef, undef, undef, undef, undef, undef, undef, undef, undef, undef, undef, undef, undef, undef, undef, undef, undef, undef, undef, undef, undef, undef, undef, undef, undef, undef, undef, undef, undef, undef, undef, undef, undef, undef, undef, undef, undef, undef, undef, undef, undef, undef, x 7, x 8, undef], []⟩,
   fun x => ⟨#[undef, undef, undef, undef, undef, undef, undef, undef, undef, undef, undef, undef, undef, undef, undef, undef, undef, undef, undef, undef, undef, undef, undef, undef, undef, undef, undef, undef, undef, undef, undef, undef, undef, undef, undef, undef, undef, undef, undef, undef, undef, undef, undef, undef, undef, undef, undef, undef, undef, x 7, undef, x 9, undef], []⟩,
   fun x => ⟨#[undef, undef, undef, undef, undef, undef, undef, undef, undef, undef, undef, undef, undef, undef, undef, undef, undef, undef, undef, undef, undef, undef, undef, undef, undef, undef, undef, undef, undef, undef, undef, undef, undef, undef, undef, undef, undef, undef, undef, undef, undef, undef, undef, undef, undef, undef, undef, undef, undef, x 7, undef, undef, x 10, undef], []⟩,
   fun x => ⟨#[undef, undef, undef, undef, undef, undef, undef, undef, undef, undef, undef, undef, undef, undef, undef, undef, undef, undef, undef, undef, undef, undef, undef, undef, undef, undef, undef, undef, undef, undef, undef, undef, undef, undef, undef, undef, undef, undef, undef, undef, undef, undef, undef, undef, undef, undef, undef, undef, undef, undef, undef, undef, undef, x 11, undef], []⟩,
   fun x => ⟨#[undef, undef, undef, undef, undef, undef, undef, undef, undef, undef, undef, undef, undef, undef, undef, undef, undef, undef, undef, undef, undef, undef, undef, undef, undef, undef, undef, undef, undef, undef, undef, undef, undef, undef, undef, undef, undef, undef, undef, undef, undef, undef, undef, undef, undef, undef, undef, undef, undef, undef, undef, undef, undef, undef, x 12, undef], []⟩,
   fun x => ⟨#[undef, undef, undef, undef, undef, undef, undef, undef, undef, undef, undef, undef, undef, undef, undef, undef, undef, undef, undef, undef, undef, undef, undef, undef, undef, undef, undef, undef, undef, undef, undef, undef, undef, undef, undef, undef, undef, undef, undef, undef, undef, undef, undef, undef, undef, undef, undef, undef, undef, undef, undef, undef, undef, undef, x 12, x 13, undef], []⟩,
   fun x => ⟨#[undef, undef, undef, undef, undef, undef, undef, undef, undef, undef, undef, undef, undef, undef, undef, undef, undef, undef, undef, undef, undef, undef, undef, undef, undef, undef, undef, undef, undef, undef, undef, undef, undef, undef, undef, undef, undef, undef, undef, undef, undef, undef, undef, undef, undef, undef, undef, undef, undef, undef, undef, undef, undef, undef, x 12, undef, x 14, undef], []⟩,
   fun x => ⟨#[undef, undef, undef, undef, undef, undef, undef, undef, undef, undef, undef, undef, undef, undef, undef, undef, undef, undef, undef, undef, undef, undef, undef, undef, undef, undef, undef, undef, undef, undef, undef, undef, undef, undef, undef, undef, undef, undef, undef, undef, undef, undef, undef, undef, undef, undef, undef, undef, undef, undef, undef, undef, undef, undef, x 12, undef, undef, x 15, undef], []⟩,
   fun x => ⟨#[undef, undef, undef, undef, undef, undef, undef, undef, undef, undef, undef, undef, undef, undef, undef, undef, undef, undef, undef, undef, undef, undef, undef, undef, undef, undef, undef, undef, undef, undef, undef, undef, undef, undef, undef, undef, undef, undef, undef, undef, undef, undef, undef, undef, undef, undef, undef, undef, undef, undef, undef, undef, undef, undef, undef, undef, undef, undef, x 16], []⟩]
    ?hF ?mono ?h0 ?step ?fin
  case hF =>
    exact ⟨fun x => ⟨by kernel_rfl, by kernel_rfl⟩, fun x => ⟨by kernel_rfl, by kernel_rfl⟩, fun x => ⟨by kernel_rfl, by kernel_rfl⟩, fun x => ⟨by kernel_rfl, by kernel_rfl⟩, fun x => ⟨by kernel_rfl, by kernel_rfl⟩, fun x => ⟨by kernel_rfl, by kernel_rfl⟩, fun x => ⟨by kernel_rfl, by kernel_rfl⟩, fun x => ⟨by kernel_rfl, by kernel_rfl⟩, fun x => ⟨by kernel_rfl, by kernel_rfl⟩, fun x => ⟨by kernel_rfl, by kernel_rfl⟩, fun x => ⟨by kernel_rfl, by kernel_rfl⟩, fun x => ⟨by kernel_rfl, by kernel_rfl⟩, fun x => ⟨by kernel_rfl, by kernel_rfl⟩, fun x => ⟨by kernel_rfl, by kernel_rfl⟩, fun x => ⟨by kernel_rfl, by kernel_rfl⟩, fun x => ⟨by kernel_rfl, by kernel_rfl⟩, fun x => ⟨by kernel_rfl, by kernel_rfl⟩, fun x => ⟨by kernel_rfl, by kernel_rfl⟩, trivial⟩
  case mono =>
    intro i hi v W W' hE hv
    match i, hi with
    | 0, _ | 1, _ | 2, _ | 3, _ | 4, _ | 5, _ | 6, _ | 7, _ | 8, _ | 9, _ | 10, _ | 11, _ | 12, _ | 13, _ | 14, _ | 15, _ | 16, _ => exact hv
    | m + 17, h => exact absurd h (by cases m <;> simp)
  case h0 => first | exact (Below.refl _ _).drew | exact Below.drew (by assumption) | (refine Below.drew ?_; assumption)
  case step =>
    refine ⟨?_, ?_, ?_, ?_, ?_, ?_, ?_, ?_, ?_, ?_, ?_, ?_, ?_, ?_, ?_, ?_, ?_, ?_, trivial⟩
    all_goals
      intro x W hI hV
      simp only [AllV, and_true] at hV
    · clear hV
      (try dsimp only)
      have xx := x10.go hI
      have c0 := xx.cell 0
      have c1 := xx.cell 1
      have c2 := xx.cell 2
      simp at c0 c1 c2
      clear xx
      have HI := Lib.hid hI
      clear hI
      go_wp2_with fail
      exact step_done rfl HI.out (Below.refl _ _) rfl
    · have u0 := hV
      clear hV
      simp only [u0]
      clear u0
      go_wp2_with fail
      refine (HC1.out _ _ (hg10.go hI) (hrp10.go hI)).mono ?_
      rintro e W' ⟨rfl, uW⟩
      have HW := Lib.hid (up hI uW)
      have HU := Lib.hid uW
      clear uW
      go_wp2_with fail
      exact step_done rfl HW.out HU.out rfl
    · obtain ⟨u0, u1⟩ := hV
      simp only [u1]
      clear u0 u1
      go_wp2_with fail
      exact step_done rfl hI (Below.refl _ _) rfl
    · clear hV
      (try dsimp only)
      go_wp2_with fail
      exact step_done rfl hI (Below.refl _ _) rfl
    · have u3 := hV
      clear hV
      simp only [u3]
      clear u3
      have xx := x10.go hI
      have c0 := xx.cell 0
      have c1 := xx.cell 1
      have c2 := xx.cell 2
      simp at c0 c1 c2
      clear xx
      have HI := Lib.hid hI
      clear hI
      go_wp2_with fail
      exact step_done rfl HI.out (Below.refl _ _) rfl
    · obtain ⟨u3, u4⟩ := hV
      simp only [u4]
      clear u3 u4
      go_wp2_with fail
      exact step_done rfl hI (Below.refl _ _) rfl
    · obtain ⟨u0, u1, u2, u3, u4, u5⟩ := hV
      simp only [u2, u5]
      clear u0 u1 u2 u3 u4 u5
      go_wp2_with fail
      exact step_done rfl hI (Below.refl _ _) rfl
    · obtain ⟨u0, u1, u2, u3, u4, u5, u6⟩ := hV
      simp only [u6]
      clear u0 u1 u2 u3 u4 u5 u6
      go_wp2_with fail
      exact step_done rfl hI (Below.refl _ _) rfl
    · obtain ⟨u0, u1, u2, u3, u4, u5, u6, u7⟩ := hV
      simp only [u7]
      clear u0 u1 u2 u3 u4 u5 u6 u7
      have xx := y10.go hI
      have c0 := xx.cell 0
      have c1 := xx.cell 1
      have c2 := xx.cell 2
      simp at c0 c1 c2
      clear xx
      have HI := Lib.hid hI
      clear hI
      go_wp2_with fail
      exact step_done rfl HI.out (Below.refl _ _) rfl
    · obtain ⟨u0, u1, u2, u3, u4, u5, u6, u7, u8⟩ := hV
      simp only [u7, u8]
      clear u0 u1 u2 u3 u4 u5 u6 u7 u8
      go_wp2_with fail
      refine (HC2.out _ _ (hg10.go hI) (hrz10.go hI)).mono ?_
      rintro e W' ⟨rfl, uW⟩
      have HW := Lib.hid (up hI uW)
      have HU := Lib.hid uW
      clear uW
      go_wp2_with fail
      exact step_done rfl HW.out HU.out rfl
    · obtain ⟨u0, u1, u2, u3, u4, u5, u6, u7, u8, u9⟩ := hV
      simp only [u7, u9]
      clear u0 u1 u2 u3 u4 u5 u6 u7 u8 u9
      go_wp2_with fail
      exact step_done rfl hI (Below.refl _ _) rfl
    · obtain ⟨u0, u1, u2, u3, u4, u5, u6, u7, u8, u9, u10⟩ := hV
      simp only [u7, u10]
      clear u0 u1 u2 u3 u4 u5 u6 u7 u8 u9 u10
      go_wp2_with fail
      exact step_done rfl hI (Below.refl _ _) rfl
    · obtain ⟨u0, u1, u2, u3, u4, u5, u6, u7, u8, u9, u10, u11⟩ := hV
      simp only [u11]
      clear u0 u1 u2 u3 u4 u5 u6 u7 u8 u9 u10 u11
      go_wp2_with fail
      exact step_done rfl hI (Below.refl _ _) rfl
    · obtain ⟨u0, u1, u2, u3, u4, u5, u6, u7, u8, u9, u10, u11, u12⟩ := hV
      simp only [u12]
      clear u0 u1 u2 u3 u4 u5 u6 u7 u8 u9 u10 u11 u12
      go_wp2_with fail
      exact step_done rfl hI (Below.refl _ _) rfl
    · obtain ⟨u0, u1, u2, u3, u4, u5, u6, u7, u8, u9, u10, u11, u12, u13⟩ := hV
      simp only [u12, u13]
      clear u0 u1 u2 u3 u4 u5 u6 u7 u8 u9 u10 u11 u12 u13
      go_wp2_with fail
      refine (HC3.out _ (hg10.go hI)).mono ?_
      rintro e W' ⟨rfl, uW⟩
      have HW := Lib.hid (up hI uW)
      have HU := Lib.hid uW
      clear uW
      go_wp2_with fail
      exact step_done rfl HW.out HU.out rfl
    · obtain ⟨u0, u1, u2, u3, u4, u5, u6, u7, u8, u9, u10, u11, u12, u13, u14⟩ := hV
      simp only [u12, u14]
      clear u0 u1 u2 u3 u4 u5 u6 u7 u8 u9 u10 u11 u12 u13 u14
      go_wp2_with fail
      exact step_done rfl hI (Below.refl _ _) rfl
    · obtain ⟨u0, u1, u2, u3, u4, u5, u6, u7, u8, u9, u10, u11, u12, u13, u14, u15⟩ := hV
      simp only [u12, u15]
      clear u0 u1 u2 u3 u4 u5 u6 u7 u8 u9 u10 u11 u12 u13 u14 u15
      go_wp2_with fail
      exact step_done rfl hI (Below.refl _ _) rfl
    · obtain ⟨u0, u1, u2, u3, u4, u5, u6, u7, u8, u9, u10, u11, u12, u13, u14, u15, u16⟩ := hV
      simp only [u16]
      clear u0 u1 u2 u3 u4 u5 u6 u7 u8 u9 u10 u11 u12 u13 u14 u15 u16
      go_wp2_with fail
      exact step_done rfl hI (Below.refl _ _) rfl
  case fin =>
    intro x W hI hV
    simp only [AllV, and_true, List.length_cons, List.length_nil, List.range, List.range.loop] at hV
    obtain ⟨u0, u1, u2, u3, u4, u5, u6, u7, u8, u9, u10, u11, u12, u13, u14, u15, u16, u17⟩ := hV
    simp only [getsD, List.getD_cons_succ, List.getD_cons_zero, List.length_cons, List.length_nil, List.range, List.range.loop, u0, u1, u2, u3, u4, u5, u6, u7, u8, u9, u10, u11, u12, u13, u14, u15, u16, u17, Act.put, List.setIfInBounds_toArray, List.set_cons_succ, List.set_cons_zero]
    clear u0 u1 u2 u3 u4 u5 u6 u7 u8 u9 u10 u11 u12 u13 u14 u15 u16 u17
    have HF := Lib.hid (up v10 hI)
    go_wp2_with fail
    go_ret
    exact ⟨rfl, HF.out⟩
end Go.Proofs.YtndclmjpjcilmaaDoor
