/- The walks of (*pair).edit (printed by gen_pair.py). -/
import Derived.Test.YtkhacogeffidoaaDoorFirst
import Derived.Test.YtkhacogeffidoaaDoorSubP
set_option linter.unusedVariables false
set_option linter.unusedSimpArgs false
namespace Go.Proofs.YtkhacogeffidoaaDoor
open Go.RowKit

theorem infoFr : (Tryd.prog.info? 30).map (fun i => (i.zero, i.size, i.bytes)) = some (some (.agg #[.int .i64 0, .int .i64 0, .int .i64 0, .slice none 0 0, .string ⟨#[]⟩]), 5, 64) := by kernel_rfl

set_option maxRecDepth 100000 in
set_option maxHeartbeats 8000000 in
theorem pair_edit0 (base g : Nat) (x y : Sd) (vx vy : Value) (l : List Raw) (a : Option Addr) (n c : Nat) (w : World) (hg : Good w) (h : PairM base g x y vx vy w) (hr : RdS (· < w.heap.size) w l a n c) (hT : x.t.size ≤ 70368744177664) (r0 : 0 ≤ rc x.t) (r1 : rc x.t ≤ 3000) (hS : sendE x.s x.h x.l (mkOp (rc x.t) l) = 0) (hA : applyE x.t (mkOp (rc x.t) l) = 0) (hn : x.f.length ≤ 1000) :
    Calls Tryd.prog 37 #[.pointer (some ⟨g, 0, none⟩), .int .i64 0, .slice a n c] w fun e w' => e = .returned (.bool true) ∧ (∃ v', PairM base g ⟨applyS x.t (mkOp (rc x.t) l), x.s + 1, x.h, x.l ++ [mkOp (rc x.t) l], x.f ++ [⟨0, x.h, 0, mkOp (rc x.t) l, noText⟩]⟩ y v' vy w') ∧ Below base w w' := by
  have hc : edgeCheck x.s x.h x.l = 0 := by
    by_cases h1 : edgeCheck x.s x.h x.l = 0
    · exact h1
    · unfold sendE at hS; rw [if_pos h1] at hS; exact hS
  obtain ⟨s0, s1, h0, h1, -, -⟩ := edgeCheck_all hc
  have HR := Lib.hid (fun W => runes_any x.t W hT)
  have HO := Lib.hid (fun W (hW : Below w.heap.size w W) => mkOp_new (rc x.t) l a n c W (hr.go hW) r0 (by omega))
  have HAp := Lib.hid (fun op oa on oc W hg hr => apply_any x.t op oa on oc W hg hr hT)
  have HSd := Lib.hid (fun op oa oc al cl W (hE : sendE x.s x.h x.l op = 0) hg h1 h2 => send_ok x.s x.h x.l op al oa x.l.length cl op.length oc W hg h1 h2 (by unfold I64; omega) (by unfold I64; omega) hE)
  unfold SendPost at HSd
  have HN := Lib.hid (And.intro hS hA)
  generalize hop : mkOp (rc x.t) l = op at *
  obtain ⟨xt, xs, xh, xl, xf⟩ := x
  obtain ⟨yt, ys, yh, yl, yf⟩ := y
  simp only at *
  obtain ⟨i0, hi, hz0, hz1, hz2⟩ := info_parts infoFr
  have Hi := Lib.hid hi
  have Hz0 := Lib.hid hz0
  have Hz1 := Lib.hid hz1
  have Hz2 := Lib.hid hz2
  have Hg := Lib.hid hg
  have HM := Lib.hid h
  have hgb := h.gb
  have hgw := h.lt
  have hRo := Lib.hid hop
  clear hi hz0 hz1 hz2 hg h hr hT hS hA hc hop
  obtain ⟨ax, cx, ay, cy, bx, rx, ry⟩ := HM.out.box
  have RM := Lib.hid (rx.mono fun z hz => ⟨hz.2.1, rfl⟩ : RdS (· < w.heap.size) w xl ax xl.length cx)
  obtain ⟨c0, c1, c2, c3, c4, c5, c6, c7, c8, c9⟩ := blk10_cells bx
  have BX := Lib.hid bx
  clear bx rx ry
  go_enter Tryd.func37, Tryd.ntmps37
  go_wp2_with fail
  refine (HR.out _).mono ?_
  rintro e w1 ⟨rfl, b1⟩
  have B1 := Lib.hid b1
  clear b1 HR
  go_wp2_with fail
  refine (HO.out _ B1.out).mono ?_
  rintro e w2 ⟨oa, oc, rfl, ro, b2⟩
  have B2 := Lib.hid (up B1.out b2)
  have RO2 := Lib.hid ro
  have hz1 := B1.out.size
  clear b2 ro B1 HO c0 c1 c2 c3 c4 c5 c6 c7 c8 c9
  obtain ⟨c0, c1, c2, c3, c4, c5, c6, c7, c8, c9⟩ := blk10_cells (BX.out.go B2.out)
  go_wp2_with fail
  refine (HAp.out _ _ _ _ _ (Hg.out.below' B2.out) (RO2.out.wide fun z hz => hz.2)).mono ?_
  rw [HN.out.2]
  rintro e w3 ⟨rfl, b3⟩
  have B3 := Lib.hid (up B2.out b3)
  have RO3 := Lib.hid (RO2.out.freshB b3)
  clear b3 RO2 B2 HAp c0 c1 c2 c3 c4 c5 c6 c7 c8 c9
  obtain ⟨c0, c1, c2, c3, c4, c5, c6, c7, c8, c9⟩ := blk10_cells (BX.out.go B3.out)
  generalize hTn : applyS xt op = Tn at *
  have HTn := Lib.hid hTn
  clear hTn
  go_wp2_with fail
  refine (HSd.out _ _ _ _ _ _ HN.out.1 (Hg.out.below' B3.out) (RM.out.go B3.out) (RO3.out.wide fun z hz => hz.2)).mono ?_
  rintro e w4 ⟨v4, rfl, ho4, b4⟩
  obtain ⟨a4, c4', rfl, r4⟩ := own_rdf ho4
  have hl4 : (xl ++ [op]).length = xl.length + 1 := by simp
  rw [hl4] at r4 ⊢
  have B4 := Lib.hid (up B3.out b4)
  have RO4 := Lib.hid (RO3.out.freshB b4)
  have RL4 := Lib.hid r4
  have hz3 := B3.out.size
  clear b4 r4 ho4 hl4 RO3 B3 HSd HN c0 c1 c2 c3 c4 c5 c6 c7 c8 c9 RM
  go_wp2_with fail
  refine abs_w (fun W => Below w4.heap.size w4 W ∧ Blk w4.heap.size (.cells #[.int .i64 (xs + 1), .int .i64 xh, .slice a4 (xl.length + 1) c4'] 71 (0, 0)) W) ⟨by (repeat (first | exact Below.refl _ _ | assumption | (refine Below.drew ?_) | (refine below_drewN ?_ _) | (refine Below.alloc ?_ (by first | (simp; done) | (simp; omega) | omega) _) | (refine Below.setCell ?_ (by first | (simp; done) | (simp; omega) | omega) _) | (refine Below.trans ?_ (Below.mono (by assumption) (by first | (simp; done) | (simp; omega) | omega))))), Blk.new w4 _⟩ ?_
  rintro w5 ⟨b5, x5⟩
  have B5 := Lib.hid (up B4.out b5)
  have RO5 := Lib.hid (RO4.out.freshB b5)
  have RL5 := Lib.hid (RL4.out.freshB b5)
  have X5 := Lib.hid x5
  have M5 := Lib.hid (HM.out.go B5.out)
  have hz4 := B4.out.size
  have hz45 := x5.lt
  have BX5 := Lib.hid (BX.out.go B5.out)
  clear b5 x5 B4 RO4 RL4 BX
  obtain ⟨Vp, HV⟩ : ∃ Vp : Nat → Value → World → Prop, Hid (Vp = fun i v W => match i with
      | 0 => v = .pointer (some ⟨g, 0, none⟩)
      | 1 => v = .int .i64 0
      | 2 => v = .pointer (some ⟨g, 0, none⟩)
      | 3 => v = .int .i64 0
      | 4 => v = .string Tn
      | 5 => v = .agg #[.int .i64 (xs + 1), .int .i64 xh, .slice a4 (xl.length + 1) c4']
      | 6 => v = .pointer (some ⟨g, 0, none⟩)
      | 7 => v = .pointer (some ⟨g, 0, none⟩)
      | 8 => v = .pointer (some ⟨g, 0, none⟩)
      | 9 => v = undef
      | 10 => v = .pointer (some ⟨g, 0, none⟩)
      | 11 => v = .pointer (some ⟨g, 2, none⟩)
      | 12 => v = .pointer (some ⟨g, 2, none⟩)
      | _ => v = undef) := ⟨_, rfl⟩
  obtain ⟨Ip, HIp⟩ : ∃ Ip : (Nat → Bool) → (Nat → Value) → World → Prop, Hid (Ip = fun L x W => (Touch (fun z => z = g) w5 W ∧ Blk g (.cells #[cond (L 9) (.string Tn) (.string xt), .string yt, cond (L 13) (.int .i64 (xs + 1)) (.int .i64 xs), cond (L 13) (.int .i64 xh) (.int .i64 xh), cond (L 13) (.slice a4 (xl.length + 1) c4') (.slice ax xl.length cx), .int .i64 ys, .int .i64 yh, .slice ay yl.length cy, vx, vy] 86 (0, 0)) W)) := ⟨_, rfl⟩
  refine region_lit3 (by kernel_rfl) (by kernel_rfl) (by kernel_rfl) [[], [], [], [], [], [], [0], [0, 6], [0, 1, 6, 7], [0, 1, 4, 6, 7, 8], [2], [2, 10], [2, 3, 10, 11], [2, 3, 5, 10, 11, 12]] (by kernel_rfl) [some 43, some 44, some 45, some 46, some 47, some 48, some 49, some 50, some 51, none, some 52, some 53, some 54, none] (by kernel_rfl) [[0, 6, 7, 8, 9], [1, 8, 9], [2, 10, 11, 12, 13], [3, 12, 13], [4, 9], [5, 13], [6, 7, 8, 9], [7, 8, 9], [8, 9], [9], [10, 11, 12, 13], [11, 12, 13], [12, 13], [13]] (by kernel_rfl) [[], [], [], [], [], [], [], [], [], [], [], [], [], []] [[], [], [], [], [], [], [0], [6], [1, 7], [4, 8], [2], [10], [3, 11], [5, 12]] (by kernel_rfl)
    Ip
    Vp
    (fun j W W' => match j with
      | 9 => Touch (fun z => z = g) W W'
      | 13 => Touch (fun z => z = g) W W'
      | _ => Below W.heap.size W W')
    [fun x => ⟨#[.pointer (some ⟨g, 0, none⟩), undef, undef, undef, undef, undef, undef, undef, undef, undef, undef, undef, undef, undef, undef, undef, undef, undef, undef, undef, undef, undef, undef, undef, undef, undef, undef, undef, undef, undef, undef, undef, undef, undef, undef, undef, undef, undef, undef, undef, undef, undef, undef, undef], []⟩,
   fun x => ⟨#[undef, .int .i64 0, undef, undef, undef, undef, undef, undef, undef, undef, undef, undef, undef, undef, undef, undef, undef, undef, undef, undef, undef, undef, undef, undef, undef, undef, undef, undef, undef, undef, undef, undef, undef, undef, undef, undef, undef, undef, undef, undef, undef, undef, undef, undef, undef], []⟩,
   fun x => ⟨#[.pointer (some ⟨g, 0, none⟩), undef, undef, undef, undef, undef, undef, undef, undef, undef, undef, undef, undef, undef, undef, undef, undef, undef, undef, undef, undef, undef, undef, undef, undef, undef, undef, undef, undef, undef, undef, undef, undef, undef, undef, undef, undef, undef, undef, undef, undef, undef, undef, undef, undef, undef], []⟩,
   fun x => ⟨#[undef, .int .i64 0, undef, undef, undef, undef, undef, undef, undef, undef, undef, undef, undef, undef, undef, undef, undef, undef, undef, undef, undef, undef, undef, undef, undef, undef, undef, undef, undef, undef, undef, undef, undef, undef, undef, undef, undef, undef, undef, undef, undef, undef, undef, undef, undef, undef, undef], []⟩,
   fun x => ⟨#[undef, undef, undef, undef, undef, undef, undef, undef, .string Tn, undef, undef, undef, undef, undef, undef, undef, undef, undef, undef, undef, undef, undef, undef, undef, undef, undef, undef, undef, undef, undef, undef, undef, undef, undef, undef, undef, undef, undef, undef, undef, undef, undef, undef, undef, undef, undef, undef, undef], []⟩,
   fun x => ⟨#[undef, undef, undef, undef, undef, undef, undef, undef, undef, undef, .pointer (some ⟨w4.heap.size, 0, none⟩), undef, undef, undef, undef, undef, undef, undef, undef, undef, undef, undef, undef, undef, undef, undef, undef, undef, undef, undef, undef, undef, undef, undef, undef, undef, undef, undef, undef, undef, undef, undef, undef, undef, undef, undef, undef, undef, undef], []⟩,
   fun x => ⟨#[undef, undef, undef, undef, undef, undef, undef, undef, undef, undef, undef, undef, undef, undef, undef, undef, undef, undef, undef, undef, undef, undef, undef, undef, undef, undef, undef, undef, undef, undef, undef, undef, undef, undef, undef, undef, undef, undef, undef, undef, undef, undef, undef, x 0, undef, undef, undef, undef, undef, undef], []⟩,
   fun x => ⟨#[undef, undef, undef, undef, undef, undef, undef, undef, undef, undef, undef, undef, undef, undef, undef, undef, undef, undef, undef, undef, undef, undef, undef, undef, undef, undef, undef, undef, undef, undef, undef, undef, undef, undef, undef, undef, undef, undef, undef, undef, undef, undef, undef, undef, undef, undef, undef, undef, undef, x 6, undef], []⟩,
   fun x => ⟨#[undef, undef, undef, undef, undef, undef, undef, undef, undef, undef, undef, undef, undef, undef, undef, undef, undef, undef, undef, undef, undef, undef, undef, undef, undef, undef, undef, undef, undef, undef, undef, undef, undef, undef, undef, undef, undef, undef, undef, undef, undef, undef, undef, undef, x 1, undef, undef, undef, undef, undef, x 7, undef], []⟩,
   fun x => ⟨#[undef, undef, undef, undef, undef, undef, undef, undef, undef, undef, undef, undef, undef, undef, undef, undef, undef, undef, undef, undef, undef, undef, undef, undef, undef, undef, undef, undef, undef, undef, undef, undef, undef, undef, undef, undef, undef, undef, undef, undef, undef, undef, undef, undef, undef, undef, undef, x 4, undef, undef, undef, x 8], []⟩,
   fun x => ⟨#[undef, undef, undef, undef, undef, undef, undef, undef, undef, undef, undef, undef, undef, undef, undef, undef, undef, undef, undef, undef, undef, undef, undef, undef, undef, undef, undef, undef, undef, undef, undef, undef, undef, undef, undef, undef, undef, undef, undef, undef, undef, undef, undef, undef, undef, x 2, undef, undef, undef, undef, undef, undef, undef], []⟩,
   fun x => ⟨#[undef, undef, undef, undef, undef, undef, undef, undef, undef, undef, undef, undef, undef, undef, undef, undef, undef, undef, undef, undef, undef, undef, undef, undef, undef, undef, undef, undef, undef, undef, undef, undef, undef, undef, undef, undef, undef, undef, undef, undef, undef, undef, undef, undef, undef, undef, undef, undef, undef, undef, undef, undef, x 10, undef], []⟩,
   fun x => ⟨#[undef, undef, undef, undef, undef, undef, undef, undef, undef, undef, undef, undef, undef, undef, undef, undef, undef, undef, undef, undef, undef, undef, undef, undef, undef, undef, undef, undef, undef, undef, undef, undef, undef, undef, undef, undef, undef, undef, undef, undef, undef, undef, undef, undef, undef, undef, x 3, undef, undef, undef, undef, undef, undef, x 11, undef], []⟩,
   fun x => ⟨#[undef, undef, undef, undef, undef, undef, undef, undef, undef, undef, undef, undef, undef, undef, undef, undef, undef, undef, undef, undef, undef, undef, undef, undef, undef, undef, undef, undef, undef, undef, undef, undef, undef, undef, undef, undef, undef, undef, undef, undef, undef, undef, undef, undef, undef, undef, undef, undef, x 5, undef, undef, undef, undef, undef, x 12], []⟩]
    ?hF ?mono ?h0 ?step [0, 1, 2, 3, 4, 5, 6, 7, 8, 9, 10, 11, 12, 13] (by kernel_rfl) ?fin
  case hF =>
    exact ⟨fun x => ⟨by kernel_rfl, by kernel_rfl⟩, fun x => ⟨by kernel_rfl, by kernel_rfl⟩, fun x => ⟨by kernel_rfl, by kernel_rfl⟩, fun x => ⟨by kernel_rfl, by kernel_rfl⟩, fun x => ⟨by kernel_rfl, by kernel_rfl⟩, fun x => ⟨by kernel_rfl, by kernel_rfl⟩, fun x => ⟨by kernel_rfl, by kernel_rfl⟩, fun x => ⟨by kernel_rfl, by kernel_rfl⟩, fun x => ⟨by kernel_rfl, by kernel_rfl⟩, fun x => ⟨by kernel_rfl, by kernel_rfl⟩, fun x => ⟨by kernel_rfl, by kernel_rfl⟩, fun x => ⟨by kernel_rfl, by kernel_rfl⟩, fun x => ⟨by kernel_rfl, by kernel_rfl⟩, fun x => ⟨by kernel_rfl, by kernel_rfl⟩, trivial⟩
  case mono =>
    intro i j hi hj hne hna hnk v W W' hE hv
    rw [HV.out] at hv ⊢
    simp only [List.length_cons, List.length_nil] at hi hj
    match i, hi with
    | 0, _ | 1, _ | 2, _ | 3, _ | 4, _ | 5, _ | 6, _ | 7, _ | 8, _ | 9, _ | 10, _ | 11, _ | 12, _ | 13, _ => exact hv
    | m + 14, h => exact absurd h (by omega)
  case h0 => intro x; exact toI HIp ⟨(Touch.refl _ _).drew, BX5.out⟩
  case step =>
    refine ⟨?_, ?_, ?_, ?_, ?_, ?_, ?_, ?_, ?_, ?_, ?_, ?_, ?_, ?_, trivial⟩
    all_goals
      intro x W L hI hL hV
      replace hI : (Touch (fun z => z = g) w5 W ∧ Blk g (.cells #[cond (L 9) (.string Tn) (.string xt), .string yt, cond (L 13) (.int .i64 (xs + 1)) (.int .i64 xs), cond (L 13) (.int .i64 xh) (.int .i64 xh), cond (L 13) (.slice a4 (xl.length + 1) c4') (.slice ax xl.length cx), .int .i64 ys, .int .i64 yh, .slice ay yl.length cy, vx, vy] 86 (0, 0)) W) := ofI HIp hI
      rw [HV.out] at hV
      simp only [AllV, and_true] at hV
    · clear hV
      (try dsimp only)
      have HI := Lib.hid hI
      clear hI
      go_wp2_with fail
      refine step3_done rfl ?_ ?_ ?_
      · exact (toI HIp HI.out)
      · exact (Below.refl _ _)
      · exact (toV HV rfl)
    · clear hV
      (try dsimp only)
      have HI := Lib.hid hI
      clear hI
      go_wp2_with fail
      refine step3_done rfl ?_ ?_ ?_
      · exact (toI HIp HI.out)
      · exact (Below.refl _ _)
      · exact (toV HV rfl)
    · clear hV
      (try dsimp only)
      have HI := Lib.hid hI
      clear hI
      go_wp2_with fail
      refine step3_done rfl ?_ ?_ ?_
      · exact (toI HIp HI.out)
      · exact (Below.refl _ _)
      · exact (toV HV rfl)
    · clear hV
      (try dsimp only)
      have HI := Lib.hid hI
      clear hI
      go_wp2_with fail
      refine step3_done rfl ?_ ?_ ?_
      · exact (toI HIp HI.out)
      · exact (Below.refl _ _)
      · exact (toV HV rfl)
    · clear hV
      (try dsimp only)
      have HI := Lib.hid hI
      clear hI
      go_wp2_with fail
      refine step3_done rfl ?_ ?_ ?_
      · exact (toI HIp HI.out)
      · exact (Below.refl _ _)
      · exact (toV HV rfl)
    · clear hV
      (try dsimp only)
      obtain ⟨q0, q1, q2⟩ := blk3_cells (X5.out.touch hI.1 (by omega))
      have HI := Lib.hid hI
      clear hI
      go_wp2_with fail
      refine step3_done rfl ?_ ?_ ?_
      · exact (toI HIp HI.out)
      · exact (Below.refl _ _)
      · exact (toV HV rfl)
    · have u0 := hV
      clear hV
      simp only [u0]
      clear u0
      have HI := Lib.hid hI
      clear hI
      go_wp2_with fail
      refine step3_done rfl ?_ ?_ ?_
      · exact (toI HIp HI.out)
      · exact (Below.refl _ _)
      · exact (toV HV rfl)
    · have u6 := hV
      clear hV
      simp only [u6]
      clear u6
      have HI := Lib.hid hI
      clear hI
      go_wp2_with fail
      refine step3_done rfl ?_ ?_ ?_
      · exact (toI HIp HI.out)
      · exact (Below.refl _ _)
      · exact (toV HV rfl)
    · obtain ⟨u1, u7⟩ := hV
      simp only [u1, u7]
      clear u1 u7
      have HI := Lib.hid hI
      clear hI
      go_wp2_with fail
      refine step3_done rfl ?_ ?_ ?_
      · exact (toI HIp HI.out)
      · exact (Below.refl _ _)
      · exact (toV HV rfl)
    · obtain ⟨u4, u8⟩ := hV
      simp only [u4, u8]
      clear u4 u8
      obtain ⟨q0, q1, q2, q3, q4, q5, q6, q7, q8, q9⟩ := blk10_cells hI.2
      have fW := hI.2.frozen
      have hl := hI.2.lt
      have HI := Lib.hid hI
      clear hI
      go_wp2_with fail
      have ht := touch1 (w := W) (g := g) (i := 0) (.string Tn)
      refine step3_done (v := undef) rfl ?_ ?_ ?_
      · exact (toI HIp ⟨HI.out.1.trans ht, HI.out.2.set 0 (.string Tn)⟩)
      · exact ht
      · exact (toV HV rfl)
    · have u2 := hV
      clear hV
      simp only [u2]
      clear u2
      have HI := Lib.hid hI
      clear hI
      go_wp2_with fail
      refine step3_done rfl ?_ ?_ ?_
      · exact (toI HIp HI.out)
      · exact (Below.refl _ _)
      · exact (toV HV rfl)
    · have u10 := hV
      clear hV
      simp only [u10]
      clear u10
      have HI := Lib.hid hI
      clear hI
      go_wp2_with fail
      refine step3_done rfl ?_ ?_ ?_
      · exact (toI HIp HI.out)
      · exact (Below.refl _ _)
      · exact (toV HV rfl)
    · obtain ⟨u3, u11⟩ := hV
      simp only [u3, u11]
      clear u3 u11
      have HI := Lib.hid hI
      clear hI
      go_wp2_with fail
      refine step3_done rfl ?_ ?_ ?_
      · exact (toI HIp HI.out)
      · exact (Below.refl _ _)
      · exact (toV HV rfl)
    · obtain ⟨u5, u12⟩ := hV
      simp only [u5, u12]
      clear u5 u12
      obtain ⟨q0, q1, q2, q3, q4, q5, q6, q7, q8, q9⟩ := blk10_cells hI.2
      have fW := hI.2.frozen
      have hl := hI.2.lt
      have HI := Lib.hid hI
      clear hI
      go_wp2_with fail
      have ht := ((touch1 (w := W) (g := g) (i := 2) (.int .i64 (xs + 1))).trans (touch1 (g := g) (i := 3) (.int .i64 xh))).trans (touch1 (g := g) (i := 4) (.slice a4 (xl.length + 1) c4'))
      refine step3_done (v := undef) rfl ?_ ?_ ?_
      · exact (toI HIp ⟨HI.out.1.trans ht, ((HI.out.2.set 2 (.int .i64 (xs + 1))).set 3 (.int .i64 xh)).set 4 (.slice a4 (xl.length + 1) c4')⟩)
      · exact ht
      · exact (toV HV rfl)
  case fin =>
    intro x W L hL hI hV
    replace hI : (Touch (fun z => z = g) w5 W ∧ Blk g (.cells #[cond (L 9) (.string Tn) (.string xt), .string yt, cond (L 13) (.int .i64 (xs + 1)) (.int .i64 xs), cond (L 13) (.int .i64 xh) (.int .i64 xh), cond (L 13) (.slice a4 (xl.length + 1) c4') (.slice ax xl.length cx), .int .i64 ys, .int .i64 yh, .slice ay yl.length cy, vx, vy] 86 (0, 0)) W) := ofI HIp hI
    rw [HV.out] at hV
    simp only [AllV, and_true] at hV
    obtain ⟨u0, u1, u2, u3, u4, u5, u6, u7, u8, u9, u10, u11, u12, u13⟩ := hV
    simp only [getsD, List.getD_cons_succ, List.getD_cons_zero, List.length_cons, List.length_nil, List.range, List.range.loop, u0, u1, u2, u3, u4, u5, u6, u7, u8, u9, u10, u11, u12, u13, Act.put, List.setIfInBounds_toArray, List.set_cons_succ, List.set_cons_zero]
    clear u0 u1 u2 u3 u4 u5 u6 u7 u8 u9 u10 u11 u12 u13
    have hT := hI.1
    have hB := hI.2
    have hl9 := hL 9 (by simp)
    have hl13 := hL 13 (by simp)
    rw [hl9, hl13] at hB
    simp only [cond_true] at hB
    obtain ⟨w6, rfl⟩ : ∃ x : World, x = W := ⟨_, rfl⟩
    have hz56 := hT.size
    have hwz := B5.out.size
    obtain ⟨⟨ax', cx', ay', cy', bo, rx, ry⟩, o1, o2⟩ := M5.out.rest hT
    have eo := (bo.cell 7).symm.trans (BX5.out.cell 7)
    have eo' : Value.slice ay' yl.length cy' = .slice ay yl.length cy := Option.some.inj eo
    injection eo' with e1 e2 e3
    subst e1 e3
    have M5b := hB
    have hgm := M5.out
    have hlm : (xl ++ [op]).length = xl.length + 1 := by simp
    have RL6 : RdS (PC base g vx vy w6) w6 (xl ++ [op]) a4 (xl.length + 1) c4' := RL5.out.mono fun z hz => ⟨⟨by omega, by omega, by omega, fun e => by have := (HM.out.fx.rowlt z e).2; omega, fun e => by have := (HM.out.fy.rowlt z e).2; omega⟩, hT.block z hz.2 (by omega)⟩
    have M6 : Hid (PairM base g (Sd.mk Tn (xs + 1) xh (xl ++ [op]) xf) (Sd.mk yt ys yh yl yf) vx vy w6) := ⟨⟨a4, c4', ay', cy', by have := M5b; rw [← hlm] at this; exact this, by rw [hlm]; exact RL6, ry⟩, o1, o2, hgm.gb, hgm.nx, hgm.ny⟩
    have B6 : Hid (Below base w w6) := ((Touch.of_below (S := fun _ => False) B5.out).toBelow (by omega) (fun k hk => hk.elim)).trans (hT.toBelow (by omega) (fun k hk => by omega))
    have X6 := Lib.hid (X5.out.touch hT (by omega))
    have RO6 : Hid (RdS (fun z => w1.heap.size ≤ z ∧ z < w6.heap.size) w6 op oa op.length oc) := RO5.out.mono fun z hz => ⟨⟨hz.1, by omega⟩, hT.block z hz.2 (by omega)⟩
    have hrx := Lib.hid HM.out.fx.rowlt
    have hry := Lib.hid HM.out.fy.rowlt
    have hgx := Lib.hid HM.out.nx
    have hgy := Lib.hid HM.out.ny
    clear hI hL hT hB hl9 hl13 rx ry o1 o2 hgm RL6 M5 BX5 X5 B5 RO5 RL5 HM
    go_wp2_with fail
    obtain ⟨Vp, HV⟩ : ∃ Vp : Nat → Value → World → Prop, Hid (Vp = fun i v W => match i with
        | 0 => v = .pointer (some ⟨g, 0, none⟩)
        | 1 => v = .int .i64 0
        | 2 => v = .pointer (some ⟨g, 0, none⟩)
        | 3 => v = .int .i64 0
        | 4 => v = .pointer (some ⟨g, 0, none⟩)
        | 5 => v = .pointer (some ⟨g, 8, none⟩)
        | 6 => v = .pointer (some ⟨g, 8, none⟩)
        | 7 => v = vx
        | 8 => v = .pointer (some ⟨w4.heap.size, 1, none⟩)
        | 9 => v = .int .i64 xh
        | 10 => v = .slice oa op.length oc
        | 11 => v = .agg #[.int .i64 0, .int .i64 xh, .int .i64 0, .slice oa op.length oc, .string ⟨#[]⟩]
        | 12 => ∃ b, v = .slice (some ⟨b, 0, none⟩) 1 1 ∧ Blk b (.cells #[.int .i64 0, .int .i64 xh, .int .i64 0, .slice oa op.length oc, .string ⟨#[]⟩] 30 (0, 0)) W ∧ w6.heap.size ≤ b
        | 13 => ∃ q o c, v = .slice (some ⟨q, o, none⟩) (xf.length + 1) c
        | 14 => v = .pointer (some ⟨g, 0, none⟩)
        | 15 => v = .pointer (some ⟨g, 8, none⟩)
        | 16 => v = .pointer (some ⟨g, 8, none⟩)
        | _ => v = undef) := ⟨_, rfl⟩
    obtain ⟨Ip, HIp⟩ : ∃ Ip : (Nat → Bool) → (Nat → Value) → World → Prop, Hid (Ip = fun L x W => (Touch (fun z => z = g ∨ vx.ownBlock = some z) w6 W ∧ (L 13 = false → PairM base g (Sd.mk Tn (xs + 1) xh (xl ++ [op]) xf) (Sd.mk yt ys yh yl yf) vx vy W) ∧ (L 13 = true → L 17 = false → PairG base g (Sd.mk Tn (xs + 1) xh (xl ++ [op]) (xf ++ [Fr.mk 0 xh 0 op noText])) (Sd.mk yt ys yh yl yf) vx vy (x 13) vy W) ∧ (L 17 = true → ∃ v', PairM base g (Sd.mk Tn (xs + 1) xh (xl ++ [op]) (xf ++ [Fr.mk 0 xh 0 op noText])) (Sd.mk yt ys yh yl yf) v' vy W))) := ⟨_, rfl⟩
    refine region_lit3 (by kernel_rfl) (by kernel_rfl) (by kernel_rfl) [[], [], [], [], [2], [2, 4], [2, 3, 4, 5], [2, 3, 4, 5, 6], [], [8], [], [8, 9, 10], [8, 9, 10, 11], [2, 3, 4, 5, 6, 7, 8, 9, 10, 11, 12], [0], [0, 14], [0, 1, 14, 15], [0, 1, 2, 3, 4, 5, 6, 7, 8, 9, 10, 11, 12, 13, 14, 15, 16]] (by kernel_rfl) [some 55, some 56, some 57, some 58, some 59, some 60, some 61, some 62, some 63, some 64, some 65, some 66, some 67, some 68, some 69, some 70, some 71, none] (by kernel_rfl) [[0, 14, 15, 16, 17], [1, 16, 17], [2, 4, 5, 6, 7, 13, 17], [3, 6, 7, 13, 17], [4, 5, 6, 7, 13, 17], [5, 6, 7, 13, 17], [6, 7, 13, 17], [7, 13, 17], [8, 9, 11, 12, 13, 17], [9, 11, 12, 13, 17], [10, 11, 12, 13, 17], [11, 12, 13, 17], [12, 13, 17], [13, 17], [14, 15, 16, 17], [15, 16, 17], [16, 17], [17]] (by kernel_rfl) [[], [], [], [], [], [], [], [], [], [], [], [], [13, 17], [], [], [], [], []] [[], [], [], [], [2], [4], [3, 5], [6], [], [8], [], [9, 10], [11], [7, 12], [0], [14], [1, 15], [13, 16]] (by kernel_rfl)
      Ip
      Vp
      (fun j W W' => match j with
        | 13 => W.grownBy W' vx.ownBlock
        | 17 => Touch (fun z => z = g) W W'
        | _ => Below W.heap.size W W')
      [fun x => ⟨#[.pointer (some ⟨g, 0, none⟩), undef, undef, undef, undef, undef, undef, undef, undef, undef, undef, undef, undef, undef, undef, undef, undef, undef, undef, undef, undef, undef, undef, undef, undef, undef, undef, undef, undef, undef, undef, undef, undef, undef, undef, undef, undef, undef, undef, undef, undef, undef, undef, undef, undef, undef, undef, undef, undef, undef, undef, undef, undef, undef, undef, undef], []⟩,
   fun x => ⟨#[undef, .int .i64 0, undef, undef, undef, undef, undef, undef, undef, undef, undef, undef, undef, undef, undef, undef, undef, undef, undef, undef, undef, undef, undef, undef, undef, undef, undef, undef, undef, undef, undef, undef, undef, undef, undef, undef, undef, undef, undef, undef, undef, undef, undef, undef, undef, undef, undef, undef, undef, undef, undef, undef, undef, undef, undef, undef, undef], []⟩,
   fun x => ⟨#[.pointer (some ⟨g, 0, none⟩), undef, undef, undef, undef, undef, undef, undef, undef, undef, undef, undef, undef, undef, undef, undef, undef, undef, undef, undef, undef, undef, undef, undef, undef, undef, undef, undef, undef, undef, undef, undef, undef, undef, undef, undef, undef, undef, undef, undef, undef, undef, undef, undef, undef, undef, undef, undef, undef, undef, undef, undef, undef, undef, undef, undef, undef, undef], []⟩,
   fun x => ⟨#[undef, .int .i64 0, undef, undef, undef, undef, undef, undef, undef, undef, undef, undef, undef, undef, undef, undef, undef, undef, undef, undef, undef, undef, undef, undef, undef, undef, undef, undef, undef, undef, undef, undef, undef, undef, undef, undef, undef, undef, undef, undef, undef, undef, undef, undef, undef, undef, undef, undef, undef, undef, undef, undef, undef, undef, undef, undef, undef, undef, undef], []⟩,
   fun x => ⟨#[undef, undef, undef, undef, undef, undef, undef, undef, undef, undef, undef, undef, undef, undef, undef, undef, undef, undef, undef, undef, undef, undef, undef, undef, undef, undef, undef, undef, undef, undef, undef, undef, undef, undef, undef, undef, undef, undef, undef, undef, undef, undef, undef, undef, undef, undef, undef, undef, undef, undef, undef, undef, undef, undef, undef, undef, undef, x 2, undef, undef], []⟩,
   fun x => ⟨#[undef, undef, undef, undef, undef, undef, undef, undef, undef, undef, undef, undef, undef, undef, undef, undef, undef, undef, undef, undef, undef, undef, undef, undef, undef, undef, undef, undef, undef, undef, undef, undef, undef, undef, undef, undef, undef, undef, undef, undef, undef, undef, undef, undef, undef, undef, undef, undef, undef, undef, undef, undef, undef, undef, undef, undef, undef, undef, undef, x 4, undef], []⟩,
   fun x => ⟨#[undef, undef, undef, undef, undef, undef, undef, undef, undef, undef, undef, undef, undef, undef, undef, undef, undef, undef, undef, undef, undef, undef, undef, undef, undef, undef, undef, undef, undef, undef, undef, undef, undef, undef, undef, undef, undef, undef, undef, undef, undef, undef, undef, undef, undef, undef, undef, undef, undef, undef, undef, undef, undef, undef, undef, undef, undef, undef, x 3, undef, x 5, undef], []⟩,
   fun x => ⟨#[undef, undef, undef, undef, undef, undef, undef, undef, undef, undef, undef, undef, undef, undef, undef, undef, undef, undef, undef, undef, undef, undef, undef, undef, undef, undef, undef, undef, undef, undef, undef, undef, undef, undef, undef, undef, undef, undef, undef, undef, undef, undef, undef, undef, undef, undef, undef, undef, undef, undef, undef, undef, undef, undef, undef, undef, undef, undef, undef, undef, undef, x 6, undef], []⟩,
   fun x => ⟨#[undef, undef, undef, undef, undef, undef, undef, undef, undef, undef, .pointer (some ⟨w4.heap.size, 0, none⟩), undef, undef, undef, undef, undef, undef, undef, undef, undef, undef, undef, undef, undef, undef, undef, undef, undef, undef, undef, undef, undef, undef, undef, undef, undef, undef, undef, undef, undef, undef, undef, undef, undef, undef, undef, undef, undef, undef, undef, undef, undef, undef, undef, undef, undef, undef, undef, undef, undef, undef, undef, undef, undef], []⟩,
   fun x => ⟨#[undef, undef, undef, undef, undef, undef, undef, undef, undef, undef, undef, undef, undef, undef, undef, undef, undef, undef, undef, undef, undef, undef, undef, undef, undef, undef, undef, undef, undef, undef, undef, undef, undef, undef, undef, undef, undef, undef, undef, undef, undef, undef, undef, undef, undef, undef, undef, undef, undef, undef, undef, undef, undef, undef, undef, undef, undef, undef, undef, undef, undef, undef, undef, x 8, undef], []⟩,
   fun x => ⟨#[undef, undef, undef, undef, undef, undef, undef, .slice oa op.length oc, undef, undef, undef, undef, undef, undef, undef, undef, undef, undef, undef, undef, undef, undef, undef, undef, undef, undef, undef, undef, undef, undef, undef, undef, undef, undef, undef, undef, undef, undef, undef, undef, undef, undef, undef, undef, undef, undef, undef, undef, undef, undef, undef, undef, undef, undef, undef, undef, undef, undef, undef, undef, undef, undef, undef, undef, undef, undef], []⟩,
   fun x => ⟨#[undef, undef, undef, undef, undef, undef, undef, undef, undef, undef, undef, undef, undef, undef, undef, undef, undef, undef, undef, undef, undef, undef, undef, undef, undef, undef, undef, undef, undef, undef, undef, undef, undef, undef, undef, undef, undef, undef, undef, undef, undef, undef, undef, undef, undef, undef, undef, undef, undef, undef, undef, undef, undef, undef, undef, undef, undef, undef, undef, undef, undef, undef, undef, undef, x 9, x 10, undef], []⟩,
   fun x => ⟨#[undef, undef, undef, undef, undef, undef, undef, undef, undef, undef, undef, undef, undef, undef, undef, undef, undef, undef, undef, undef, undef, undef, undef, undef, undef, undef, undef, undef, undef, undef, undef, undef, undef, undef, undef, undef, undef, undef, undef, undef, undef, undef, undef, undef, undef, undef, undef, undef, undef, undef, undef, undef, undef, undef, undef, undef, undef, undef, undef, undef, undef, undef, undef, undef, undef, undef, x 11, undef], []⟩,
   fun x => ⟨#[undef, undef, undef, undef, undef, undef, undef, undef, undef, undef, undef, undef, undef, undef, undef, undef, undef, undef, undef, undef, undef, undef, undef, undef, undef, undef, undef, undef, undef, undef, undef, undef, undef, undef, undef, undef, undef, undef, undef, undef, undef, undef, undef, undef, undef, undef, undef, undef, undef, undef, undef, undef, undef, undef, undef, undef, undef, undef, undef, undef, undef, undef, x 7, undef, undef, undef, undef, x 12, undef], []⟩,
   fun x => ⟨#[undef, undef, undef, undef, undef, undef, undef, undef, undef, undef, undef, undef, undef, undef, undef, undef, undef, undef, undef, undef, undef, undef, undef, undef, undef, undef, undef, undef, undef, undef, undef, undef, undef, undef, undef, undef, undef, undef, undef, undef, undef, undef, undef, undef, undef, undef, undef, undef, undef, undef, undef, undef, undef, undef, undef, x 0, undef, undef, undef, undef, undef, undef, undef, undef, undef, undef, undef, undef, undef, undef], []⟩,
   fun x => ⟨#[undef, undef, undef, undef, undef, undef, undef, undef, undef, undef, undef, undef, undef, undef, undef, undef, undef, undef, undef, undef, undef, undef, undef, undef, undef, undef, undef, undef, undef, undef, undef, undef, undef, undef, undef, undef, undef, undef, undef, undef, undef, undef, undef, undef, undef, undef, undef, undef, undef, undef, undef, undef, undef, undef, undef, undef, undef, undef, undef, undef, undef, undef, undef, undef, undef, undef, undef, undef, undef, x 14, undef], []⟩,
   fun x => ⟨#[undef, undef, undef, undef, undef, undef, undef, undef, undef, undef, undef, undef, undef, undef, undef, undef, undef, undef, undef, undef, undef, undef, undef, undef, undef, undef, undef, undef, undef, undef, undef, undef, undef, undef, undef, undef, undef, undef, undef, undef, undef, undef, undef, undef, undef, undef, undef, undef, undef, undef, undef, undef, undef, undef, undef, undef, x 1, undef, undef, undef, undef, undef, undef, undef, undef, undef, undef, undef, undef, undef, x 15, undef], []⟩,
   fun x => ⟨#[undef, undef, undef, undef, undef, undef, undef, undef, undef, undef, undef, undef, undef, undef, undef, undef, undef, undef, undef, undef, undef, undef, undef, undef, undef, undef, undef, undef, undef, undef, undef, undef, undef, undef, undef, undef, undef, undef, undef, undef, undef, undef, undef, undef, undef, undef, undef, undef, undef, undef, undef, undef, undef, undef, undef, undef, undef, undef, undef, undef, undef, undef, undef, undef, undef, undef, undef, undef, x 13, undef, undef, x 16], []⟩]
      ?hF ?mono ?h0 ?step [0, 1, 2, 3, 4, 5, 6, 7, 8, 9, 10, 11, 13, 14, 15, 16, 17] (by kernel_rfl) ?fin
    case hF =>
      exact ⟨fun x => ⟨by kernel_rfl, by kernel_rfl⟩, fun x => ⟨by kernel_rfl, by kernel_rfl⟩, fun x => ⟨by kernel_rfl, by kernel_rfl⟩, fun x => ⟨by kernel_rfl, by kernel_rfl⟩, fun x => ⟨by kernel_rfl, by kernel_rfl⟩, fun x => ⟨by kernel_rfl, by kernel_rfl⟩, fun x => ⟨by kernel_rfl, by kernel_rfl⟩, fun x => ⟨by kernel_rfl, by kernel_rfl⟩, fun x => ⟨by kernel_rfl, by kernel_rfl⟩, fun x => ⟨by kernel_rfl, by kernel_rfl⟩, fun x => ⟨by kernel_rfl, by kernel_rfl⟩, fun x => ⟨by kernel_rfl, by kernel_rfl⟩, fun x => ⟨by kernel_rfl, by kernel_rfl⟩, fun x => ⟨by kernel_rfl, by kernel_rfl⟩, fun x => ⟨by kernel_rfl, by kernel_rfl⟩, fun x => ⟨by kernel_rfl, by kernel_rfl⟩, fun x => ⟨by kernel_rfl, by kernel_rfl⟩, fun x => ⟨by kernel_rfl, by kernel_rfl⟩, trivial⟩
    case mono =>
      intro i j hi hj hne hna hnk v W W' hE hv
      rw [HV.out] at hv ⊢
      simp only [List.length_cons, List.length_nil] at hi hj
      match i, hi with
      | 0, _ | 1, _ | 2, _ | 3, _ | 4, _ | 5, _ | 6, _ | 7, _ | 8, _ | 9, _ | 10, _ | 11, _ | 14, _ | 15, _ | 16, _ | 17, _ => exact hv
      | 12, _ =>
        match j, hj with
        | 12, _ => exact absurd rfl hne
        | 8, _ => exact absurd (by simp) hna
        | 9, _ => exact absurd (by simp) hna
        | 10, _ => exact absurd (by simp) hna
        | 11, _ => exact absurd (by simp) hna
        | 13, _ => exact absurd (by simp) hnk
        | 17, _ => exact absurd (by simp) hnk
        | 0, _ => exact (by obtain ⟨b, h1, h2, h3⟩ := hv; exact ⟨b, h1, h2.go hE, h3⟩)
        | 1, _ => exact (by obtain ⟨b, h1, h2, h3⟩ := hv; exact ⟨b, h1, h2.go hE, h3⟩)
        | 2, _ => exact (by obtain ⟨b, h1, h2, h3⟩ := hv; exact ⟨b, h1, h2.go hE, h3⟩)
        | 3, _ => exact (by obtain ⟨b, h1, h2, h3⟩ := hv; exact ⟨b, h1, h2.go hE, h3⟩)
        | 4, _ => exact (by obtain ⟨b, h1, h2, h3⟩ := hv; exact ⟨b, h1, h2.go hE, h3⟩)
        | 5, _ => exact (by obtain ⟨b, h1, h2, h3⟩ := hv; exact ⟨b, h1, h2.go hE, h3⟩)
        | 6, _ => exact (by obtain ⟨b, h1, h2, h3⟩ := hv; exact ⟨b, h1, h2.go hE, h3⟩)
        | 7, _ => exact (by obtain ⟨b, h1, h2, h3⟩ := hv; exact ⟨b, h1, h2.go hE, h3⟩)
        | 14, _ => exact (by obtain ⟨b, h1, h2, h3⟩ := hv; exact ⟨b, h1, h2.go hE, h3⟩)
        | 15, _ => exact (by obtain ⟨b, h1, h2, h3⟩ := hv; exact ⟨b, h1, h2.go hE, h3⟩)
        | 16, _ => exact (by obtain ⟨b, h1, h2, h3⟩ := hv; exact ⟨b, h1, h2.go hE, h3⟩)
        | m + 18, h => exact absurd h (by omega)
      | 13, _ =>
        match j, hj with
        | 13, _ => exact absurd rfl hne
        | 2, _ => exact absurd (by simp) hna
        | 3, _ => exact absurd (by simp) hna
        | 4, _ => exact absurd (by simp) hna
        | 5, _ => exact absurd (by simp) hna
        | 6, _ => exact absurd (by simp) hna
        | 7, _ => exact absurd (by simp) hna
        | 8, _ => exact absurd (by simp) hna
        | 9, _ => exact absurd (by simp) hna
        | 10, _ => exact absurd (by simp) hna
        | 11, _ => exact absurd (by simp) hna
        | 12, _ => exact absurd (by simp) hna
        | 0, _ => exact (id hv)
        | 1, _ => exact (id hv)
        | 14, _ => exact (id hv)
        | 15, _ => exact (id hv)
        | 16, _ => exact (id hv)
        | 17, _ => exact (id hv)
        | m + 18, h => exact absurd h (by omega)
      | m + 18, h => exact absurd h (by omega)
    case h0 => intro x; exact toI HIp ⟨(Touch.refl _ _).drew, (fun _ => M6.out.go (Below.refl _ _).drew), (fun h => by cases h), (fun h => by cases h)⟩
    case step =>
      refine ⟨?_, ?_, ?_, ?_, ?_, ?_, ?_, ?_, ?_, ?_, ?_, ?_, ?_, ?_, ?_, ?_, ?_, ?_, trivial⟩
      all_goals
        intro x W L hI hL hV
        replace hI : (Touch (fun z => z = g ∨ vx.ownBlock = some z) w6 W ∧ (L 13 = false → PairM base g (Sd.mk Tn (xs + 1) xh (xl ++ [op]) xf) (Sd.mk yt ys yh yl yf) vx vy W) ∧ (L 13 = true → L 17 = false → PairG base g (Sd.mk Tn (xs + 1) xh (xl ++ [op]) (xf ++ [Fr.mk 0 xh 0 op noText])) (Sd.mk yt ys yh yl yf) vx vy (x 13) vy W) ∧ (L 17 = true → ∃ v', PairM base g (Sd.mk Tn (xs + 1) xh (xl ++ [op]) (xf ++ [Fr.mk 0 xh 0 op noText])) (Sd.mk yt ys yh yl yf) v' vy W)) := ofI HIp hI
        rw [HV.out] at hV
        simp only [AllV, and_true] at hV
      · clear hV
        (try dsimp only)
        have HI := Lib.hid hI
        clear hI
        go_wp2_with fail
        refine step3_done rfl ?_ ?_ ?_
        · exact (toI HIp HI.out)
        · exact (Below.refl _ _)
        · exact (toV HV rfl)
      · clear hV
        (try dsimp only)
        have HI := Lib.hid hI
        clear hI
        go_wp2_with fail
        refine step3_done rfl ?_ ?_ ?_
        · exact (toI HIp HI.out)
        · exact (Below.refl _ _)
        · exact (toV HV rfl)
      · clear hV
        (try dsimp only)
        have HI := Lib.hid hI
        clear hI
        go_wp2_with fail
        refine step3_done rfl ?_ ?_ ?_
        · exact (toI HIp HI.out)
        · exact (Below.refl _ _)
        · exact (toV HV rfl)
      · clear hV
        (try dsimp only)
        have HI := Lib.hid hI
        clear hI
        go_wp2_with fail
        refine step3_done rfl ?_ ?_ ?_
        · exact (toI HIp HI.out)
        · exact (Below.refl _ _)
        · exact (toV HV rfl)
      · have u2 := hV
        clear hV
        simp only [u2]
        clear u2
        have HI := Lib.hid hI
        clear hI
        go_wp2_with fail
        refine step3_done rfl ?_ ?_ ?_
        · exact (toI HIp HI.out)
        · exact (Below.refl _ _)
        · exact (toV HV rfl)
      · have u4 := hV
        clear hV
        simp only [u4]
        clear u4
        have HI := Lib.hid hI
        clear hI
        go_wp2_with fail
        refine step3_done rfl ?_ ?_ ?_
        · exact (toI HIp HI.out)
        · exact (Below.refl _ _)
        · exact (toV HV rfl)
      · obtain ⟨u3, u5⟩ := hV
        simp only [u3, u5]
        clear u3 u5
        have HI := Lib.hid hI
        clear hI
        go_wp2_with fail
        refine step3_done rfl ?_ ?_ ?_
        · exact (toI HIp HI.out)
        · exact (Below.refl _ _)
        · exact (toV HV rfl)
      · have u6 := hV
        clear hV
        simp only [u6]
        clear u6
        obtain ⟨_, _, _, _, bM, -⟩ := (hI.2.1 (hL.2 13 (by simp))).box
        obtain ⟨q0, q1, q2, q3, q4, q5, q6, q7, q8, q9⟩ := blk10_cells bM
        have HI := Lib.hid hI
        clear hI bM
        go_wp2_with fail
        refine step3_done rfl ?_ ?_ ?_
        · exact (toI HIp HI.out)
        · exact (Below.refl _ _)
        · exact (toV HV rfl)
      · clear hV
        (try dsimp only)
        have HI := Lib.hid hI
        clear hI
        go_wp2_with fail
        refine step3_done rfl ?_ ?_ ?_
        · exact (toI HIp HI.out)
        · exact (Below.refl _ _)
        · exact (toV HV rfl)
      · have u8 := hV
        clear hV
        simp only [u8]
        clear u8
        obtain ⟨q0, q1, q2⟩ := blk3_cells (X6.out.touch hI.1 (fun h => by
          rcases h with h | h
          · omega
          · have := (hrx.out _ h).2; omega))
        have HI := Lib.hid hI
        clear hI
        go_wp2_with fail
        refine step3_done rfl ?_ ?_ ?_
        · exact (toI HIp HI.out)
        · exact (Below.refl _ _)
        · exact (toV HV rfl)
      · clear hV
        (try dsimp only)
        have HI := Lib.hid hI
        clear hI
        go_wp2_with fail
        refine step3_done rfl ?_ ?_ ?_
        · exact (toI HIp HI.out)
        · exact (Below.refl _ _)
        · exact (toV HV rfl)
      · obtain ⟨u9, u10⟩ := hV
        simp only [u9, u10]
        clear u9 u10
        have HI := Lib.hid hI
        clear hI
        go_wp2_with fail
        refine step3_done rfl ?_ ?_ ?_
        · exact (toI HIp HI.out)
        · exact (Below.refl _ _)
        · exact (toV HV rfl)
      · have u11 := hV
        clear hV
        simp only [u11]
        clear u11
        have HL := Lib.hid hL
        have HI := Lib.hid hI
        have hzW := hI.1.size
        clear hI hL
        go_wp2_with fail
        have uW : ∀ o, Below W.heap.size W (W.alloc o) := fun o => (Below.refl _ _).alloc (Nat.le_refl _) o
        refine step3_done rfl ?_ ?_ ?_
        · exact (toI HIp ⟨HI.out.1.below (uW _) hzW, fun h => (HI.out.2.1 h).go (uW _), fun h => absurd ((HL.out.2 13 (by simp)).symm.trans h) (by simp), fun h => absurd ((HL.out.2 17 (by simp)).symm.trans h) (by simp)⟩)
        · exact (uW _)
        · exact (toV HV ⟨_, rfl, Blk.new _ _, hzW⟩)
      · obtain ⟨u7, ⟨g12, u12, b12, l12⟩⟩ := hV
        simp only [u7, u12]
        have U12 := Lib.hid u12
        clear u7 u12
        have hM := hI.2.1 (hL.2 13 (by simp))
        have HL := Lib.hid hL
        have HI := Lib.hid hI
        have HM13 := Lib.hid hM
        have B12 := Lib.hid b12
        have hz6 := hI.1.size
        have hbW : base ≤ W.heap.size := by omega
        have Hy : Hid (Rep.rd (fun z => z < W.heap.size ∧ ¬ (fun z => z < base ∨ z = g ∨ vy.ownBlock = some z) z ∧ vx.ownBlock ≠ some z) W (⟨0, xh, 0, op, noText⟩ : Fr) [.int .i64 0, .int .i64 xh, .int .i64 0, .slice oa op.length oc, .string ⟨#[]⟩]) := by
          refine ⟨oa, op.length, oc, rfl, RO6.out.mono fun z hz => ⟨⟨by omega, ?_, fun e => by have := (hrx.out z e).2; omega⟩, hI.1.block z hz.2 ?_⟩, by unfold I64; simp, by unfold I64; simp only; omega, by unfold I64; simp, by simp [noText_size]⟩
          · rintro (h | h | h)
            · omega
            · omega
            · have := (hry.out z h).2; omega
          · rintro (h | h)
            · omega
            · have := (hrx.out z h).2; omega
        clear hI hL b12 hM
        go_wp2_with (at_builtin; refine wpList_append_oneO rfl _ _ _ (by rfl) base 30 i0 _ 64 Tryd.underlying31 Hi.out Hz0.out Hz1.out Hz2.out rfl vx xf (by rfl) HM13.out.fx g12 1 _ [.int .i64 0, .int .i64 xh, .int .i64 0, .slice oa op.length oc, .string ⟨#[]⟩] (⟨0, xh, 0, op, noText⟩ : Fr) (by rfl) B12.out Hy.out (by unfold maxLen; omega) (by omega) hbW ?_)
        intro g2 o2 cap w7 hown7 hgrow hat hlt7
        have HG := Lib.hid hgrow
        have HP := Lib.hid (HM13.out.growx hgrow hown7 (fun k hk => by
          have e : g2 = k := by simpa [Value.ownBlock] using hk
          subst e
          exact hat))
        have HT := Lib.hid (HI.out.1.grown hgrow (fun k hk => .inl (.inr hk)))
        clear hgrow hown7 hat HI HM13 B12 Hy
        go_wp2_with fail
        refine step3_done rfl ?_ ?_ ?_
        · exact (toI HIp ⟨HT.out, fun h => absurd h (by simp [setB]), fun _ _ => HP.out, fun h : L 17 = true => absurd ((HL.out.2 17 (by simp)).symm.trans h) (by simp)⟩)
        · exact HG.out
        · exact (toV HV ⟨_, _, _, rfl⟩)
      · have u0 := hV
        clear hV
        simp only [u0]
        clear u0
        have HI := Lib.hid hI
        clear hI
        go_wp2_with fail
        refine step3_done rfl ?_ ?_ ?_
        · exact (toI HIp HI.out)
        · exact (Below.refl _ _)
        · exact (toV HV rfl)
      · have u14 := hV
        clear hV
        simp only [u14]
        clear u14
        have HI := Lib.hid hI
        clear hI
        go_wp2_with fail
        refine step3_done rfl ?_ ?_ ?_
        · exact (toI HIp HI.out)
        · exact (Below.refl _ _)
        · exact (toV HV rfl)
      · obtain ⟨u1, u15⟩ := hV
        simp only [u1, u15]
        clear u1 u15
        have HI := Lib.hid hI
        clear hI
        go_wp2_with fail
        refine step3_done rfl ?_ ?_ ?_
        · exact (toI HIp HI.out)
        · exact (Below.refl _ _)
        · exact (toV HV rfl)
      · obtain ⟨⟨g13, o13, c13, u13⟩, u16⟩ := hV
        simp only [u13, u16]
        have U13 := Lib.hid u13
        clear u13 u16
        have hM := hI.2.2.1 (hL.1 13 (by simp)) (hL.2 17 (by simp))
        rw [U13.out] at hM
        obtain ⟨_, _, _, _, bM, -⟩ := hM.box
        obtain ⟨q0, q1, q2, q3, q4, q5, q6, q7, q8, q9⟩ := blk10_cells bM
        have fW := bM.frozen
        have hl := bM.lt
        have HL := Lib.hid hL
        have HI := Lib.hid hI
        have HM17 := Lib.hid hM
        clear hI hL hM bM
        go_wp2_with fail
        have ht := touch1 (w := W) (g := g) (i := 8) (.slice (some ⟨g13, o13, none⟩) (xf.length + 1) c13)
        refine step3_done (v := undef) rfl ?_ ?_ ?_
        · exact (toI HIp ⟨HI.out.1.trans (ht.mono fun k _ hk => .inl hk), fun h : L 13 = false => absurd ((HL.out.1 13 (by simp)).symm.trans h) (by simp), fun _ h => absurd h (by simp [setB]), fun _ => ⟨_, HM17.out.put ht (fun _ _ _ _ b => b.set 8 _)⟩⟩)
        · exact ht
        · exact (toV HV rfl)
    case fin =>
      intro x W L hL hI hV
      replace hI : (Touch (fun z => z = g ∨ vx.ownBlock = some z) w6 W ∧ (L 13 = false → PairM base g (Sd.mk Tn (xs + 1) xh (xl ++ [op]) xf) (Sd.mk yt ys yh yl yf) vx vy W) ∧ (L 13 = true → L 17 = false → PairG base g (Sd.mk Tn (xs + 1) xh (xl ++ [op]) (xf ++ [Fr.mk 0 xh 0 op noText])) (Sd.mk yt ys yh yl yf) vx vy (x 13) vy W) ∧ (L 17 = true → ∃ v', PairM base g (Sd.mk Tn (xs + 1) xh (xl ++ [op]) (xf ++ [Fr.mk 0 xh 0 op noText])) (Sd.mk yt ys yh yl yf) v' vy W)) := ofI HIp hI
      rw [HV.out] at hV
      simp only [AllV, and_true] at hV
      obtain ⟨u0, u1, u2, u3, u4, u5, u6, u7, u8, u9, u10, u11, ⟨g13, o13, c13, u13⟩, u14, u15, u16, u17⟩ := hV
      simp only [getsD, List.getD_cons_succ, List.getD_cons_zero, List.length_cons, List.length_nil, List.range, List.range.loop, u0, u1, u2, u3, u4, u5, u6, u7, u8, u9, u10, u11, u13, u14, u15, u16, u17, Act.put, List.setIfInBounds_toArray, List.set_cons_succ, List.set_cons_zero]
      clear u0 u1 u2 u3 u4 u5 u6 u7 u8 u9 u10 u11 u13 u14 u15 u16 u17
      obtain ⟨v', hM⟩ := hI.2.2.2 (hL 17 (by simp))
      have hT := hI.1
      have HM7 := Lib.hid hM
      have B7 : Hid (Below base w W) := B6.out.trans (hT.toBelow (by omega) (fun k hk => by
        rcases hk with hk | hk
        · omega
        · exact (hrx.out k hk).1))
      clear hI hL hM hT
      go_wp2_with fail
      go_ret
      refine ⟨rfl, ⟨v', ?_⟩, B7.out⟩
      rw [HTn.out]
      exact HM7.out
set_option maxRecDepth 100000 in
set_option maxHeartbeats 8000000 in
theorem pair_edit1 (base g : Nat) (x y : Sd) (vx vy : Value) (l : List Raw) (a : Option Addr) (n c : Nat) (w : World) (hg : Good w) (h : PairM base g x y vx vy w) (hr : RdS (· < w.heap.size) w l a n c) (hT : y.t.size ≤ 70368744177664) (r0 : 0 ≤ rc y.t) (r1 : rc y.t ≤ 3000) (hS : sendE y.s y.h y.l (mkOp (rc y.t) l) = 0) (hA : applyE y.t (mkOp (rc y.t) l) = 0) (hn : y.f.length ≤ 1000) :
    Calls Tryd.prog 37 #[.pointer (some ⟨g, 0, none⟩), .int .i64 1, .slice a n c] w fun e w' => e = .returned (.bool true) ∧ (∃ v', PairM base g x ⟨applyS y.t (mkOp (rc y.t) l), y.s + 1, y.h, y.l ++ [mkOp (rc y.t) l], y.f ++ [⟨0, y.h, 0, mkOp (rc y.t) l, noText⟩]⟩ vx v' w') ∧ Below base w w' := by
  have hc : edgeCheck y.s y.h y.l = 0 := by
    by_cases h1 : edgeCheck y.s y.h y.l = 0
    · exact h1
    · unfold sendE at hS; rw [if_pos h1] at hS; exact hS
  obtain ⟨s0, s1, h0, h1, -, -⟩ := edgeCheck_all hc
  have HR := Lib.hid (fun W => runes_any y.t W hT)
  have HO := Lib.hid (fun W (hW : Below w.heap.size w W) => mkOp_new (rc y.t) l a n c W (hr.go hW) r0 (by omega))
  have HAp := Lib.hid (fun op oa on oc W hg hr => apply_any y.t op oa on oc W hg hr hT)
  have HSd := Lib.hid (fun op oa oc al cl W (hE : sendE y.s y.h y.l op = 0) hg h1 h2 => send_ok y.s y.h y.l op al oa y.l.length cl op.length oc W hg h1 h2 (by unfold I64; omega) (by unfold I64; omega) hE)
  unfold SendPost at HSd
  have HN := Lib.hid (And.intro hS hA)
  generalize hop : mkOp (rc y.t) l = op at *
  obtain ⟨xt, xs, xh, xl, xf⟩ := x
  obtain ⟨yt, ys, yh, yl, yf⟩ := y
  simp only at *
  obtain ⟨i0, hi, hz0, hz1, hz2⟩ := info_parts infoFr
  have Hi := Lib.hid hi
  have Hz0 := Lib.hid hz0
  have Hz1 := Lib.hid hz1
  have Hz2 := Lib.hid hz2
  have Hg := Lib.hid hg
  have HM := Lib.hid h
  have hgb := h.gb
  have hgw := h.lt
  have hRo := Lib.hid hop
  clear hi hz0 hz1 hz2 hg h hr hT hS hA hc hop
  obtain ⟨ax, cx, ay, cy, bx, rx, ry⟩ := HM.out.box
  have RM := Lib.hid (ry.mono fun z hz => ⟨hz.2.1, rfl⟩ : RdS (· < w.heap.size) w yl ay yl.length cy)
  obtain ⟨c0, c1, c2, c3, c4, c5, c6, c7, c8, c9⟩ := blk10_cells bx
  have BX := Lib.hid bx
  clear bx rx ry
  go_enter Tryd.func37, Tryd.ntmps37
  go_wp2_with fail
  refine (HR.out _).mono ?_
  rintro e w1 ⟨rfl, b1⟩
  have B1 := Lib.hid b1
  clear b1 HR
  go_wp2_with fail
  refine (HO.out _ B1.out).mono ?_
  rintro e w2 ⟨oa, oc, rfl, ro, b2⟩
  have B2 := Lib.hid (up B1.out b2)
  have RO2 := Lib.hid ro
  have hz1 := B1.out.size
  clear b2 ro B1 HO c0 c1 c2 c3 c4 c5 c6 c7 c8 c9
  obtain ⟨c0, c1, c2, c3, c4, c5, c6, c7, c8, c9⟩ := blk10_cells (BX.out.go B2.out)
  go_wp2_with fail
  refine (HAp.out _ _ _ _ _ (Hg.out.below' B2.out) (RO2.out.wide fun z hz => hz.2)).mono ?_
  rw [HN.out.2]
  rintro e w3 ⟨rfl, b3⟩
  have B3 := Lib.hid (up B2.out b3)
  have RO3 := Lib.hid (RO2.out.freshB b3)
  clear b3 RO2 B2 HAp c0 c1 c2 c3 c4 c5 c6 c7 c8 c9
  obtain ⟨c0, c1, c2, c3, c4, c5, c6, c7, c8, c9⟩ := blk10_cells (BX.out.go B3.out)
  generalize hTn : applyS yt op = Tn at *
  have HTn := Lib.hid hTn
  clear hTn
  go_wp2_with fail
  refine (HSd.out _ _ _ _ _ _ HN.out.1 (Hg.out.below' B3.out) (RM.out.go B3.out) (RO3.out.wide fun z hz => hz.2)).mono ?_
  rintro e w4 ⟨v4, rfl, ho4, b4⟩
  obtain ⟨a4, c4', rfl, r4⟩ := own_rdf ho4
  have hl4 : (yl ++ [op]).length = yl.length + 1 := by simp
  rw [hl4] at r4 ⊢
  have B4 := Lib.hid (up B3.out b4)
  have RO4 := Lib.hid (RO3.out.freshB b4)
  have RL4 := Lib.hid r4
  have hz3 := B3.out.size
  clear b4 r4 ho4 hl4 RO3 B3 HSd HN c0 c1 c2 c3 c4 c5 c6 c7 c8 c9 RM
  go_wp2_with fail
  refine abs_w (fun W => Below w4.heap.size w4 W ∧ Blk w4.heap.size (.cells #[.int .i64 (ys + 1), .int .i64 yh, .slice a4 (yl.length + 1) c4'] 71 (0, 0)) W) ⟨by (repeat (first | exact Below.refl _ _ | assumption | (refine Below.drew ?_) | (refine below_drewN ?_ _) | (refine Below.alloc ?_ (by first | (simp; done) | (simp; omega) | omega) _) | (refine Below.setCell ?_ (by first | (simp; done) | (simp; omega) | omega) _) | (refine Below.trans ?_ (Below.mono (by assumption) (by first | (simp; done) | (simp; omega) | omega))))), Blk.new w4 _⟩ ?_
  rintro w5 ⟨b5, x5⟩
  have B5 := Lib.hid (up B4.out b5)
  have RO5 := Lib.hid (RO4.out.freshB b5)
  have RL5 := Lib.hid (RL4.out.freshB b5)
  have X5 := Lib.hid x5
  have M5 := Lib.hid (HM.out.go B5.out)
  have hz4 := B4.out.size
  have hz45 := x5.lt
  have BX5 := Lib.hid (BX.out.go B5.out)
  clear b5 x5 B4 RO4 RL4 BX
  obtain ⟨Vp, HV⟩ : ∃ Vp : Nat → Value → World → Prop, Hid (Vp = fun i v W => match i with
      | 0 => v = .pointer (some ⟨g, 0, none⟩)
      | 1 => v = .int .i64 1
      | 2 => v = .pointer (some ⟨g, 0, none⟩)
      | 3 => v = .int .i64 1
      | 4 => v = .string Tn
      | 5 => v = .agg #[.int .i64 (ys + 1), .int .i64 yh, .slice a4 (yl.length + 1) c4']
      | 6 => v = .pointer (some ⟨g, 0, none⟩)
      | 7 => v = .pointer (some ⟨g, 0, none⟩)
      | 8 => v = .pointer (some ⟨g, 1, none⟩)
      | 9 => v = undef
      | 10 => v = .pointer (some ⟨g, 0, none⟩)
      | 11 => v = .pointer (some ⟨g, 2, none⟩)
      | 12 => v = .pointer (some ⟨g, 5, none⟩)
      | _ => v = undef) := ⟨_, rfl⟩
  obtain ⟨Ip, HIp⟩ : ∃ Ip : (Nat → Bool) → (Nat → Value) → World → Prop, Hid (Ip = fun L x W => (Touch (fun z => z = g) w5 W ∧ Blk g (.cells #[.string xt, cond (L 9) (.string Tn) (.string yt), .int .i64 xs, .int .i64 xh, .slice ax xl.length cx, cond (L 13) (.int .i64 (ys + 1)) (.int .i64 ys), cond (L 13) (.int .i64 yh) (.int .i64 yh), cond (L 13) (.slice a4 (yl.length + 1) c4') (.slice ay yl.length cy), vx, vy] 86 (0, 0)) W)) := ⟨_, rfl⟩
  refine region_lit3 (by kernel_rfl) (by kernel_rfl) (by kernel_rfl) [[], [], [], [], [], [], [0], [0, 6], [0, 1, 6, 7], [0, 1, 4, 6, 7, 8], [2], [2, 10], [2, 3, 10, 11], [2, 3, 5, 10, 11, 12]] (by kernel_rfl) [some 43, some 44, some 45, some 46, some 47, some 48, some 49, some 50, some 51, none, some 52, some 53, some 54, none] (by kernel_rfl) [[0, 6, 7, 8, 9], [1, 8, 9], [2, 10, 11, 12, 13], [3, 12, 13], [4, 9], [5, 13], [6, 7, 8, 9], [7, 8, 9], [8, 9], [9], [10, 11, 12, 13], [11, 12, 13], [12, 13], [13]] (by kernel_rfl) [[], [], [], [], [], [], [], [], [], [], [], [], [], []] [[], [], [], [], [], [], [0], [6], [1, 7], [4, 8], [2], [10], [3, 11], [5, 12]] (by kernel_rfl)
    Ip
    Vp
    (fun j W W' => match j with
      | 9 => Touch (fun z => z = g) W W'
      | 13 => Touch (fun z => z = g) W W'
      | _ => Below W.heap.size W W')
    [fun x => ⟨#[.pointer (some ⟨g, 0, none⟩), undef, undef, undef, undef, undef, undef, undef, undef, undef, undef, undef, undef, undef, undef, undef, undef, undef, undef, undef, undef, undef, undef, undef, undef, undef, undef, undef, undef, undef, undef, undef, undef, undef, undef, undef, undef, undef, undef, undef, undef, undef, undef, undef], []⟩,
   fun x => ⟨#[undef, .int .i64 1, undef, undef, undef, undef, undef, undef, undef, undef, undef, undef, undef, undef, undef, undef, undef, undef, undef, undef, undef, undef, undef, undef, undef, undef, undef, undef, undef, undef, undef, undef, undef, undef, undef, undef, undef, undef, undef, undef, undef, undef, undef, undef, undef], []⟩,
   fun x => ⟨#[.pointer (some ⟨g, 0, none⟩), undef, undef, undef, undef, undef, undef, undef, undef, undef, undef, undef, undef, undef, undef, undef, undef, undef, undef, undef, undef, undef, undef, undef, undef, undef, undef, undef, undef, undef, undef, undef, undef, undef, undef, undef, undef, undef, undef, undef, undef, undef, undef, undef, undef, undef], []⟩,
   fun x => ⟨#[undef, .int .i64 1, undef, undef, undef, undef, undef, undef, undef, undef, undef, undef, undef, undef, undef, undef, undef, undef, undef, undef, undef, undef, undef, undef, undef, undef, undef, undef, undef, undef, undef, undef, undef, undef, undef, undef, undef, undef, undef, undef, undef, undef, undef, undef, undef, undef, undef], []⟩,
   fun x => ⟨#[undef, undef, undef, undef, undef, undef, undef, undef, .string Tn, undef, undef, undef, undef, undef, undef, undef, undef, undef, undef, undef, undef, undef, undef, undef, undef, undef, undef, undef, undef, undef, undef, undef, undef, undef, undef, undef, undef, undef, undef, undef, undef, undef, undef, undef, undef, undef, undef, undef], []⟩,
   fun x => ⟨#[undef, undef, undef, undef, undef, undef, undef, undef, undef, undef, .pointer (some ⟨w4.heap.size, 0, none⟩), undef, undef, undef, undef, undef, undef, undef, undef, undef, undef, undef, undef, undef, undef, undef, undef, undef, undef, undef, undef, undef, undef, undef, undef, undef, undef, undef, undef, undef, undef, undef, undef, undef, undef, undef, undef, undef, undef], []⟩,
   fun x => ⟨#[undef, undef, undef, undef, undef, undef, undef, undef, undef, undef, undef, undef, undef, undef, undef, undef, undef, undef, undef, undef, undef, undef, undef, undef, undef, undef, undef, undef, undef, undef, undef, undef, undef, undef, undef, undef, undef, undef, undef, undef, undef, undef, undef, x 0, undef, undef, undef, undef, undef, undef], []⟩,
   fun x => ⟨#[undef, undef, undef, undef, undef, undef, undef, undef, undef, undef, undef, undef, undef, undef, undef, undef, undef, undef, undef, undef, undef, undef, undef, undef, undef, undef, undef, undef, undef, undef, undef, undef, undef, undef, undef, undef, undef, undef, undef, undef, undef, undef, undef, undef, undef, undef, undef, undef, undef, x 6, undef], []⟩,
   fun x => ⟨#[undef, undef, undef, undef, undef, undef, undef, undef, undef, undef, undef, undef, undef, undef, undef, undef, undef, undef, undef, undef, undef, undef, undef, undef, undef, undef, undef, undef, undef, undef, undef, undef, undef, undef, undef, undef, undef, undef, undef, undef, undef, undef, undef, undef, x 1, undef, undef, undef, undef, undef, x 7, undef], []⟩,
   fun x => ⟨#[undef, undef, undef, undef, undef, undef, undef, undef, undef, undef, undef, undef, undef, undef, undef, undef, undef, undef, undef, undef, undef, undef, undef, undef, undef, undef, undef, undef, undef, undef, undef, undef, undef, undef, undef, undef, undef, undef, undef, undef, undef, undef, undef, undef, undef, undef, undef, x 4, undef, undef, undef, x 8], []⟩,
   fun x => ⟨#[undef, undef, undef, undef, undef, undef, undef, undef, undef, undef, undef, undef, undef, undef, undef, undef, undef, undef, undef, undef, undef, undef, undef, undef, undef, undef, undef, undef, undef, undef, undef, undef, undef, undef, undef, undef, undef, undef, undef, undef, undef, undef, undef, undef, undef, x 2, undef, undef, undef, undef, undef, undef, undef], []⟩,
   fun x => ⟨#[undef, undef, undef, undef, undef, undef, undef, undef, undef, undef, undef, undef, undef, undef, undef, undef, undef, undef, undef, undef, undef, undef, undef, undef, undef, undef, undef, undef, undef, undef, undef, undef, undef, undef, undef, undef, undef, undef, undef, undef, undef, undef, undef, undef, undef, undef, undef, undef, undef, undef, undef, undef, x 10, undef], []⟩,
   fun x => ⟨#[undef, undef, undef, undef, undef, undef, undef, undef, undef, undef, undef, undef, undef, undef, undef, undef, undef, undef, undef, undef, undef, undef, undef, undef, undef, undef, undef, undef, undef, undef, undef, undef, undef, undef, undef, undef, undef, undef, undef, undef, undef, undef, undef, undef, undef, undef, x 3, undef, undef, undef, undef, undef, undef, x 11, undef], []⟩,
   fun x => ⟨#[undef, undef, undef, undef, undef, undef, undef, undef, undef, undef, undef, undef, undef, undef, undef, undef, undef, undef, undef, undef, undef, undef, undef, undef, undef, undef, undef, undef, undef, undef, undef, undef, undef, undef, undef, undef, undef, undef, undef, undef, undef, undef, undef, undef, undef, undef, undef, undef, x 5, undef, undef, undef, undef, undef, x 12], []⟩]
    ?hF ?mono ?h0 ?step [0, 1, 2, 3, 4, 5, 6, 7, 8, 9, 10, 11, 12, 13] (by kernel_rfl) ?fin
  case hF =>
    exact ⟨fun x => ⟨by kernel_rfl, by kernel_rfl⟩, fun x => ⟨by kernel_rfl, by kernel_rfl⟩, fun x => ⟨by kernel_rfl, by kernel_rfl⟩, fun x => ⟨by kernel_rfl, by kernel_rfl⟩, fun x => ⟨by kernel_rfl, by kernel_rfl⟩, fun x => ⟨by kernel_rfl, by kernel_rfl⟩, fun x => ⟨by kernel_rfl, by kernel_rfl⟩, fun x => ⟨by kernel_rfl, by kernel_rfl⟩, fun x => ⟨by kernel_rfl, by kernel_rfl⟩, fun x => ⟨by kernel_rfl, by kernel_rfl⟩, fun x => ⟨by kernel_rfl, by kernel_rfl⟩, fun x => ⟨by kernel_rfl, by kernel_rfl⟩, fun x => ⟨by kernel_rfl, by kernel_rfl⟩, fun x => ⟨by kernel_rfl, by kernel_rfl⟩, trivial⟩
  case mono =>
    intro i j hi hj hne hna hnk v W W' hE hv
    rw [HV.out] at hv ⊢
    simp only [List.length_cons, List.length_nil] at hi hj
    match i, hi with
    | 0, _ | 1, _ | 2, _ | 3, _ | 4, _ | 5, _ | 6, _ | 7, _ | 8, _ | 9, _ | 10, _ | 11, _ | 12, _ | 13, _ => exact hv
    | m + 14, h => exact absurd h (by omega)
  case h0 => intro x; exact toI HIp ⟨(Touch.refl _ _).drew, BX5.out⟩
  case step =>
    refine ⟨?_, ?_, ?_, ?_, ?_, ?_, ?_, ?_, ?_, ?_, ?_, ?_, ?_, ?_, trivial⟩
    all_goals
      intro x W L hI hL hV
      replace hI : (Touch (fun z => z = g) w5 W ∧ Blk g (.cells #[.string xt, cond (L 9) (.string Tn) (.string yt), .int .i64 xs, .int .i64 xh, .slice ax xl.length cx, cond (L 13) (.int .i64 (ys + 1)) (.int .i64 ys), cond (L 13) (.int .i64 yh) (.int .i64 yh), cond (L 13) (.slice a4 (yl.length + 1) c4') (.slice ay yl.length cy), vx, vy] 86 (0, 0)) W) := ofI HIp hI
      rw [HV.out] at hV
      simp only [AllV, and_true] at hV
    · clear hV
      (try dsimp only)
      have HI := Lib.hid hI
      clear hI
      go_wp2_with fail
      refine step3_done rfl ?_ ?_ ?_
      · exact (toI HIp HI.out)
      · exact (Below.refl _ _)
      · exact (toV HV rfl)
    · clear hV
      (try dsimp only)
      have HI := Lib.hid hI
      clear hI
      go_wp2_with fail
      refine step3_done rfl ?_ ?_ ?_
      · exact (toI HIp HI.out)
      · exact (Below.refl _ _)
      · exact (toV HV rfl)
    · clear hV
      (try dsimp only)
      have HI := Lib.hid hI
      clear hI
      go_wp2_with fail
      refine step3_done rfl ?_ ?_ ?_
      · exact (toI HIp HI.out)
      · exact (Below.refl _ _)
      · exact (toV HV rfl)
    · clear hV
      (try dsimp only)
      have HI := Lib.hid hI
      clear hI
      go_wp2_with fail
      refine step3_done rfl ?_ ?_ ?_
      · exact (toI HIp HI.out)
      · exact (Below.refl _ _)
      · exact (toV HV rfl)
    · clear hV
      (try dsimp only)
      have HI := Lib.hid hI
      clear hI
      go_wp2_with fail
      refine step3_done rfl ?_ ?_ ?_
      · exact (toI HIp HI.out)
      · exact (Below.refl _ _)
      · exact (toV HV rfl)
    · clear hV
      (try dsimp only)
      obtain ⟨q0, q1, q2⟩ := blk3_cells (X5.out.touch hI.1 (by omega))
      have HI := Lib.hid hI
      clear hI
      go_wp2_with fail
      refine step3_done rfl ?_ ?_ ?_
      · exact (toI HIp HI.out)
      · exact (Below.refl _ _)
      · exact (toV HV rfl)
    · have u0 := hV
      clear hV
      simp only [u0]
      clear u0
      have HI := Lib.hid hI
      clear hI
      go_wp2_with fail
      refine step3_done rfl ?_ ?_ ?_
      · exact (toI HIp HI.out)
      · exact (Below.refl _ _)
      · exact (toV HV rfl)
    · have u6 := hV
      clear hV
      simp only [u6]
      clear u6
      have HI := Lib.hid hI
      clear hI
      go_wp2_with fail
      refine step3_done rfl ?_ ?_ ?_
      · exact (toI HIp HI.out)
      · exact (Below.refl _ _)
      · exact (toV HV rfl)
    · obtain ⟨u1, u7⟩ := hV
      simp only [u1, u7]
      clear u1 u7
      have HI := Lib.hid hI
      clear hI
      go_wp2_with fail
      refine step3_done rfl ?_ ?_ ?_
      · exact (toI HIp HI.out)
      · exact (Below.refl _ _)
      · exact (toV HV rfl)
    · obtain ⟨u4, u8⟩ := hV
      simp only [u4, u8]
      clear u4 u8
      obtain ⟨q0, q1, q2, q3, q4, q5, q6, q7, q8, q9⟩ := blk10_cells hI.2
      have fW := hI.2.frozen
      have hl := hI.2.lt
      have HI := Lib.hid hI
      clear hI
      go_wp2_with fail
      have ht := touch1 (w := W) (g := g) (i := 1) (.string Tn)
      refine step3_done (v := undef) rfl ?_ ?_ ?_
      · exact (toI HIp ⟨HI.out.1.trans ht, HI.out.2.set 1 (.string Tn)⟩)
      · exact ht
      · exact (toV HV rfl)
    · have u2 := hV
      clear hV
      simp only [u2]
      clear u2
      have HI := Lib.hid hI
      clear hI
      go_wp2_with fail
      refine step3_done rfl ?_ ?_ ?_
      · exact (toI HIp HI.out)
      · exact (Below.refl _ _)
      · exact (toV HV rfl)
    · have u10 := hV
      clear hV
      simp only [u10]
      clear u10
      have HI := Lib.hid hI
      clear hI
      go_wp2_with fail
      refine step3_done rfl ?_ ?_ ?_
      · exact (toI HIp HI.out)
      · exact (Below.refl _ _)
      · exact (toV HV rfl)
    · obtain ⟨u3, u11⟩ := hV
      simp only [u3, u11]
      clear u3 u11
      have HI := Lib.hid hI
      clear hI
      go_wp2_with fail
      refine step3_done rfl ?_ ?_ ?_
      · exact (toI HIp HI.out)
      · exact (Below.refl _ _)
      · exact (toV HV rfl)
    · obtain ⟨u5, u12⟩ := hV
      simp only [u5, u12]
      clear u5 u12
      obtain ⟨q0, q1, q2, q3, q4, q5, q6, q7, q8, q9⟩ := blk10_cells hI.2
      have fW := hI.2.frozen
      have hl := hI.2.lt
      have HI := Lib.hid hI
      clear hI
      go_wp2_with fail
      have ht := ((touch1 (w := W) (g := g) (i := 5) (.int .i64 (ys + 1))).trans (touch1 (g := g) (i := 6) (.int .i64 yh))).trans (touch1 (g := g) (i := 7) (.slice a4 (yl.length + 1) c4'))
      refine step3_done (v := undef) rfl ?_ ?_ ?_
      · exact (toI HIp ⟨HI.out.1.trans ht, ((HI.out.2.set 5 (.int .i64 (ys + 1))).set 6 (.int .i64 yh)).set 7 (.slice a4 (yl.length + 1) c4')⟩)
      · exact ht
      · exact (toV HV rfl)
  case fin =>
    intro x W L hL hI hV
    replace hI : (Touch (fun z => z = g) w5 W ∧ Blk g (.cells #[.string xt, cond (L 9) (.string Tn) (.string yt), .int .i64 xs, .int .i64 xh, .slice ax xl.length cx, cond (L 13) (.int .i64 (ys + 1)) (.int .i64 ys), cond (L 13) (.int .i64 yh) (.int .i64 yh), cond (L 13) (.slice a4 (yl.length + 1) c4') (.slice ay yl.length cy), vx, vy] 86 (0, 0)) W) := ofI HIp hI
    rw [HV.out] at hV
    simp only [AllV, and_true] at hV
    obtain ⟨u0, u1, u2, u3, u4, u5, u6, u7, u8, u9, u10, u11, u12, u13⟩ := hV
    simp only [getsD, List.getD_cons_succ, List.getD_cons_zero, List.length_cons, List.length_nil, List.range, List.range.loop, u0, u1, u2, u3, u4, u5, u6, u7, u8, u9, u10, u11, u12, u13, Act.put, List.setIfInBounds_toArray, List.set_cons_succ, List.set_cons_zero]
    clear u0 u1 u2 u3 u4 u5 u6 u7 u8 u9 u10 u11 u12 u13
    have hT := hI.1
    have hB := hI.2
    have hl9 := hL 9 (by simp)
    have hl13 := hL 13 (by simp)
    rw [hl9, hl13] at hB
    simp only [cond_true] at hB
    obtain ⟨w6, rfl⟩ : ∃ x : World, x = W := ⟨_, rfl⟩
    have hz56 := hT.size
    have hwz := B5.out.size
    obtain ⟨⟨ax', cx', ay', cy', bo, rx, ry⟩, o1, o2⟩ := M5.out.rest hT
    have eo := (bo.cell 4).symm.trans (BX5.out.cell 4)
    have eo' : Value.slice ax' xl.length cx' = .slice ax xl.length cx := Option.some.inj eo
    injection eo' with e1 e2 e3
    subst e1 e3
    have M5b := hB
    have hgm := M5.out
    have hlm : (yl ++ [op]).length = yl.length + 1 := by simp
    have RL6 : RdS (PC base g vx vy w6) w6 (yl ++ [op]) a4 (yl.length + 1) c4' := RL5.out.mono fun z hz => ⟨⟨by omega, by omega, by omega, fun e => by have := (HM.out.fx.rowlt z e).2; omega, fun e => by have := (HM.out.fy.rowlt z e).2; omega⟩, hT.block z hz.2 (by omega)⟩
    have M6 : Hid (PairM base g (Sd.mk xt xs xh xl xf) (Sd.mk Tn (ys + 1) yh (yl ++ [op]) yf) vx vy w6) := ⟨⟨ax', cx', a4, c4', by have := M5b; rw [← hlm] at this; exact this, rx, by rw [hlm]; exact RL6⟩, o1, o2, hgm.gb, hgm.nx, hgm.ny⟩
    have B6 : Hid (Below base w w6) := ((Touch.of_below (S := fun _ => False) B5.out).toBelow (by omega) (fun k hk => hk.elim)).trans (hT.toBelow (by omega) (fun k hk => by omega))
    have X6 := Lib.hid (X5.out.touch hT (by omega))
    have RO6 : Hid (RdS (fun z => w1.heap.size ≤ z ∧ z < w6.heap.size) w6 op oa op.length oc) := RO5.out.mono fun z hz => ⟨⟨hz.1, by omega⟩, hT.block z hz.2 (by omega)⟩
    have hrx := Lib.hid HM.out.fx.rowlt
    have hry := Lib.hid HM.out.fy.rowlt
    have hgx := Lib.hid HM.out.nx
    have hgy := Lib.hid HM.out.ny
    clear hI hL hT hB hl9 hl13 rx ry o1 o2 hgm RL6 M5 BX5 X5 B5 RO5 RL5 HM
    go_wp2_with fail
    obtain ⟨Vp, HV⟩ : ∃ Vp : Nat → Value → World → Prop, Hid (Vp = fun i v W => match i with
        | 0 => v = .pointer (some ⟨g, 0, none⟩)
        | 1 => v = .int .i64 1
        | 2 => v = .pointer (some ⟨g, 0, none⟩)
        | 3 => v = .int .i64 1
        | 4 => v = .pointer (some ⟨g, 0, none⟩)
        | 5 => v = .pointer (some ⟨g, 8, none⟩)
        | 6 => v = .pointer (some ⟨g, 9, none⟩)
        | 7 => v = vy
        | 8 => v = .pointer (some ⟨w4.heap.size, 1, none⟩)
        | 9 => v = .int .i64 yh
        | 10 => v = .slice oa op.length oc
        | 11 => v = .agg #[.int .i64 0, .int .i64 yh, .int .i64 0, .slice oa op.length oc, .string ⟨#[]⟩]
        | 12 => ∃ b, v = .slice (some ⟨b, 0, none⟩) 1 1 ∧ Blk b (.cells #[.int .i64 0, .int .i64 yh, .int .i64 0, .slice oa op.length oc, .string ⟨#[]⟩] 30 (0, 0)) W ∧ w6.heap.size ≤ b
        | 13 => ∃ q o c, v = .slice (some ⟨q, o, none⟩) (yf.length + 1) c
        | 14 => v = .pointer (some ⟨g, 0, none⟩)
        | 15 => v = .pointer (some ⟨g, 8, none⟩)
        | 16 => v = .pointer (some ⟨g, 9, none⟩)
        | _ => v = undef) := ⟨_, rfl⟩
    obtain ⟨Ip, HIp⟩ : ∃ Ip : (Nat → Bool) → (Nat → Value) → World → Prop, Hid (Ip = fun L x W => (Touch (fun z => z = g ∨ vy.ownBlock = some z) w6 W ∧ (L 13 = false → PairM base g (Sd.mk xt xs xh xl xf) (Sd.mk Tn (ys + 1) yh (yl ++ [op]) yf) vx vy W) ∧ (L 13 = true → L 17 = false → PairG base g (Sd.mk xt xs xh xl xf) (Sd.mk Tn (ys + 1) yh (yl ++ [op]) (yf ++ [Fr.mk 0 yh 0 op noText])) vx vy vx (x 13) W) ∧ (L 17 = true → ∃ v', PairM base g (Sd.mk xt xs xh xl xf) (Sd.mk Tn (ys + 1) yh (yl ++ [op]) (yf ++ [Fr.mk 0 yh 0 op noText])) vx v' W))) := ⟨_, rfl⟩
    refine region_lit3 (by kernel_rfl) (by kernel_rfl) (by kernel_rfl) [[], [], [], [], [2], [2, 4], [2, 3, 4, 5], [2, 3, 4, 5, 6], [], [8], [], [8, 9, 10], [8, 9, 10, 11], [2, 3, 4, 5, 6, 7, 8, 9, 10, 11, 12], [0], [0, 14], [0, 1, 14, 15], [0, 1, 2, 3, 4, 5, 6, 7, 8, 9, 10, 11, 12, 13, 14, 15, 16]] (by kernel_rfl) [some 55, some 56, some 57, some 58, some 59, some 60, some 61, some 62, some 63, some 64, some 65, some 66, some 67, some 68, some 69, some 70, some 71, none] (by kernel_rfl) [[0, 14, 15, 16, 17], [1, 16, 17], [2, 4, 5, 6, 7, 13, 17], [3, 6, 7, 13, 17], [4, 5, 6, 7, 13, 17], [5, 6, 7, 13, 17], [6, 7, 13, 17], [7, 13, 17], [8, 9, 11, 12, 13, 17], [9, 11, 12, 13, 17], [10, 11, 12, 13, 17], [11, 12, 13, 17], [12, 13, 17], [13, 17], [14, 15, 16, 17], [15, 16, 17], [16, 17], [17]] (by kernel_rfl) [[], [], [], [], [], [], [], [], [], [], [], [], [13, 17], [], [], [], [], []] [[], [], [], [], [2], [4], [3, 5], [6], [], [8], [], [9, 10], [11], [7, 12], [0], [14], [1, 15], [13, 16]] (by kernel_rfl)
      Ip
      Vp
      (fun j W W' => match j with
        | 13 => W.grownBy W' vy.ownBlock
        | 17 => Touch (fun z => z = g) W W'
        | _ => Below W.heap.size W W')
      [fun x => ⟨#[.pointer (some ⟨g, 0, none⟩), undef, undef, undef, undef, undef, undef, undef, undef, undef, undef, undef, undef, undef, undef, undef, undef, undef, undef, undef, undef, undef, undef, undef, undef, undef, undef, undef, undef, undef, undef, undef, undef, undef, undef, undef, undef, undef, undef, undef, undef, undef, undef, undef, undef, undef, undef, undef, undef, undef, undef, undef, undef, undef, undef, undef], []⟩,
   fun x => ⟨#[undef, .int .i64 1, undef, undef, undef, undef, undef, undef, undef, undef, undef, undef, undef, undef, undef, undef, undef, undef, undef, undef, undef, undef, undef, undef, undef, undef, undef, undef, undef, undef, undef, undef, undef, undef, undef, undef, undef, undef, undef, undef, undef, undef, undef, undef, undef, undef, undef, undef, undef, undef, undef, undef, undef, undef, undef, undef, undef], []⟩,
   fun x => ⟨#[.pointer (some ⟨g, 0, none⟩), undef, undef, undef, undef, undef, undef, undef, undef, undef, undef, undef, undef, undef, undef, undef, undef, undef, undef, undef, undef, undef, undef, undef, undef, undef, undef, undef, undef, undef, undef, undef, undef, undef, undef, undef, undef, undef, undef, undef, undef, undef, undef, undef, undef, undef, undef, undef, undef, undef, undef, undef, undef, undef, undef, undef, undef, undef], []⟩,
   fun x => ⟨#[undef, .int .i64 1, undef, undef, undef, undef, undef, undef, undef, undef, undef, undef, undef, undef, undef, undef, undef, undef, undef, undef, undef, undef, undef, undef, undef, undef, undef, undef, undef, undef, undef, undef, undef, undef, undef, undef, undef, undef, undef, undef, undef, undef, undef, undef, undef, undef, undef, undef, undef, undef, undef, undef, undef, undef, undef, undef, undef, undef, undef], []⟩,
   fun x => ⟨#[undef, undef, undef, undef, undef, undef, undef, undef, undef, undef, undef, undef, undef, undef, undef, undef, undef, undef, undef, undef, undef, undef, undef, undef, undef, undef, undef, undef, undef, undef, undef, undef, undef, undef, undef, undef, undef, undef, undef, undef, undef, undef, undef, undef, undef, undef, undef, undef, undef, undef, undef, undef, undef, undef, undef, undef, undef, x 2, undef, undef], []⟩,
   fun x => ⟨#[undef, undef, undef, undef, undef, undef, undef, undef, undef, undef, undef, undef, undef, undef, undef, undef, undef, undef, undef, undef, undef, undef, undef, undef, undef, undef, undef, undef, undef, undef, undef, undef, undef, undef, undef, undef, undef, undef, undef, undef, undef, undef, undef, undef, undef, undef, undef, undef, undef, undef, undef, undef, undef, undef, undef, undef, undef, undef, undef, x 4, undef], []⟩,
   fun x => ⟨#[undef, undef, undef, undef, undef, undef, undef, undef, undef, undef, undef, undef, undef, undef, undef, undef, undef, undef, undef, undef, undef, undef, undef, undef, undef, undef, undef, undef, undef, undef, undef, undef, undef, undef, undef, undef, undef, undef, undef, undef, undef, undef, undef, undef, undef, undef, undef, undef, undef, undef, undef, undef, undef, undef, undef, undef, undef, undef, x 3, undef, x 5, undef], []⟩,
   fun x => ⟨#[undef, undef, undef, undef, undef, undef, undef, undef, undef, undef, undef, undef, undef, undef, undef, undef, undef, undef, undef, undef, undef, undef, undef, undef, undef, undef, undef, undef, undef, undef, undef, undef, undef, undef, undef, undef, undef, undef, undef, undef, undef, undef, undef, undef, undef, undef, undef, undef, undef, undef, undef, undef, undef, undef, undef, undef, undef, undef, undef, undef, undef, x 6, undef], []⟩,
   fun x => ⟨#[undef, undef, undef, undef, undef, undef, undef, undef, undef, undef, .pointer (some ⟨w4.heap.size, 0, none⟩), undef, undef, undef, undef, undef, undef, undef, undef, undef, undef, undef, undef, undef, undef, undef, undef, undef, undef, undef, undef, undef, undef, undef, undef, undef, undef, undef, undef, undef, undef, undef, undef, undef, undef, undef, undef, undef, undef, undef, undef, undef, undef, undef, undef, undef, undef, undef, undef, undef, undef, undef, undef, undef], []⟩,
   fun x => ⟨#[undef, undef, undef, undef, undef, undef, undef, undef, undef, undef, undef, undef, undef, undef, undef, undef, undef, undef, undef, undef, undef, undef, undef, undef, undef, undef, undef, undef, undef, undef, undef, undef, undef, undef, undef, undef, undef, undef, undef, undef, undef, undef, undef, undef, undef, undef, undef, undef, undef, undef, undef, undef, undef, undef, undef, undef, undef, undef, undef, undef, undef, undef, undef, x 8, undef], []⟩,
   fun x => ⟨#[undef, undef, undef, undef, undef, undef, undef, .slice oa op.length oc, undef, undef, undef, undef, undef, undef, undef, undef, undef, undef, undef, undef, undef, undef, undef, undef, undef, undef, undef, undef, undef, undef, undef, undef, undef, undef, undef, undef, undef, undef, undef, undef, undef, undef, undef, undef, undef, undef, undef, undef, undef, undef, undef, undef, undef, undef, undef, undef, undef, undef, undef, undef, undef, undef, undef, undef, undef, undef], []⟩,
   fun x => ⟨#[undef, undef, undef, undef, undef, undef, undef, undef, undef, undef, undef, undef, undef, undef, undef, undef, undef, undef, undef, undef, undef, undef, undef, undef, undef, undef, undef, undef, undef, undef, undef, undef, undef, undef, undef, undef, undef, undef, undef, undef, undef, undef, undef, undef, undef, undef, undef, undef, undef, undef, undef, undef, undef, undef, undef, undef, undef, undef, undef, undef, undef, undef, undef, undef, x 9, x 10, undef], []⟩,
   fun x => ⟨#[undef, undef, undef, undef, undef, undef, undef, undef, undef, undef, undef, undef, undef, undef, undef, undef, undef, undef, undef, undef, undef, undef, undef, undef, undef, undef, undef, undef, undef, undef, undef, undef, undef, undef, undef, undef, undef, undef, undef, undef, undef, undef, undef, undef, undef, undef, undef, undef, undef, undef, undef, undef, undef, undef, undef, undef, undef, undef, undef, undef, undef, undef, undef, undef, undef, undef, x 11, undef], []⟩,
   fun x => ⟨#[undef, undef, undef, undef, undef, undef, undef, undef, undef, undef, undef, undef, undef, undef, undef, undef, undef, undef, undef, undef, undef, undef, undef, undef, undef, undef, undef, undef, undef, undef, undef, undef, undef, undef, undef, undef, undef, undef, undef, undef, undef, undef, undef, undef, undef, undef, undef, undef, undef, undef, undef, undef, undef, undef, undef, undef, undef, undef, undef, undef, undef, undef, x 7, undef, undef, undef, undef, x 12, undef], []⟩,
   fun x => ⟨#[undef, undef, undef, undef, undef, undef, undef, undef, undef, undef, undef, undef, undef, undef, undef, undef, undef, undef, undef, undef, undef, undef, undef, undef, undef, undef, undef, undef, undef, undef, undef, undef, undef, undef, undef, undef, undef, undef, undef, undef, undef, undef, undef, undef, undef, undef, undef, undef, undef, undef, undef, undef, undef, undef, undef, x 0, undef, undef, undef, undef, undef, undef, undef, undef, undef, undef, undef, undef, undef, undef], []⟩,
   fun x => ⟨#[undef, undef, undef, undef, undef, undef, undef, undef, undef, undef, undef, undef, undef, undef, undef, undef, undef, undef, undef, undef, undef, undef, undef, undef, undef, undef, undef, undef, undef, undef, undef, undef, undef, undef, undef, undef, undef, undef, undef, undef, undef, undef, undef, undef, undef, undef, undef, undef, undef, undef, undef, undef, undef, undef, undef, undef, undef, undef, undef, undef, undef, undef, undef, undef, undef, undef, undef, undef, undef, x 14, undef], []⟩,
   fun x => ⟨#[undef, undef, undef, undef, undef, undef, undef, undef, undef, undef, undef, undef, undef, undef, undef, undef, undef, undef, undef, undef, undef, undef, undef, undef, undef, undef, undef, undef, undef, undef, undef, undef, undef, undef, undef, undef, undef, undef, undef, undef, undef, undef, undef, undef, undef, undef, undef, undef, undef, undef, undef, undef, undef, undef, undef, undef, x 1, undef, undef, undef, undef, undef, undef, undef, undef, undef, undef, undef, undef, undef, x 15, undef], []⟩,
   fun x => ⟨#[undef, undef, undef, undef, undef, undef, undef, undef, undef, undef, undef, undef, undef, undef, undef, undef, undef, undef, undef, undef, undef, undef, undef, undef, undef, undef, undef, undef, undef, undef, undef, undef, undef, undef, undef, undef, undef, undef, undef, undef, undef, undef, undef, undef, undef, undef, undef, undef, undef, undef, undef, undef, undef, undef, undef, undef, undef, undef, undef, undef, undef, undef, undef, undef, undef, undef, undef, undef, x 13, undef, undef, x 16], []⟩]
      ?hF ?mono ?h0 ?step [0, 1, 2, 3, 4, 5, 6, 7, 8, 9, 10, 11, 13, 14, 15, 16, 17] (by kernel_rfl) ?fin
    case hF =>
      exact ⟨fun x => ⟨by kernel_rfl, by kernel_rfl⟩, fun x => ⟨by kernel_rfl, by kernel_rfl⟩, fun x => ⟨by kernel_rfl, by kernel_rfl⟩, fun x => ⟨by kernel_rfl, by kernel_rfl⟩, fun x => ⟨by kernel_rfl, by kernel_rfl⟩, fun x => ⟨by kernel_rfl, by kernel_rfl⟩, fun x => ⟨by kernel_rfl, by kernel_rfl⟩, fun x => ⟨by kernel_rfl, by kernel_rfl⟩, fun x => ⟨by kernel_rfl, by kernel_rfl⟩, fun x => ⟨by kernel_rfl, by kernel_rfl⟩, fun x => ⟨by kernel_rfl, by kernel_rfl⟩, fun x => ⟨by kernel_rfl, by kernel_rfl⟩, fun x => ⟨by kernel_rfl, by kernel_rfl⟩, fun x => ⟨by kernel_rfl, by kernel_rfl⟩, fun x => ⟨by kernel_rfl, by kernel_rfl⟩, fun x => ⟨by kernel_rfl, by kernel_rfl⟩, fun x => ⟨by kernel_rfl, by kernel_rfl⟩, fun x => ⟨by kernel_rfl, by kernel_rfl⟩, trivial⟩
    case mono =>
      intro i j hi hj hne hna hnk v W W' hE hv
      rw [HV.out] at hv ⊢
      simp only [List.length_cons, List.length_nil] at hi hj
      match i, hi with
      | 0, _ | 1, _ | 2, _ | 3, _ | 4, _ | 5, _ | 6, _ | 7, _ | 8, _ | 9, _ | 10, _ | 11, _ | 14, _ | 15, _ | 16, _ | 17, _ => exact hv
      | 12, _ =>
        match j, hj with
        | 12, _ => exact absurd rfl hne
        | 8, _ => exact absurd (by simp) hna
        | 9, _ => exact absurd (by simp) hna
        | 10, _ => exact absurd (by simp) hna
        | 11, _ => exact absurd (by simp) hna
        | 13, _ => exact absurd (by simp) hnk
        | 17, _ => exact absurd (by simp) hnk
        | 0, _ => exact (by obtain ⟨b, h1, h2, h3⟩ := hv; exact ⟨b, h1, h2.go hE, h3⟩)
        | 1, _ => exact (by obtain ⟨b, h1, h2, h3⟩ := hv; exact ⟨b, h1, h2.go hE, h3⟩)
        | 2, _ => exact (by obtain ⟨b, h1, h2, h3⟩ := hv; exact ⟨b, h1, h2.go hE, h3⟩)
        | 3, _ => exact (by obtain ⟨b, h1, h2, h3⟩ := hv; exact ⟨b, h1, h2.go hE, h3⟩)
        | 4, _ => exact (by obtain ⟨b, h1, h2, h3⟩ := hv; exact ⟨b, h1, h2.go hE, h3⟩)
        | 5, _ => exact (by obtain ⟨b, h1, h2, h3⟩ := hv; exact ⟨b, h1, h2.go hE, h3⟩)
        | 6, _ => exact (by obtain ⟨b, h1, h2, h3⟩ := hv; exact ⟨b, h1, h2.go hE, h3⟩)
        | 7, _ => exact (by obtain ⟨b, h1, h2, h3⟩ := hv; exact ⟨b, h1, h2.go hE, h3⟩)
        | 14, _ => exact (by obtain ⟨b, h1, h2, h3⟩ := hv; exact ⟨b, h1, h2.go hE, h3⟩)
        | 15, _ => exact (by obtain ⟨b, h1, h2, h3⟩ := hv; exact ⟨b, h1, h2.go hE, h3⟩)
        | 16, _ => exact (by obtain ⟨b, h1, h2, h3⟩ := hv; exact ⟨b, h1, h2.go hE, h3⟩)
        | m + 18, h => exact absurd h (by omega)
      | 13, _ =>
        match j, hj with
        | 13, _ => exact absurd rfl hne
        | 2, _ => exact absurd (by simp) hna
        | 3, _ => exact absurd (by simp) hna
        | 4, _ => exact absurd (by simp) hna
        | 5, _ => exact absurd (by simp) hna
        | 6, _ => exact absurd (by simp) hna
        | 7, _ => exact absurd (by simp) hna
        | 8, _ => exact absurd (by simp) hna
        | 9, _ => exact absurd (by simp) hna
        | 10, _ => exact absurd (by simp) hna
        | 11, _ => exact absurd (by simp) hna
        | 12, _ => exact absurd (by simp) hna
        | 0, _ => exact (id hv)
        | 1, _ => exact (id hv)
        | 14, _ => exact (id hv)
        | 15, _ => exact (id hv)
        | 16, _ => exact (id hv)
        | 17, _ => exact (id hv)
        | m + 18, h => exact absurd h (by omega)
      | m + 18, h => exact absurd h (by omega)
    case h0 => intro x; exact toI HIp ⟨(Touch.refl _ _).drew, (fun _ => M6.out.go (Below.refl _ _).drew), (fun h => by cases h), (fun h => by cases h)⟩
    case step =>
      refine ⟨?_, ?_, ?_, ?_, ?_, ?_, ?_, ?_, ?_, ?_, ?_, ?_, ?_, ?_, ?_, ?_, ?_, ?_, trivial⟩
      all_goals
        intro x W L hI hL hV
        replace hI : (Touch (fun z => z = g ∨ vy.ownBlock = some z) w6 W ∧ (L 13 = false → PairM base g (Sd.mk xt xs xh xl xf) (Sd.mk Tn (ys + 1) yh (yl ++ [op]) yf) vx vy W) ∧ (L 13 = true → L 17 = false → PairG base g (Sd.mk xt xs xh xl xf) (Sd.mk Tn (ys + 1) yh (yl ++ [op]) (yf ++ [Fr.mk 0 yh 0 op noText])) vx vy vx (x 13) W) ∧ (L 17 = true → ∃ v', PairM base g (Sd.mk xt xs xh xl xf) (Sd.mk Tn (ys + 1) yh (yl ++ [op]) (yf ++ [Fr.mk 0 yh 0 op noText])) vx v' W)) := ofI HIp hI
        rw [HV.out] at hV
        simp only [AllV, and_true] at hV
      · clear hV
        (try dsimp only)
        have HI := Lib.hid hI
        clear hI
        go_wp2_with fail
        refine step3_done rfl ?_ ?_ ?_
        · exact (toI HIp HI.out)
        · exact (Below.refl _ _)
        · exact (toV HV rfl)
      · clear hV
        (try dsimp only)
        have HI := Lib.hid hI
        clear hI
        go_wp2_with fail
        refine step3_done rfl ?_ ?_ ?_
        · exact (toI HIp HI.out)
        · exact (Below.refl _ _)
        · exact (toV HV rfl)
      · clear hV
        (try dsimp only)
        have HI := Lib.hid hI
        clear hI
        go_wp2_with fail
        refine step3_done rfl ?_ ?_ ?_
        · exact (toI HIp HI.out)
        · exact (Below.refl _ _)
        · exact (toV HV rfl)
      · clear hV
        (try dsimp only)
        have HI := Lib.hid hI
        clear hI
        go_wp2_with fail
        refine step3_done rfl ?_ ?_ ?_
        · exact (toI HIp HI.out)
        · exact (Below.refl _ _)
        · exact (toV HV rfl)
      · have u2 := hV
        clear hV
        simp only [u2]
        clear u2
        have HI := Lib.hid hI
        clear hI
        go_wp2_with fail
        refine step3_done rfl ?_ ?_ ?_
        · exact (toI HIp HI.out)
        · exact (Below.refl _ _)
        · exact (toV HV rfl)
      · have u4 := hV
        clear hV
        simp only [u4]
        clear u4
        have HI := Lib.hid hI
        clear hI
        go_wp2_with fail
        refine step3_done rfl ?_ ?_ ?_
        · exact (toI HIp HI.out)
        · exact (Below.refl _ _)
        · exact (toV HV rfl)
      · obtain ⟨u3, u5⟩ := hV
        simp only [u3, u5]
        clear u3 u5
        have HI := Lib.hid hI
        clear hI
        go_wp2_with fail
        refine step3_done rfl ?_ ?_ ?_
        · exact (toI HIp HI.out)
        · exact (Below.refl _ _)
        · exact (toV HV rfl)
      · have u6 := hV
        clear hV
        simp only [u6]
        clear u6
        obtain ⟨_, _, _, _, bM, -⟩ := (hI.2.1 (hL.2 13 (by simp))).box
        obtain ⟨q0, q1, q2, q3, q4, q5, q6, q7, q8, q9⟩ := blk10_cells bM
        have HI := Lib.hid hI
        clear hI bM
        go_wp2_with fail
        refine step3_done rfl ?_ ?_ ?_
        · exact (toI HIp HI.out)
        · exact (Below.refl _ _)
        · exact (toV HV rfl)
      · clear hV
        (try dsimp only)
        have HI := Lib.hid hI
        clear hI
        go_wp2_with fail
        refine step3_done rfl ?_ ?_ ?_
        · exact (toI HIp HI.out)
        · exact (Below.refl _ _)
        · exact (toV HV rfl)
      · have u8 := hV
        clear hV
        simp only [u8]
        clear u8
        obtain ⟨q0, q1, q2⟩ := blk3_cells (X6.out.touch hI.1 (fun h => by
          rcases h with h | h
          · omega
          · have := (hry.out _ h).2; omega))
        have HI := Lib.hid hI
        clear hI
        go_wp2_with fail
        refine step3_done rfl ?_ ?_ ?_
        · exact (toI HIp HI.out)
        · exact (Below.refl _ _)
        · exact (toV HV rfl)
      · clear hV
        (try dsimp only)
        have HI := Lib.hid hI
        clear hI
        go_wp2_with fail
        refine step3_done rfl ?_ ?_ ?_
        · exact (toI HIp HI.out)
        · exact (Below.refl _ _)
        · exact (toV HV rfl)
      · obtain ⟨u9, u10⟩ := hV
        simp only [u9, u10]
        clear u9 u10
        have HI := Lib.hid hI
        clear hI
        go_wp2_with fail
        refine step3_done rfl ?_ ?_ ?_
        · exact (toI HIp HI.out)
        · exact (Below.refl _ _)
        · exact (toV HV rfl)
      · have u11 := hV
        clear hV
        simp only [u11]
        clear u11
        have HL := Lib.hid hL
        have HI := Lib.hid hI
        have hzW := hI.1.size
        clear hI hL
        go_wp2_with fail
        have uW : ∀ o, Below W.heap.size W (W.alloc o) := fun o => (Below.refl _ _).alloc (Nat.le_refl _) o
        refine step3_done rfl ?_ ?_ ?_
        · exact (toI HIp ⟨HI.out.1.below (uW _) hzW, fun h => (HI.out.2.1 h).go (uW _), fun h => absurd ((HL.out.2 13 (by simp)).symm.trans h) (by simp), fun h => absurd ((HL.out.2 17 (by simp)).symm.trans h) (by simp)⟩)
        · exact (uW _)
        · exact (toV HV ⟨_, rfl, Blk.new _ _, hzW⟩)
      · obtain ⟨u7, ⟨g12, u12, b12, l12⟩⟩ := hV
        simp only [u7, u12]
        have U12 := Lib.hid u12
        clear u7 u12
        have hM := hI.2.1 (hL.2 13 (by simp))
        have HL := Lib.hid hL
        have HI := Lib.hid hI
        have HM13 := Lib.hid hM
        have B12 := Lib.hid b12
        have hz6 := hI.1.size
        have hbW : base ≤ W.heap.size := by omega
        have Hy : Hid (Rep.rd (fun z => z < W.heap.size ∧ ¬ (fun z => z < base ∨ z = g ∨ vx.ownBlock = some z) z ∧ vy.ownBlock ≠ some z) W (⟨0, yh, 0, op, noText⟩ : Fr) [.int .i64 0, .int .i64 yh, .int .i64 0, .slice oa op.length oc, .string ⟨#[]⟩]) := by
          refine ⟨oa, op.length, oc, rfl, RO6.out.mono fun z hz => ⟨⟨by omega, ?_, fun e => by have := (hry.out z e).2; omega⟩, hI.1.block z hz.2 ?_⟩, by unfold I64; simp, by unfold I64; simp only; omega, by unfold I64; simp, by simp [noText_size]⟩
          · rintro (h | h | h)
            · omega
            · omega
            · have := (hrx.out z h).2; omega
          · rintro (h | h)
            · omega
            · have := (hry.out z h).2; omega
        clear hI hL b12 hM
        go_wp2_with (at_builtin; refine wpList_append_oneO rfl _ _ _ (by rfl) base 30 i0 _ 64 Tryd.underlying31 Hi.out Hz0.out Hz1.out Hz2.out rfl vy yf (by rfl) HM13.out.fy g12 1 _ [.int .i64 0, .int .i64 yh, .int .i64 0, .slice oa op.length oc, .string ⟨#[]⟩] (⟨0, yh, 0, op, noText⟩ : Fr) (by rfl) B12.out Hy.out (by unfold maxLen; omega) (by omega) hbW ?_)
        intro g2 o2 cap w7 hown7 hgrow hat hlt7
        have HG := Lib.hid hgrow
        have HP := Lib.hid (HM13.out.growy hgrow hown7 (fun k hk => by
          have e : g2 = k := by simpa [Value.ownBlock] using hk
          subst e
          exact hat))
        have HT := Lib.hid (HI.out.1.grown hgrow (fun k hk => .inl (.inr hk)))
        clear hgrow hown7 hat HI HM13 B12 Hy
        go_wp2_with fail
        refine step3_done rfl ?_ ?_ ?_
        · exact (toI HIp ⟨HT.out, fun h => absurd h (by simp [setB]), fun _ _ => HP.out, fun h : L 17 = true => absurd ((HL.out.2 17 (by simp)).symm.trans h) (by simp)⟩)
        · exact HG.out
        · exact (toV HV ⟨_, _, _, rfl⟩)
      · have u0 := hV
        clear hV
        simp only [u0]
        clear u0
        have HI := Lib.hid hI
        clear hI
        go_wp2_with fail
        refine step3_done rfl ?_ ?_ ?_
        · exact (toI HIp HI.out)
        · exact (Below.refl _ _)
        · exact (toV HV rfl)
      · have u14 := hV
        clear hV
        simp only [u14]
        clear u14
        have HI := Lib.hid hI
        clear hI
        go_wp2_with fail
        refine step3_done rfl ?_ ?_ ?_
        · exact (toI HIp HI.out)
        · exact (Below.refl _ _)
        · exact (toV HV rfl)
      · obtain ⟨u1, u15⟩ := hV
        simp only [u1, u15]
        clear u1 u15
        have HI := Lib.hid hI
        clear hI
        go_wp2_with fail
        refine step3_done rfl ?_ ?_ ?_
        · exact (toI HIp HI.out)
        · exact (Below.refl _ _)
        · exact (toV HV rfl)
      · obtain ⟨⟨g13, o13, c13, u13⟩, u16⟩ := hV
        simp only [u13, u16]
        have U13 := Lib.hid u13
        clear u13 u16
        have hM := hI.2.2.1 (hL.1 13 (by simp)) (hL.2 17 (by simp))
        rw [U13.out] at hM
        obtain ⟨_, _, _, _, bM, -⟩ := hM.box
        obtain ⟨q0, q1, q2, q3, q4, q5, q6, q7, q8, q9⟩ := blk10_cells bM
        have fW := bM.frozen
        have hl := bM.lt
        have HL := Lib.hid hL
        have HI := Lib.hid hI
        have HM17 := Lib.hid hM
        clear hI hL hM bM
        go_wp2_with fail
        have ht := touch1 (w := W) (g := g) (i := 9) (.slice (some ⟨g13, o13, none⟩) (yf.length + 1) c13)
        refine step3_done (v := undef) rfl ?_ ?_ ?_
        · exact (toI HIp ⟨HI.out.1.trans (ht.mono fun k _ hk => .inl hk), fun h : L 13 = false => absurd ((HL.out.1 13 (by simp)).symm.trans h) (by simp), fun _ h => absurd h (by simp [setB]), fun _ => ⟨_, HM17.out.put ht (fun _ _ _ _ b => b.set 9 _)⟩⟩)
        · exact ht
        · exact (toV HV rfl)
    case fin =>
      intro x W L hL hI hV
      replace hI : (Touch (fun z => z = g ∨ vy.ownBlock = some z) w6 W ∧ (L 13 = false → PairM base g (Sd.mk xt xs xh xl xf) (Sd.mk Tn (ys + 1) yh (yl ++ [op]) yf) vx vy W) ∧ (L 13 = true → L 17 = false → PairG base g (Sd.mk xt xs xh xl xf) (Sd.mk Tn (ys + 1) yh (yl ++ [op]) (yf ++ [Fr.mk 0 yh 0 op noText])) vx vy vx (x 13) W) ∧ (L 17 = true → ∃ v', PairM base g (Sd.mk xt xs xh xl xf) (Sd.mk Tn (ys + 1) yh (yl ++ [op]) (yf ++ [Fr.mk 0 yh 0 op noText])) vx v' W)) := ofI HIp hI
      rw [HV.out] at hV
      simp only [AllV, and_true] at hV
      obtain ⟨u0, u1, u2, u3, u4, u5, u6, u7, u8, u9, u10, u11, ⟨g13, o13, c13, u13⟩, u14, u15, u16, u17⟩ := hV
      simp only [getsD, List.getD_cons_succ, List.getD_cons_zero, List.length_cons, List.length_nil, List.range, List.range.loop, u0, u1, u2, u3, u4, u5, u6, u7, u8, u9, u10, u11, u13, u14, u15, u16, u17, Act.put, List.setIfInBounds_toArray, List.set_cons_succ, List.set_cons_zero]
      clear u0 u1 u2 u3 u4 u5 u6 u7 u8 u9 u10 u11 u13 u14 u15 u16 u17
      obtain ⟨v', hM⟩ := hI.2.2.2 (hL 17 (by simp))
      have hT := hI.1
      have HM7 := Lib.hid hM
      have B7 : Hid (Below base w W) := B6.out.trans (hT.toBelow (by omega) (fun k hk => by
        rcases hk with hk | hk
        · omega
        · exact (hry.out k hk).1))
      clear hI hL hM hT
      go_wp2_with fail
      go_ret
      refine ⟨rfl, ⟨v', ?_⟩, B7.out⟩
      rw [HTn.out]
      exact HM7.out
end Go.Proofs.YtkhacogeffidoaaDoor
