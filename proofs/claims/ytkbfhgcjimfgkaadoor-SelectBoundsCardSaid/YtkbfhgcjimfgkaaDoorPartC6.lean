/- The walk of SelectBounds. -/
import Derived.Test.YtkbfhgcjimfgkaaDoorPartC4
import Derived.Test.YtkbfhgcjimfgkaaDoorPartC5
import Derived.Test.YtkbfhgcjimfgkaaDoorPartA3
set_option linter.unusedVariables false
set_option linter.unusedSimpArgs false
set_option linter.unusedSimpArgs false
namespace Go.Proofs.YtkbfhgcjimfgkaaDoor
open Go.RowKit
set_option maxRecDepth 100000 in
set_option maxHeartbeats 8000000 in
theorem selectBounds_walk (w : World) (hg : Good w) (s : Str) (hs : s.size ≤ maxLen) (x : Int) (hx : I64 x) (y : Int) (hy : I64 y) (la : Option Addr) (ln lc : Nat) (l : List Raw) (hr : RdS (· < w.heap.size) w l la ln lc) :
    Calls Tryd.prog 6 #[.string s, .int .i64 x, .int .i64 y, .slice la ln lc] w fun e w' => e = .returned (.bool true) ∧ Below w.heap.size w w' := by
  have HLt := Lib.hid (fun W => letters_any s 20 W hs (by omega))
  rw [show ((20 : Nat) : Int) = 20 from rfl] at HLt
  obtain ⟨l1, l2, l3, l4⟩ := letters_ok s 20 (by omega)
  generalize letters s 20 = c at *
  have Hp := Lib.hid (fun W => picked_any x 30 W hx (by omega) (by omega))
  have Hq := Lib.hid (fun W => picked_any y 30 W hy (by omega) (by omega))
  have r1 := pk_range x 30 (by omega)
  have r2 := pk_range y 30 (by omega)
  clear hx hy
  generalize pk x 30 = p at *
  generalize pk y 30 = q at *
  obtain ⟨m, hm1, hm2⟩ : ∃ m : Mk, m.anchor = p - 3 ∧ m.head = q - 3 := ⟨⟨p - 3, q - 3⟩, rfl, rfl⟩
  have hm64 : I64 m.anchor ∧ I64 m.head := ⟨⟨by omega, by omega⟩, ⟨by omega, by omega⟩⟩
  have HBo := Lib.hid (fun W (hW : Good W) (hR : RdS (· < W.heap.size) W ([-1] : List Int) (some ⟨w.heap.size, 0, none⟩) 1 1) => begin_ok [-1] _ 1 1 0 1 c W hW hR (by unfold I64; omega) (by unfold strMax; omega) (lone'_beginE l1))
  rw [lone'_begin] at HBo
  obtain ⟨g1, g2⟩ := lone'_good l1
  have HSe := Lib.hid (fun (a0 : Option Addr) (c0 : Nat) (a1 : Option Addr) (c1 : Nat) (a2 : Option Addr) (c2 : Nat) W (hW : Good W) (hR : RdS (· < W.heap.size) W ([-1] : List Int) (some ⟨w.heap.size, 0, none⟩) 1 1) (q1 : RdS (· < W.heap.size) W (lone' c).sides a0 (lone' c).sides.length c0) (q2 : RdS (· < W.heap.size) W (lone' c).undo a1 (lone' c).undo.length c1) (q3 : RdS (· < W.heap.size) W (lone' c).marks a2 (lone' c).marks.length c2) (hf : (lone' c).fits) => ndSelect_any [-1] _ 1 1 (lone' c) a0 c0 a1 c1 a2 c2 m 0 W hW hR q1 q2 q3 hf g1 g2 (by omega) hm64)
  have HRu := Lib.hid (fun W => runes_any c W (by omega))
  have HOp := Lib.hid (fun W (h : RdS (· < W.heap.size) W l la ln lc) => mkOp_go (rc c) l la ln lc W h (by omega) (by omega))
  have HRw0 := Lib.hid hr
  have Hg := Lib.hid hg
  have hgz := hg.size
  have Hm := Lib.hid (And.intro hm1 hm2)
  have Hl := Lib.hid (And.intro l1 (And.intro l2 l3))
  obtain ⟨O, hO⟩ : ∃ O, Hid (O = mkOp (rc c) l) := ⟨_, rfl⟩
  rw [← hO.out] at HOp
  have hpq : 0 ≤ p ∧ p < 30 ∧ 0 ≤ q ∧ q < 30 := by omega
  have hN : lone' c = ⟨0, 4096, 0, true, c, [], [], []⟩ := rfl
  clear hr hg hs l1 l2 l3 l4 r1 r2 g1 g2 hm1 hm2 hm64
  obtain ⟨hp0, hp1, hq0, hq1⟩ := hpq
  go_enter Tryd.func6, Tryd.ntmps6
  go_wp2_with fail
  refine abs_run (fun W => Below w.heap.size w W ∧ Blk w.heap.size (.cells #[.int .i64 (-1)] 3 (0, 0)) W) ⟨(Below.refl _ _).alloc (Nat.le_refl _) _, Blk.new w _⟩ ?_
  rintro w0 ⟨b0, x0⟩
  have B0 := Lib.hid b0
  have X0 := Lib.hid x0
  have hx0 := x0.lt
  clear b0 x0
  refine (HLt.out _).mono ?_
  rintro e w1 ⟨rfl, b1⟩
  have B1 := Lib.hid (up B0.out b1)
  have XT1 := Lib.hid (lone_tree' (X0.out.go b1))
  clear b1 HLt X0
  go_wp2_with fail
  refine (HBo.out w1 (Hg.out.go B1.out) XT1.out).mono ?_
  rintro e w2 ⟨v, rfl, hv, b2⟩
  obtain ⟨a0, c0, a1, c1, a2, c2, a3, c3, a4, c4, rfl, hf, r0, r1, r2, r3, r5⟩ := hv.open
  have hlt : ∀ z, Fresh w1.heap.size w2 z → z < w2.heap.size ∧ w2.heap[z]? = w2.heap[z]? := fun z hz => ⟨hz.2, rfl⟩
  have HR2 := Lib.hid (And.intro (r0.mono hlt) (And.intro (r1.mono hlt) (r2.mono hlt)))
  have Hf := Lib.hid hf
  have B2 := Lib.hid (up B1.out b2)
  have XT2 := Lib.hid (XT1.out.go b2)
  clear b2 hv r0 r1 r2 r3 r5 hf hlt HBo
  go_wp2_with fail
  refine abs_run (fun W => Below w2.heap.size w2 W ∧ Blk w2.heap.size (.cells #[.int .i64 0, .int .i64 4096, .int .i64 0, .bool true, .string c, .slice a0 0 c0, .slice a1 0 c1, .slice a2 0 c2, .slice a3 0 c3, .slice a4 0 c4] 35 (0, 0)) W) ⟨(Below.refl _ _).alloc (Nat.le_refl _) _, Blk.new w2 _⟩ ?_
  rintro w3 ⟨b3, x3⟩
  have B3 := Lib.hid (up B2.out b3)
  have X3 := Lib.hid x3
  have HR3 := Lib.hid (And.intro (HR2.out.1.go b3) (And.intro (HR2.out.2.1.go b3) (HR2.out.2.2.go b3)))
  have XT3 := Lib.hid (XT2.out.go b3)
  clear b3 x3 HR2 XT2 B2 XT1 B1
  refine (Hp.out _).mono ?_
  rintro e w4 ⟨rfl, rfl⟩
  go_wp2_with fail
  refine (Hq.out _).mono ?_
  rintro e w4 ⟨rfl, rfl⟩
  go_upto_region 5 with fail
  obtain ⟨mb, hmb⟩ : ∃ mb, mb = w3.heap.size := ⟨_, rfl⟩
  rw [← Hm.out.1, ← Hm.out.2]
  refine abs_w (fun W => Below w3.heap.size w3 W ∧ Blk w3.heap.size (.cells #[.int .i64 m.anchor, .int .i64 m.head] 58 (0, 0)) W) ⟨(Below.refl _ _).alloc (Nat.le_refl _) _, Blk.new w3 _⟩ ?_
  rintro w4 ⟨b4, y4⟩
  rw [← hmb] at y4 ⊢
  clear hmb
  have B4 := Lib.hid (up B3.out b4)
  have Y4 := Lib.hid y4
  have X4 := Lib.hid (X3.out.go b4)
  have HR4 := Lib.hid (And.intro (HR3.out.1.go b4) (And.intro (HR3.out.2.1.go b4) (HR3.out.2.2.go b4)))
  have XT4 := Lib.hid (XT3.out.go b4)
  obtain ⟨p0, p1, p2, p3, p4, p5, p6, p7, p8, p9⟩ := blk10_cells X4.out
  have z0 : w4.cell? ⟨mb, 0, none⟩ = some (.int .i64 m.anchor) := y4.cell 0
  have z1 : w4.cell? ⟨mb, 1, none⟩ = some (.int .i64 m.head) := y4.cell 1
  have hlt4 := X4.out.lt
  have hlm4 := y4.lt
  clear b4 y4 X3 HR3 XT3 B3 Hp Hq
  go_wp2_with fail
  refine (HSe.out a0 c0 a1 c1 a2 c2 w4 (Hg.out.go B4.out) XT4.out HR4.out.1 HR4.out.2.1 HR4.out.2.2 Hf.out).mono ?_
  rintro e w6 h6
  clear HSe p0 p1 p2 p3 p4 p5 p6 p7 p8 p9 z0 z1 HR4 X4
  by_cases hin : selOk (lone' c) m
  · obtain ⟨g3, g4, g5, g6, hk⟩ := sel_edited (l := l) Hl.out.1 (by have := Hl.out; omega) (by have := Hl.out; omega) hin
    rw [← hO.out] at g6 hk
    have HK := Lib.hid hk
    unfold TurnE at h6
    rw [if_pos g5] at h6
    obtain ⟨v, rfl, hv, b6⟩ := h6
    obtain ⟨d0, f0, d1, f1, d2, f2, d3, f3, d4, f4, rfl, hf, r0, r1, r2, r3, r5⟩ := hv.open
    obtain ⟨SN, hSN⟩ : ∃ SN, SN = (selT (lone' c) m).node := ⟨_, rfl⟩
    have hposts : (selT (lone' c) m).posts = [] := rfl
    have hrecs : (selT (lone' c) m).recs = [] := rfl
    have hlt : ∀ z, Fresh w4.heap.size w6 z → z < w6.heap.size ∧ w6.heap[z]? = w6.heap[z]? := fun z hz => ⟨hz.2, rfl⟩
    rw [← hSN] at g3 g4 g6 HK hf r0 r1 r2 ⊢
    have HEd0 := Lib.hid (fun W oa oc (hW : Good W) (hR : RdS (· < W.heap.size) W ([-1] : List Int) (some ⟨w.heap.size, 0, none⟩) 1 1) (q1 : RdS (· < W.heap.size) W SN.sides d0 SN.sides.length f0) (q2 : RdS (· < W.heap.size) W SN.undo d1 SN.undo.length f1) (q3 : RdS (· < W.heap.size) W SN.marks d2 SN.marks.length f2) (q4 : RdS (· < W.heap.size) W O oa O.length oc) => (ndEdit_any [-1] _ 1 1 SN d0 f0 d1 f1 d2 f2 O oa oc 0 W hW hR q1 q2 q3 hf q4 g3 g4 (by omega)).mono fun e w' (h : TurnE (editE SN O) (editT SN O) W e w') => (by unfold TurnE at h; rw [if_pos g6] at h; exact h : TurnP (editT SN O) W e w'))
    have HR6 := Lib.hid (And.intro (r0.mono hlt) (And.intro (r1.mono hlt) (r2.mono hlt)))
    have B6 := Lib.hid (up B4.out b6)
    have XT6 := Lib.hid (XT4.out.go b6)
    have Y6 := Lib.hid (Y4.out.go b6)
    have HSN := Lib.hid hSN
    clear b6 hv r0 r1 r2 r3 r5 hf hlt g3 g4 g5 g6 hk XT4 Y4 hSN
    rw [hposts, hrecs]
    generalize editT SN O = TT at *
    go_upto_region 6 with fail
    refine abs_w (fun W => Below w6.heap.size w6 W ∧ Blk w6.heap.size (.cells #[.int .i64 SN.me, .int .i64 SN.epoch, .int .i64 SN.up, .bool SN.ready, .string SN.text, .slice d0 SN.sides.length f0, .slice d1 SN.undo.length f1, .slice d2 SN.marks.length f2, .slice d3 0 f3, .slice d4 0 f4] 35 (0, 0)) W) ⟨(Below.refl _ _).alloc (Nat.le_refl _) _, Blk.new w6 _⟩ ?_
    rintro w5 ⟨b5, xs⟩
    obtain ⟨sb, hsb⟩ : ∃ sb, sb = w6.heap.size := ⟨_, rfl⟩
    rw [← hsb] at xs ⊢
    clear hsb
    have XS0 := Lib.hid xs
    have B5 := Lib.hid (up B6.out b5)
    have Y5 := Lib.hid (Y6.out.go b5)
    have XT5 := Lib.hid (XT6.out.go b5)
    have HR5 := Lib.hid (And.intro (HR6.out.1.go b5) (And.intro (HR6.out.2.1.go b5) (HR6.out.2.2.go b5)))
    clear b5 xs HR6 XT6 Y6 B6
    go_cut [16] from 45 to 66 (fun s16 W => s16 = .bool true ∧ Below w5.heap.size w5 W)
    case first =>
      obtain ⟨k1, k2, k3, k4⟩ : 0 ≤ m.anchor ∧ m.anchor ≤ rc c ∧ 0 ≤ m.head ∧ m.head ≤ rc c := hin
      have d1 : decide (0 ≤ m.anchor) = true := by simpa using k1
      have d2 : decide (m.anchor ≤ rc c) = true := by simpa using k2
      have d3 : decide (0 ≤ m.head) = true := by simpa using k3
      have d4 : decide (m.head ≤ rc c) = true := by simpa using k4
      clear k1 k2 k3 k4
      obtain ⟨Vp, HV⟩ : ∃ Vp : Nat → Value → World → Prop, Hid (Vp = fun i v W => match i with
          | 0 => v = .pointer (some ⟨mb, 0, none⟩)
          | 1 => v = .int .i64 m.anchor
          | 2 => v = .bool true
          | 3 => v = .bool true
          | 4 => v = .pointer (some ⟨mb, 0, none⟩)
          | 5 => v = .int .i64 m.anchor
          | 6 => v = .string c
          | 7 => v = .int .i64 (rc c)
          | 8 => v = .bool true
          | 9 => v = .bool true
          | 10 => v = .bool true
          | 11 => v = .pointer (some ⟨mb, 1, none⟩)
          | 12 => v = .int .i64 m.head
          | 13 => v = .bool true
          | 14 => v = .bool true
          | 15 => v = .bool true
          | 16 => v = .pointer (some ⟨mb, 1, none⟩)
          | 17 => v = .int .i64 m.head
          | 18 => v = .string c
          | 19 => v = .int .i64 (rc c)
          | 20 => v = .bool true
          | 21 => v = .bool true
          | _ => v = .bool true) := ⟨_, rfl⟩
      obtain ⟨Ip, HIp⟩ : ∃ Ip : (Nat → Bool) → (Nat → Value) → World → Prop, Hid (Ip = fun L x W => (Below w5.heap.size w5 W)) := ⟨_, rfl⟩
      refine region_lit3 (by kernel_rfl) (by kernel_rfl) (by kernel_rfl) [[], [0], [0, 1], [0, 1, 2], [0, 1, 2, 3], [0, 1, 2, 3, 4], [0, 1, 2, 3], [0, 1, 2, 3, 6], [0, 1, 2, 3, 4, 5, 6, 7], [0, 1, 2, 3, 4, 5, 6, 7, 8], [0, 1, 2, 3, 4, 5, 6, 7, 8, 9], [0, 1, 2, 3, 4, 5, 6, 7, 8, 9, 10], [0, 1, 2, 3, 4, 5, 6, 7, 8, 9, 10, 11], [0, 1, 2, 3, 4, 5, 6, 7, 8, 9, 10, 11, 12], [0, 1, 2, 3, 4, 5, 6, 7, 8, 9, 10, 11, 12, 13], [0, 1, 2, 3, 4, 5, 6, 7, 8, 9, 10, 11, 12, 13, 14], [0, 1, 2, 3, 4, 5, 6, 7, 8, 9, 10, 11, 12, 13, 14, 15], [0, 1, 2, 3, 4, 5, 6, 7, 8, 9, 10, 11, 12, 13, 14, 15, 16], [0, 1, 2, 3, 4, 5, 6, 7, 8, 9, 10, 11, 12, 13, 14, 15], [0, 1, 2, 3, 4, 5, 6, 7, 8, 9, 10, 11, 12, 13, 14, 15, 18], [0, 1, 2, 3, 4, 5, 6, 7, 8, 9, 10, 11, 12, 13, 14, 15, 16, 17, 18, 19], [0, 1, 2, 3, 4, 5, 6, 7, 8, 9, 10, 11, 12, 13, 14, 15, 16, 17, 18, 19, 20], [0, 1, 2, 3, 4, 5, 6, 7, 8, 9, 10, 11, 12, 13, 14, 15, 16, 17, 18, 19, 20, 21]] (by kernel_rfl) [some 45, some 46, some 47, some 48, some 49, some 50, some 51, some 52, some 53, some 54, some 55, some 56, some 57, some 58, some 59, some 60, some 61, some 62, some 63, some 64, some 65, some 66, some 16] (by kernel_rfl) [[0, 1, 2, 3, 4, 5, 6, 7, 8, 9, 10, 11, 12, 13, 14, 15, 16, 17, 18, 19, 20, 21, 22], [1, 2, 3, 4, 5, 6, 7, 8, 9, 10, 11, 12, 13, 14, 15, 16, 17, 18, 19, 20, 21, 22], [2, 3, 4, 5, 6, 7, 8, 9, 10, 11, 12, 13, 14, 15, 16, 17, 18, 19, 20, 21, 22], [3, 4, 5, 6, 7, 8, 9, 10, 11, 12, 13, 14, 15, 16, 17, 18, 19, 20, 21, 22], [4, 5, 8, 9, 10, 11, 12, 13, 14, 15, 16, 17, 18, 19, 20, 21, 22], [5, 8, 9, 10, 11, 12, 13, 14, 15, 16, 17, 18, 19, 20, 21, 22], [6, 7, 8, 9, 10, 11, 12, 13, 14, 15, 16, 17, 18, 19, 20, 21, 22], [7, 8, 9, 10, 11, 12, 13, 14, 15, 16, 17, 18, 19, 20, 21, 22], [8, 9, 10, 11, 12, 13, 14, 15, 16, 17, 18, 19, 20, 21, 22], [9, 10, 11, 12, 13, 14, 15, 16, 17, 18, 19, 20, 21, 22], [10, 11, 12, 13, 14, 15, 16, 17, 18, 19, 20, 21, 22], [11, 12, 13, 14, 15, 16, 17, 18, 19, 20, 21, 22], [12, 13, 14, 15, 16, 17, 18, 19, 20, 21, 22], [13, 14, 15, 16, 17, 18, 19, 20, 21, 22], [14, 15, 16, 17, 18, 19, 20, 21, 22], [15, 16, 17, 18, 19, 20, 21, 22], [16, 17, 20, 21, 22], [17, 20, 21, 22], [18, 19, 20, 21, 22], [19, 20, 21, 22], [20, 21, 22], [21, 22], [22]] (by kernel_rfl) [[], [], [], [], [], [], [], [], [], [], [], [], [], [], [], [], [], [], [], [], [], [], []] [[], [0], [1], [2], [3], [3, 4], [3], [3, 6], [3, 5, 7], [3, 8], [9], [10], [10, 11], [10, 12], [10, 13], [14], [15], [15, 16], [15], [15, 18], [15, 17, 19], [15, 20], [21]] (by kernel_rfl)
        Ip
        Vp
        (fun j W W' => match j with
          | 7 => Below W.heap.size W W'
          | 19 => Below W.heap.size W W'
          | _ => Below W.heap.size W W')
        [fun x => ⟨(fZm 13 (.pointer (some ⟨mb, 0, none⟩)) (fEm 32)).toArray, []⟩,
   fun x => ⟨(fZm 45 (x 0) (fEm 1)).toArray, []⟩,
   fun x => ⟨(fZm 46 (x 1) (fEm 1)).toArray, []⟩,
   fun x => ⟨(fZm 47 (x 2) (fEm 1)).toArray, []⟩,
   fun x => ⟨(fZm 13 (.pointer (some ⟨mb, 0, none⟩)) (fZm 34 (x 3) (fEm 1))).toArray, []⟩,
   fun x => ⟨(fZm 48 (x 3) (fZm 0 (x 4) (fEm 1))).toArray, []⟩,
   fun x => ⟨(fZm 10 (.string c) (fZm 37 (x 3) (fEm 3))).toArray, []⟩,
   fun x => ⟨(fZm 48 (x 3) (fZm 2 (x 6) (fEm 1))).toArray, []⟩,
   fun x => ⟨(fZm 48 (x 3) (fZm 1 (x 5) (fZm 1 (x 7) (fEm 1)))).toArray, []⟩,
   fun x => ⟨(fZm 48 (x 3) (fZm 4 (x 8) (fEm 1))).toArray, []⟩,
   fun x => ⟨(fZm 54 (x 9) (fEm 1)).toArray, []⟩,
   fun x => ⟨(fZm 13 (.pointer (some ⟨mb, 0, none⟩)) (fZm 41 (x 10) (fEm 1))).toArray, []⟩,
   fun x => ⟨(fZm 55 (x 10) (fZm 0 (x 11) (fEm 1))).toArray, []⟩,
   fun x => ⟨(fZm 55 (x 10) (fZm 1 (x 12) (fEm 1))).toArray, []⟩,
   fun x => ⟨(fZm 55 (x 10) (fZm 2 (x 13) (fEm 1))).toArray, []⟩,
   fun x => ⟨(fZm 59 (x 14) (fEm 1)).toArray, []⟩,
   fun x => ⟨(fZm 13 (.pointer (some ⟨mb, 0, none⟩)) (fZm 46 (x 15) (fEm 1))).toArray, []⟩,
   fun x => ⟨(fZm 60 (x 15) (fZm 0 (x 16) (fEm 1))).toArray, []⟩,
   fun x => ⟨(fZm 10 (.string c) (fZm 49 (x 15) (fEm 3))).toArray, []⟩,
   fun x => ⟨(fZm 60 (x 15) (fZm 2 (x 18) (fEm 1))).toArray, []⟩,
   fun x => ⟨(fZm 60 (x 15) (fZm 1 (x 17) (fZm 1 (x 19) (fEm 1)))).toArray, []⟩,
   fun x => ⟨(fZm 60 (x 15) (fZm 4 (x 20) (fEm 1))).toArray, []⟩,
   fun x => ⟨(fZm 66 (x 21) []).toArray, []⟩]
        ?hF ?mono ?h0 ?step [0, 1, 2, 3, 4, 5, 6, 7, 8, 9, 10, 11, 12, 13, 14, 15, 16, 17, 18, 19, 20, 21, 22] (by kernel_rfl) ?fin
      case hF =>
        iterate 23 refine ⟨fun x => ⟨by kernel_rfl, by kernel_rfl⟩, ?_⟩
        trivial
      case mono =>
        intro i j hi hj hne hna hnk v W W' hE hv
        rw [HV.out] at hv ⊢
        simp only [List.length_cons, List.length_nil] at hi hj
        match i, hi with
        | 0, _ | 1, _ | 2, _ | 3, _ | 4, _ | 5, _ | 6, _ | 7, _ | 8, _ | 9, _ | 10, _ | 11, _ | 12, _ | 13, _ | 14, _ | 15, _ | 16, _ | 17, _ | 18, _ | 19, _ | 20, _ | 21, _ | 22, _ => exact hv
        | m + 23, h => exact absurd h (by omega)
      case h0 => intro x; exact toI HIp (Below.refl _ _).drew
      case step =>
        refine ⟨?_, ?_, ?_, ?_, ?_, ?_, ?_, ?_, ?_, ?_, ?_, ?_, ?_, ?_, ?_, ?_, ?_, ?_, ?_, ?_, ?_, ?_, ?_, trivial⟩
        all_goals
          intro x W L hI hL hV
          replace hI : (Below w5.heap.size w5 W) := ofI HIp hI
          rw [HV.out] at hV
          simp only [AllV, and_true] at hV
          dsimp only [fZm, fEm, List.reduceReplicate, List.cons_append, List.nil_append]
        · clear hV
          have HI := Lib.hid hI
          clear hI
          go_wp2_with fail
          refine step3_done rfl ?_ ?_ ?_
          · exact (toI HIp HI.out)
          · exact (Below.refl _ _)
          · exact (toV HV rfl)
        · have u0 := hV
          clear hV
          simp only [u0]
          clear u0
          have z0 := (Y5.out.go hI).cell 0
          have z1 := (Y5.out.go hI).cell 1
          have HI := Lib.hid hI
          clear hI
          go_wp2_with fail
          refine step3_done rfl ?_ ?_ ?_
          · exact (toI HIp HI.out)
          · exact (Below.refl _ _)
          · exact (toV HV rfl)
        · have u1 := hV
          clear hV
          simp only [u1]
          clear u1
          have HI := Lib.hid hI
          clear hI
          go_wp2_with fail
          refine step3_done rfl ?_ ?_ ?_
          · exact (toI HIp HI.out)
          · exact (Below.refl _ _)
          · exact (toV HV rfl)
        · have u2 := hV
          clear hV
          simp only [u2]
          clear u2
          have HI := Lib.hid hI
          clear hI
          go_wp2_with fail
          refine step3_done rfl ?_ ?_ ?_
          · exact (toI HIp HI.out)
          · exact (Below.refl _ _)
          · exact (toV HV rfl)
        · have u3 := hV
          clear hV
          simp only [u3]
          clear u3
          have HI := Lib.hid hI
          clear hI
          go_wp2_with fail
          refine step3_done rfl ?_ ?_ ?_
          · exact (toI HIp HI.out)
          · exact (Below.refl _ _)
          · exact (toV HV rfl)
        · obtain ⟨u3, u4⟩ := hV
          simp only [u3, u4]
          clear u3 u4
          have z0 := (Y5.out.go hI).cell 0
          have z1 := (Y5.out.go hI).cell 1
          have HI := Lib.hid hI
          clear hI
          go_wp2_with fail
          refine step3_done rfl ?_ ?_ ?_
          · exact (toI HIp HI.out)
          · exact (Below.refl _ _)
          · exact (toV HV rfl)
        · have u3 := hV
          clear hV
          simp only [u3]
          clear u3
          have HI := Lib.hid hI
          clear hI
          go_wp2_with fail
          refine step3_done rfl ?_ ?_ ?_
          · exact (toI HIp HI.out)
          · exact (Below.refl _ _)
          · exact (toV HV rfl)
        · obtain ⟨u3, u6⟩ := hV
          simp only [u3, u6]
          clear u3 u6
          have HI := Lib.hid hI
          clear hI
          go_wp2_with fail
          refine (HRu.out W).mono ?_
          rintro e W' ⟨rfl, hb⟩
          have HB := Lib.hid hb
          clear hb
          go_wp2_with fail
          refine step3_done rfl ?_ ?_ ?_
          · exact (toI HIp (up HI.out HB.out))
          · exact HB.out
          · exact (toV HV rfl)
        · obtain ⟨u3, u5, u7⟩ := hV
          simp only [u3, u5, u7]
          clear u3 u5 u7
          have HI := Lib.hid hI
          clear hI
          go_wp2_with fail
          refine step3_done rfl ?_ ?_ ?_
          · exact (toI HIp HI.out)
          · exact (Below.refl _ _)
          · exact (toV HV rfl)
        · obtain ⟨u3, u8⟩ := hV
          simp only [u3, u8]
          clear u3 u8
          have HI := Lib.hid hI
          clear hI
          go_wp2_with fail
          refine step3_done rfl ?_ ?_ ?_
          · exact (toI HIp HI.out)
          · exact (Below.refl _ _)
          · exact (toV HV rfl)
        · have u9 := hV
          clear hV
          simp only [u9]
          clear u9
          have HI := Lib.hid hI
          clear hI
          go_wp2_with fail
          refine step3_done rfl ?_ ?_ ?_
          · exact (toI HIp HI.out)
          · exact (Below.refl _ _)
          · exact (toV HV rfl)
        · have u10 := hV
          clear hV
          simp only [u10]
          clear u10
          have HI := Lib.hid hI
          clear hI
          go_wp2_with fail
          refine step3_done rfl ?_ ?_ ?_
          · exact (toI HIp HI.out)
          · exact (Below.refl _ _)
          · exact (toV HV rfl)
        · obtain ⟨u10, u11⟩ := hV
          simp only [u10, u11]
          clear u10 u11
          have z0 := (Y5.out.go hI).cell 0
          have z1 := (Y5.out.go hI).cell 1
          have HI := Lib.hid hI
          clear hI
          go_wp2_with fail
          refine step3_done rfl ?_ ?_ ?_
          · exact (toI HIp HI.out)
          · exact (Below.refl _ _)
          · exact (toV HV rfl)
        · obtain ⟨u10, u12⟩ := hV
          simp only [u10, u12]
          clear u10 u12
          have HI := Lib.hid hI
          clear hI
          go_wp2_with fail
          refine step3_done rfl ?_ ?_ ?_
          · exact (toI HIp HI.out)
          · exact (Below.refl _ _)
          · exact (toV HV rfl)
        · obtain ⟨u10, u13⟩ := hV
          simp only [u10, u13]
          clear u10 u13
          have HI := Lib.hid hI
          clear hI
          go_wp2_with fail
          refine step3_done rfl ?_ ?_ ?_
          · exact (toI HIp HI.out)
          · exact (Below.refl _ _)
          · exact (toV HV rfl)
        · have u14 := hV
          clear hV
          simp only [u14]
          clear u14
          have HI := Lib.hid hI
          clear hI
          go_wp2_with fail
          refine step3_done rfl ?_ ?_ ?_
          · exact (toI HIp HI.out)
          · exact (Below.refl _ _)
          · exact (toV HV rfl)
        · have u15 := hV
          clear hV
          simp only [u15]
          clear u15
          have HI := Lib.hid hI
          clear hI
          go_wp2_with fail
          refine step3_done rfl ?_ ?_ ?_
          · exact (toI HIp HI.out)
          · exact (Below.refl _ _)
          · exact (toV HV rfl)
        · obtain ⟨u15, u16⟩ := hV
          simp only [u15, u16]
          clear u15 u16
          have z0 := (Y5.out.go hI).cell 0
          have z1 := (Y5.out.go hI).cell 1
          have HI := Lib.hid hI
          clear hI
          go_wp2_with fail
          refine step3_done rfl ?_ ?_ ?_
          · exact (toI HIp HI.out)
          · exact (Below.refl _ _)
          · exact (toV HV rfl)
        · have u15 := hV
          clear hV
          simp only [u15]
          clear u15
          have HI := Lib.hid hI
          clear hI
          go_wp2_with fail
          refine step3_done rfl ?_ ?_ ?_
          · exact (toI HIp HI.out)
          · exact (Below.refl _ _)
          · exact (toV HV rfl)
        · obtain ⟨u15, u18⟩ := hV
          simp only [u15, u18]
          clear u15 u18
          have HI := Lib.hid hI
          clear hI
          go_wp2_with fail
          refine (HRu.out W).mono ?_
          rintro e W' ⟨rfl, hb⟩
          have HB := Lib.hid hb
          clear hb
          go_wp2_with fail
          refine step3_done rfl ?_ ?_ ?_
          · exact (toI HIp (up HI.out HB.out))
          · exact HB.out
          · exact (toV HV rfl)
        · obtain ⟨u15, u17, u19⟩ := hV
          simp only [u15, u17, u19]
          clear u15 u17 u19
          have HI := Lib.hid hI
          clear hI
          go_wp2_with fail
          refine step3_done rfl ?_ ?_ ?_
          · exact (toI HIp HI.out)
          · exact (Below.refl _ _)
          · exact (toV HV rfl)
        · obtain ⟨u15, u20⟩ := hV
          simp only [u15, u20]
          clear u15 u20
          have HI := Lib.hid hI
          clear hI
          go_wp2_with fail
          refine step3_done rfl ?_ ?_ ?_
          · exact (toI HIp HI.out)
          · exact (Below.refl _ _)
          · exact (toV HV rfl)
        · have u21 := hV
          clear hV
          simp only [u21]
          clear u21
          have HI := Lib.hid hI
          clear hI
          go_wp2_with fail
          refine step3_done rfl ?_ ?_ ?_
          · exact (toI HIp HI.out)
          · exact (Below.refl _ _)
          · exact (toV HV rfl)
      case fin =>
        intro x W L hL hI hV
        replace hI : (Below w5.heap.size w5 W) := ofI HIp hI
        rw [HV.out] at hV
        simp only [AllV, and_true] at hV
        obtain ⟨u0, u1, u2, u3, u4, u5, u6, u7, u8, u9, u10, u11, u12, u13, u14, u15, u16, u17, u18, u19, u20, u21, u22⟩ := hV
        simp only [getsD, List.getD_cons_succ, List.getD_cons_zero, List.length_cons, List.length_nil, List.range, List.range.loop, u0, u1, u2, u3, u4, u5, u6, u7, u8, u9, u10, u11, u12, u13, u14, u15, u16, u17, u18, u19, u20, u21, u22, Act.put, List.setIfInBounds_toArray, List.set_cons_succ, List.set_cons_zero]
        clear u0 u1 u2 u3 u4 u5 u6 u7 u8 u9 u10 u11 u12 u13 u14 u15 u16 u17 u18 u19 u20 u21 u22
        have HI := Lib.hid hI
        clear hI hL
        go_wp2_with fail
        go_meet
        case rel => exact ⟨rfl, HI.out⟩
    case rest =>
      obtain ⟨rfl, bc2⟩ := hcut
      obtain ⟨wc2, hwc2⟩ : ∃ W, W = wc := ⟨_, rfl⟩
      rw [← hwc2] at bc2 ⊢
      have B7 := Lib.hid (up B5.out bc2)
      have XS := Lib.hid (XS0.out.go bc2)
      have HRw := Lib.hid (HRw0.out.go B7.out)
      have HEd := Lib.hid (fun W oa oc (hB : Below wc2.heap.size wc2 W) (q4 : RdS (· < W.heap.size) W O oa O.length oc) => HEd0.out W oa oc (Hg.out.go (up B7.out hB)) ((XT5.out.go bc2).go hB) ((HR5.out.1.go bc2).go hB) ((HR5.out.2.1.go bc2).go hB) ((HR5.out.2.2.go bc2).go hB) q4)
      have Y7 := Lib.hid (Y5.out.go bc2)
      clear bc2 hwc2 HEd0 XT5 HR5 XS0 Y5 B5
      go_upto_region 11 with fail
      obtain ⟨Vp, HV⟩ : ∃ Vp : Nat → Value → World → Prop, Hid (Vp = fun i v W => match i with
          | 0 => v = .slice (some ⟨w.heap.size, 0, none⟩) 1 1
          | 1 => v = .pointer (some ⟨sb, 0, none⟩)
          | 2 => v = .agg #[.int .i64 SN.me, .int .i64 SN.epoch, .int .i64 SN.up, .bool SN.ready, .string SN.text, .slice d0 SN.sides.length f0, .slice d1 SN.undo.length f1, .slice d2 SN.marks.length f2]
          | 3 => v = .string c
          | 4 => v = .int .i64 (rc c)
          | 5 => v = .slice la ln lc
          | 6 => ∃ a c, v = .slice a O.length c ∧ RdS (· < W.heap.size) W O a O.length c
          | 7 => ∃ y, v = y
          | 8 => ∃ y, v = y
          | 9 => ∃ y, v = y
          | 10 => v = .int .i64 0
          | 11 => ∃ y, v = y
          | 12 => v = undef
          | _ => v = .int .i64 0) := ⟨_, rfl⟩
      obtain ⟨Ip, HIp⟩ : ∃ Ip : (Nat → Bool) → (Nat → Value) → World → Prop, Hid (Ip = fun L x W => (Below wc2.heap.size wc2 W ∧ (L 7 = true → L 12 = false → ∃ u, x 7 = .tuple #[u, .int .i64 0] ∧ TnVal (fun z => wc2.heap.size ≤ z ∧ z < W.heap.size ∧ (L 11 = true → x 11 ≠ .pointer (some ⟨z, 0, none⟩))) TT u W) ∧ (L 11 = true → L 12 = false → ∃ b, x 11 = .pointer (some ⟨b, 0, none⟩) ∧ wc2.heap.size ≤ b ∧ Blk b (.cells zeroTn 35 (0, 0)) W) ∧ (L 8 = true → x 8 = x 7) ∧ (L 9 = true → ∀ u, x 7 = .tuple #[u, .int .i64 0] → x 9 = u) ∧ (L 12 = true → ∃ b, x 11 = .pointer (some ⟨b, 0, none⟩) ∧ TnBox wc2.heap.size b TT W) ∧ (L 7 = true → ∃ u, x 7 = .tuple #[u, .int .i64 0]))) := ⟨_, rfl⟩
      refine region_lit3 (by kernel_rfl) (by kernel_rfl) (by kernel_rfl) [[], [], [1], [], [3], [], [3, 4, 5], [0, 1, 2, 3, 4, 5, 6], [0, 1, 2, 3, 4, 5, 6, 7], [0, 1, 2, 3, 4, 5, 6, 7, 8], [0, 1, 2, 3, 4, 5, 6, 7, 8], [], [0, 1, 2, 3, 4, 5, 6, 7, 8, 9, 11], [0, 1, 2, 3, 4, 5, 6, 7, 8, 10]] (by kernel_rfl) [some 86, some 87, some 88, some 89, some 90, some 91, some 92, some 93, some 85, some 94, some 95, some 17, none, some 18] (by kernel_rfl) [[0, 7, 8, 9, 10, 12, 13], [1, 2, 7, 8, 9, 10, 12, 13], [2, 7, 8, 9, 10, 12, 13], [3, 4, 6, 7, 8, 9, 10, 12, 13], [4, 6, 7, 8, 9, 10, 12, 13], [5, 6, 7, 8, 9, 10, 12, 13], [6, 7, 8, 9, 10, 12, 13], [7, 8, 9, 10, 12, 13], [8, 9, 10, 12, 13], [9, 12], [10, 13], [11, 12], [12], [13]] (by kernel_rfl) [[], [], [], [], [], [], [12], [], [], [], [], [], [], []] [[], [], [1], [], [3], [], [4, 5], [0, 2, 6], [7], [7, 8], [7, 8], [], [7, 8, 9, 11], [10]] (by kernel_rfl)
        Ip
        Vp
        (fun j W W' => match j with
          | 12 => True
          | _ => Below W.heap.size W W')
        [fun x => ⟨(fZm 9 (.slice (some ⟨w.heap.size, 0, none⟩) 1 1) (fEm 77)).toArray, []⟩,
   fun x => ⟨(fZm 14 (.pointer (some ⟨sb, 0, none⟩)) (fEm 73)).toArray, []⟩,
   fun x => ⟨(fZm 87 (x 1) (fEm 1)).toArray, []⟩,
   fun x => ⟨(fZm 10 (.string c) (fEm 79)).toArray, []⟩,
   fun x => ⟨(fZm 89 (x 3) (fEm 1)).toArray, []⟩,
   fun x => ⟨(fZm 3 (.slice la ln lc) (fEm 88)).toArray, []⟩,
   fun x => ⟨(fZm 90 (x 4) (fZm 0 (x 5) (fEm 1))).toArray, []⟩,
   fun x => ⟨(fZm 86 (x 0) (fZm 1 (x 2) (fZm 3 (x 6) (fEm 1)))).toArray, []⟩,
   fun x => ⟨(fZm 93 (x 7) []).toArray, []⟩,
   fun x => ⟨(fZm 85 (x 8) (fEm 9)).toArray, []⟩,
   fun x => ⟨(fZm 85 (x 8) (fEm 10)).toArray, []⟩,
   fun x => ⟨(fEm 18).toArray, []⟩,
   fun x => ⟨(fZm 17 (x 11) (fZm 76 (x 9) [])).toArray, []⟩,
   fun x => ⟨(fZm 95 (x 10) []).toArray, []⟩]
        ?hF ?mono ?h0 ?step [0, 1, 2, 3, 4, 5, 7, 8, 9, 10, 11, 12, 13] (by kernel_rfl) ?fin
      case hF =>
        iterate 14 refine ⟨fun x => ⟨by kernel_rfl, by kernel_rfl⟩, ?_⟩
        trivial
      case mono =>
        intro i j hi hj hne hna hnk v W W' hE hv
        rw [HV.out] at hv ⊢
        simp only [List.length_cons, List.length_nil] at hi hj
        match i, hi with
        | 0, _ | 1, _ | 2, _ | 3, _ | 4, _ | 5, _ | 10, _ | 12, _ | 13, _ => exact hv
        | 6, _ =>
          match j, hj with
          | 6, _ => exact absurd rfl hne
          | 3, _ | 4, _ | 5, _ => exact absurd (by simp) hna
          | 12, _ => exact absurd (by simp) hnk
          | 0, _ | 1, _ | 2, _ | 7, _ | 8, _ | 9, _ | 10, _ | 11, _ | 13, _ => exact (by obtain ⟨a, c, e, h⟩ := hv; exact ⟨a, c, e, h.go hE⟩)
          | m + 14, h => exact absurd h (by omega)
        | 7, _ =>
          match j, hj with
          | 7, _ => exact absurd rfl hne
          | 0, _ | 1, _ | 2, _ | 3, _ | 4, _ | 5, _ | 6, _ => exact absurd (by simp) hna
          | 8, _ | 9, _ | 10, _ | 11, _ | 12, _ | 13, _ => exact (id hv)
          | m + 14, h => exact absurd h (by omega)
        | 8, _ =>
          match j, hj with
          | 8, _ => exact absurd rfl hne
          | 0, _ | 1, _ | 2, _ | 3, _ | 4, _ | 5, _ | 6, _ | 7, _ => exact absurd (by simp) hna
          | 9, _ | 10, _ | 11, _ | 12, _ | 13, _ => exact (id hv)
          | m + 14, h => exact absurd h (by omega)
        | 9, _ =>
          match j, hj with
          | 9, _ => exact absurd rfl hne
          | 0, _ | 1, _ | 2, _ | 3, _ | 4, _ | 5, _ | 6, _ | 7, _ | 8, _ => exact absurd (by simp) hna
          | 10, _ | 11, _ | 12, _ | 13, _ => exact (id hv)
          | m + 14, h => exact absurd h (by omega)
        | 11, _ =>
          match j, hj with
          | 11, _ => exact absurd rfl hne
          | 0, _ | 1, _ | 2, _ | 3, _ | 4, _ | 5, _ | 6, _ | 7, _ | 8, _ | 9, _ | 10, _ | 12, _ | 13, _ => exact (id hv)
          | m + 14, h => exact absurd h (by omega)
        | m + 14, h => exact absurd h (by omega)
      case h0 => intro x; exact toI HIp ⟨(Below.refl _ _).drew, (fun h => by cases h), (fun h => by cases h), (fun h => by cases h), (fun h => by cases h), (fun h => by cases h), (fun h => by cases h)⟩
      case step =>
        refine ⟨?_, ?_, ?_, ?_, ?_, ?_, ?_, ?_, ?_, ?_, ?_, ?_, ?_, ?_, trivial⟩
        all_goals
          intro x W L hI hL hV
          replace hI : (Below wc2.heap.size wc2 W ∧ (L 7 = true → L 12 = false → ∃ u, x 7 = .tuple #[u, .int .i64 0] ∧ TnVal (fun z => wc2.heap.size ≤ z ∧ z < W.heap.size ∧ (L 11 = true → x 11 ≠ .pointer (some ⟨z, 0, none⟩))) TT u W) ∧ (L 11 = true → L 12 = false → ∃ b, x 11 = .pointer (some ⟨b, 0, none⟩) ∧ wc2.heap.size ≤ b ∧ Blk b (.cells zeroTn 35 (0, 0)) W) ∧ (L 8 = true → x 8 = x 7) ∧ (L 9 = true → ∀ u, x 7 = .tuple #[u, .int .i64 0] → x 9 = u) ∧ (L 12 = true → ∃ b, x 11 = .pointer (some ⟨b, 0, none⟩) ∧ TnBox wc2.heap.size b TT W) ∧ (L 7 = true → ∃ u, x 7 = .tuple #[u, .int .i64 0])) := ofI HIp hI
          rw [HV.out] at hV
          simp only [AllV, and_true] at hV
          dsimp only [fZm, fEm, List.reduceReplicate, List.cons_append, List.nil_append]
        · clear hV
          have HI := Lib.hid hI
          clear hI
          go_wp2_with fail
          refine step3_done rfl ?_ ?_ ?_
          · exact (toI HIp HI.out)
          · exact (Below.refl _ _)
          · exact (toV HV rfl)
        · clear hV
          have HI := Lib.hid hI
          clear hI
          go_wp2_with fail
          refine step3_done rfl ?_ ?_ ?_
          · exact (toI HIp HI.out)
          · exact (Below.refl _ _)
          · exact (toV HV rfl)
        · have u1 := hV
          clear hV
          simp only [u1]
          clear u1
          obtain ⟨p0, p1, p2, p3, p4, p5, p6, p7, p8, p9⟩ := blk10_cells (XS.out.go hI.1)
          have HI := Lib.hid hI
          clear hI
          go_wp2_with fail
          refine step3_done rfl ?_ ?_ ?_
          · exact (toI HIp HI.out)
          · exact (Below.refl _ _)
          · exact (toV HV rfl)
        · clear hV
          have HI := Lib.hid hI
          clear hI
          go_wp2_with fail
          refine step3_done rfl ?_ ?_ ?_
          · exact (toI HIp HI.out)
          · exact (Below.refl _ _)
          · exact (toV HV rfl)
        · have u3 := hV
          clear hV
          simp only [u3]
          clear u3
          have HL := Lib.hid hL
          have HI := Lib.hid hI
          clear hI hL
          go_wp2_with fail
          refine (HRu.out W).mono ?_
          rintro e W' ⟨rfl, hb⟩
          have HB := Lib.hid hb
          clear hb
          go_wp2_with fail
          refine step3_done rfl ?_ ?_ ?_
          · exact toI HIp ⟨up HI.out.1 HB.out, (fun h1 h2 => by
              obtain ⟨u, e, h⟩ := HI.out.2.1 h1 h2
              exact ⟨u, e, h.mono fun z hz => ⟨⟨hz.1, Nat.lt_of_lt_of_le hz.2.1 HB.out.size, hz.2.2⟩, HB.out.block z hz.2.1⟩⟩), (fun h1 h2 => by
              obtain ⟨b, e, h3, h⟩ := HI.out.2.2.1 h1 h2
              exact ⟨b, e, h3, h.go HB.out⟩), HI.out.2.2.2.1, HI.out.2.2.2.2.1, (fun h => absurd ((HL.out.2 12 (by simp)).symm.trans h) (by simp)), HI.out.2.2.2.2.2.2⟩
          · exact HB.out
          · exact toV HV rfl
        · clear hV
          have HI := Lib.hid hI
          clear hI
          go_wp2_with fail
          refine step3_done rfl ?_ ?_ ?_
          · exact (toI HIp HI.out)
          · exact (Below.refl _ _)
          · exact (toV HV rfl)
        · obtain ⟨u4, u5⟩ := hV
          simp only [u4, u5]
          clear u4 u5
          have HL := Lib.hid hL
          have HI := Lib.hid hI
          clear hI hL
          go_wp2_with fail
          refine (HOp.out W (HRw.out.go HI.out.1)).mono ?_
          rintro e W' ⟨oa, oc, rfl, hr, hb⟩
          have HB := Lib.hid hb
          have HR := Lib.hid hr
          clear hb hr
          go_wp2_with fail
          refine step3_done rfl ?_ ?_ ?_
          · exact toI HIp ⟨up HI.out.1 HB.out, (fun h1 h2 => by
              obtain ⟨u, e, h⟩ := HI.out.2.1 h1 h2
              exact ⟨u, e, h.mono fun z hz => ⟨⟨hz.1, Nat.lt_of_lt_of_le hz.2.1 HB.out.size, hz.2.2⟩, HB.out.block z hz.2.1⟩⟩), (fun h1 h2 => by
              obtain ⟨b, e, h3, h⟩ := HI.out.2.2.1 h1 h2
              exact ⟨b, e, h3, h.go HB.out⟩), HI.out.2.2.2.1, HI.out.2.2.2.2.1, (fun h => absurd ((HL.out.2 12 (by simp)).symm.trans h) (by simp)), HI.out.2.2.2.2.2.2⟩
          · exact HB.out
          · exact toV HV ⟨_, _, rfl, HR.out⟩
        · obtain ⟨u0, u2, ⟨oa, oc, u6, r6⟩⟩ := hV
          simp only [u0, u2, u6]
          have U6 := Lib.hid u6
          clear u0 u2 u6
          have HL := Lib.hid hL
          have HI := Lib.hid hI
          have HR := Lib.hid r6
          have hzW := hI.1.size
          clear hI hL r6
          go_wp2_with fail
          refine (HEd.out W oa oc HI.out.1 HR.out).mono ?_
          rintro e W' ⟨u, rfl, hv, hb⟩
          have HB := Lib.hid hb
          have HVv := Lib.hid hv
          clear hb hv
          go_wp2_with fail
          refine step3_done rfl ?_ ?_ ?_
          · exact toI HIp ⟨up HI.out.1 HB.out, (fun _ h2 => ⟨u, rfl, HVv.out.mono fun z hz => ⟨⟨Nat.le_trans hzW hz.1, hz.2, fun h3 e => by
              obtain ⟨b, e1, h4, h5⟩ := HI.out.2.2.1 h3 h2
              have e2 := e1.symm.trans e
              injection e2 with e2
              injection e2 with e2
              injection e2 with e2
              have := h5.lt
              have := hz.1
              omega⟩, rfl⟩⟩), (fun h1 h2 => by
              obtain ⟨b, e, h3, h⟩ := HI.out.2.2.1 h1 h2
              exact ⟨b, e, h3, h.go HB.out⟩), (fun h => absurd ((HL.out.2 8 (by simp)).symm.trans h) (by simp)), (fun h => absurd ((HL.out.2 9 (by simp)).symm.trans h) (by simp)), (fun h => absurd ((HL.out.2 12 (by simp)).symm.trans h) (by simp)), (fun _ => ⟨u, rfl⟩)⟩
          · exact HB.out
          · exact toV HV ⟨_, rfl⟩
        · obtain ⟨y7, u7⟩ := hV
          simp only [u7]
          have U7 := Lib.hid u7
          clear u7
          have HL := Lib.hid hL
          have HI := Lib.hid hI
          clear hI hL
          go_wp2_with fail
          refine step3_done rfl ?_ ?_ ?_
          · exact toI HIp ⟨HI.out.1, HI.out.2.1, HI.out.2.2.1, (fun _ => U7.out.symm), (fun h => absurd ((HL.out.2 9 (by simp)).symm.trans h) (by simp)), (fun h => absurd ((HL.out.2 12 (by simp)).symm.trans h) (by simp)), HI.out.2.2.2.2.2.2⟩
          · exact (Below.refl _ _)
          · exact toV HV ⟨_, rfl⟩
        · obtain ⟨⟨y7, u7⟩, ⟨y8, u8⟩⟩ := hV
          simp only [u8]
          have U7 := Lib.hid u7
          have U8 := Lib.hid u8
          clear u7 u8
          have HL := Lib.hid hL
          have HI := Lib.hid hI
          obtain ⟨u, e7⟩ := hI.2.2.2.2.2.2 (hL.1 7 (by simp))
          have e8 := hI.2.2.2.1 (hL.1 8 (by simp))
          have e9 : y8 = .tuple #[u, .int .i64 0] := U8.out.symm.trans (e8.trans e7)
          subst e9
          have E7 := Lib.hid e7
          clear hI hL e7 e8
          go_wp2_with fail
          refine step3_done rfl ?_ ?_ ?_
          · exact toI HIp ⟨HI.out.1, HI.out.2.1, HI.out.2.2.1, HI.out.2.2.2.1, (fun _ v h => by
              have e := E7.out.symm.trans h
              injection e with e
              show u = v
              simpa using e), (fun h => absurd ((HL.out.2 12 (by simp)).symm.trans h) (by simp)), HI.out.2.2.2.2.2.2⟩
          · exact (Below.refl _ _)
          · exact toV HV ⟨_, rfl⟩
        · obtain ⟨⟨y7, u7⟩, ⟨y8, u8⟩⟩ := hV
          simp only [u8]
          have U7 := Lib.hid u7
          have U8 := Lib.hid u8
          clear u7 u8
          have HL := Lib.hid hL
          have HI := Lib.hid hI
          obtain ⟨u, e7⟩ := hI.2.2.2.2.2.2 (hL.1 7 (by simp))
          have e8 := hI.2.2.2.1 (hL.1 8 (by simp))
          have e9 : y8 = .tuple #[u, .int .i64 0] := U8.out.symm.trans (e8.trans e7)
          subst e9
          have E7 := Lib.hid e7
          clear hI hL e7 e8
          go_wp2_with fail
          refine step3_done rfl ?_ ?_ ?_
          · exact (toI HIp HI.out)
          · exact (Below.refl _ _)
          · exact (toV HV rfl)
        · clear hV
          have HL := Lib.hid hL
          have HI := Lib.hid hI
          have hzW := hI.1.size
          clear hI hL
          go_wp2_with fail
          have uW : ∀ o, Below W.heap.size W (W.alloc o) := fun o => (Below.refl _ _).alloc (Nat.le_refl _) o
          refine step3_done rfl ?_ ?_ ?_
          · exact toI HIp ⟨up HI.out.1 (uW _), (fun h1 h2 => by
              obtain ⟨u, e, h⟩ := HI.out.2.1 h1 h2
              refine ⟨u, e, h.mono fun z hz => ⟨⟨hz.1, Nat.lt_of_lt_of_le hz.2.1 (uW _).size, fun _ e => ?_⟩, (uW _).block z hz.2.1⟩⟩
              injection e with e
              injection e with e
              injection e with e
              have := hz.2.1
              omega), (fun _ _ => ⟨_, rfl, hzW, Blk.new _ _⟩), HI.out.2.2.2.1, HI.out.2.2.2.2.1, (fun h => absurd ((HL.out.2 12 (by simp)).symm.trans h) (by simp)), HI.out.2.2.2.2.2.2⟩
          · exact (uW _)
          · exact toV HV ⟨_, rfl⟩
        · obtain ⟨⟨y7, u7⟩, ⟨y8, u8⟩, ⟨y9, u9⟩, ⟨y11, u11⟩⟩ := hV
          simp only [u11, u9]
          have U7 := Lib.hid u7
          have U8 := Lib.hid u8
          have U9 := Lib.hid u9
          have U11 := Lib.hid u11
          clear u7 u8 u9 u11
          have HL := Lib.hid hL
          have HI := Lib.hid hI
          obtain ⟨u, e7, ht⟩ := hI.2.1 (hL.1 7 (by simp)) (hL.2 12 (by simp))
          have e9 := hI.2.2.2.2.1 (hL.1 9 (by simp)) u e7
          obtain ⟨b, e11, hb1, hb2⟩ := hI.2.2.1 (hL.1 11 (by simp)) (hL.2 12 (by simp))
          have f9 : y9 = u := U9.out.symm.trans e9
          have f11 : y11 = .pointer (some ⟨b, 0, none⟩) := U11.out.symm.trans e11
          subst f9 f11
          have hne : ∀ z, (wc2.heap.size ≤ z ∧ z < W.heap.size ∧ (L 11 = true → x 11 ≠ .pointer (some ⟨z, 0, none⟩))) → z ≠ b := fun z hz e => hz.2.2 (hL.1 11 (by simp)) (by rw [e]; exact e11)
          obtain ⟨a0, c0, a1, c1, a2, c2, a3, c3, a4, c4, rfl, -, -, -, -, -, -⟩ := ht.open
          have HT := Lib.hid ht
          have HB2 := Lib.hid hb2
          have HNe := Lib.hid hne
          have E11 := Lib.hid e11
          obtain ⟨p0, p1, p2, p3, p4, p5, p6, p7, p8, p9⟩ := blk10_cells hb2
          have pf := hb2.frozen
          have hlt := hb2.lt
          clear hI hL ht hb2 hne e7 e9 e11
          go_wp2_with fail
          have HT10 := fun v0 v1 v2 v3 v4 v5 v6 v7 v8 v9 => touch10 W b v0 v1 v2 v3 v4 v5 v6 v7 v8 v9
          have HX10 := fun v0 v1 v2 v3 v4 v5 v6 v7 v8 v9 => blk_set10 HB2.out v0 v1 v2 v3 v4 v5 v6 v7 v8 v9
          refine step3_done (v := undef) rfl ?_ ?_ ?_
          · exact toI HIp ⟨HI.out.1.trans ((HT10 _ _ _ _ _ _ _ _ _ _).toBelow HI.out.1.size (fun z hz => by omega)), (fun _ h => absurd h (by simp [setB])), (fun _ h => absurd h (by simp [setB])), HI.out.2.2.2.1, HI.out.2.2.2.2.1, (fun _ => ⟨b, E11.out, _, _, _, _, _, _, _, _, _, _, HX10 _ _ _ _ _ _ _ _ _ _, hb1, HT.out.mono fun z hz => ⟨⟨hz.1, Nat.lt_of_lt_of_le hz.2.1 (HT10 _ _ _ _ _ _ _ _ _ _).size, HNe.out z hz⟩, (HT10 _ _ _ _ _ _ _ _ _ _).block z hz.2.1 (HNe.out z hz)⟩⟩), HI.out.2.2.2.2.2.2⟩
          · exact trivial
          · exact toV HV rfl
        · have u10 := hV
          clear hV
          simp only [u10]
          clear u10
          have HI := Lib.hid hI
          clear hI
          go_wp2_with fail
          refine step3_done rfl ?_ ?_ ?_
          · exact (toI HIp HI.out)
          · exact (Below.refl _ _)
          · exact (toV HV rfl)
      case fin =>
        intro x W L hL hI hV
        replace hI : (Below wc2.heap.size wc2 W ∧ (L 7 = true → L 12 = false → ∃ u, x 7 = .tuple #[u, .int .i64 0] ∧ TnVal (fun z => wc2.heap.size ≤ z ∧ z < W.heap.size ∧ (L 11 = true → x 11 ≠ .pointer (some ⟨z, 0, none⟩))) TT u W) ∧ (L 11 = true → L 12 = false → ∃ b, x 11 = .pointer (some ⟨b, 0, none⟩) ∧ wc2.heap.size ≤ b ∧ Blk b (.cells zeroTn 35 (0, 0)) W) ∧ (L 8 = true → x 8 = x 7) ∧ (L 9 = true → ∀ u, x 7 = .tuple #[u, .int .i64 0] → x 9 = u) ∧ (L 12 = true → ∃ b, x 11 = .pointer (some ⟨b, 0, none⟩) ∧ TnBox wc2.heap.size b TT W) ∧ (L 7 = true → ∃ u, x 7 = .tuple #[u, .int .i64 0])) := ofI HIp hI
        rw [HV.out] at hV
        simp only [AllV, and_true] at hV
        obtain ⟨u0, u1, u2, u3, u4, u5, ⟨y7, u7⟩, ⟨y8, u8⟩, ⟨y9, u9⟩, u10, ⟨y11, u11⟩, u12, u13⟩ := hV
        simp only [getsD, List.getD_cons_succ, List.getD_cons_zero, List.length_cons, List.length_nil, List.range, List.range.loop, u0, u1, u2, u3, u4, u5, u7, u8, u9, u10, u11, u12, u13, Act.put, List.setIfInBounds_toArray, List.set_cons_succ, List.set_cons_zero]
        have U11 := Lib.hid u11
        clear u0 u1 u2 u3 u4 u5 u7 u8 u9 u10 u11 u12 u13
        obtain ⟨b, e11, a0', c0', a1', c1', a2', c2', a3', c3', a4', c4', hb, hl, hv⟩ := hI.2.2.2.2.2.1 (hL 12 (by simp))
        have f11 : y11 = .pointer (some ⟨b, 0, none⟩) := U11.out.symm.trans e11
        subst f11
        have Y9 := Lib.hid (Y7.out.go hI.1)
        have B9 := Lib.hid (up B7.out hI.1)
        obtain ⟨kk, hk0, hk1, hk2, hk3, hk4, hk5, hk6, hk7, hk8, hk9, hk10⟩ := HK.out
        obtain ⟨-, -, -, hrm, -, -⟩ := hv.at
        have hml : TT.node.marks.length = 1 := by rw [hk0]; rfl
        obtain ⟨mb9, mo9, xs, hxa, -, hmlt, hxs, hmc⟩ := hrm.elem 0 (by omega)
        have hk00 : TT.node.marks[0]'(by omega) = kk := by simp [hk0]
        rw [hk00] at hxs
        obtain ⟨rfl, -, -⟩ := hxs
        have y0 : W.cell? ⟨mb9, mo9, none⟩ = some (.int .i64 kk.anchor) := by
          have h := hmc 0 _ rfl
          have e1 : mo9 + 0 * Rep.n Mk + 0 = mo9 := by omega
          rwa [e1] at h
        have y1 : W.cell? ⟨mb9, mo9 + 1, none⟩ = some (.int .i64 kk.head) := by
          have h := hmc 1 _ rfl
          have e1 : mo9 + 0 * Rep.n Mk + 1 = mo9 + 1 := by omega
          rwa [e1] at h
        have hmc2 := hrm.2.1
        subst hxa
        obtain ⟨p0, p1, p2, p3, p4, p5, p6, p7, p8, p9⟩ := blk10_cells hb
        rw [hml] at p7 hmc2
        have hbl := hb.lt
        have HRN := Lib.hid (fun W => runes_any TT.node.text W (by omega))
        have HKK := Lib.hid (And.intro hk3 (And.intro hk4 (And.intro hk5 (And.intro hk6 (And.intro hk7 hk8)))))
        have hc2i : (1 : Int) ≤ (c2' : Int) := by omega
        clear hI hL hv hb e11 hrm hmc hk0 hk1 hk2 hk3 hk4 hk5 hk6 hk7 hk8 hk9 hk10 hml hk00 HK hl
        go_wp2_with fail
        refine abs_run (fun W' => Below W.heap.size W W' ∧ Blk W.heap.size (.cells #[.int .i64 kk.anchor, .int .i64 kk.head] 58 (0, 0)) W') ⟨(Below.refl _ _).alloc (Nat.le_refl _) _, Blk.new W _⟩ ?_
        rintro w10 ⟨b10, k10⟩
        refine (HRN.out w10).mono ?_
        rintro e w11 ⟨rfl, b11⟩
        have B11 := Lib.hid (up B9.out (up b10 b11))
        have z0 : w11.cell? ⟨mb, 0, none⟩ = some (.int .i64 m.anchor) := ((Y9.out.go b10).go b11).cell 0
        have z1 : w11.cell? ⟨mb, 1, none⟩ = some (.int .i64 m.head) := ((Y9.out.go b10).go b11).cell 1
        have q0 : w11.cell? ⟨W.heap.size, 0, none⟩ = some (.int .i64 kk.anchor) := (k10.go b11).cell 0
        have q1 : w11.cell? ⟨W.heap.size, 1, none⟩ = some (.int .i64 kk.head) := (k10.go b11).cell 1
        clear b10 b11 k10 y0 y1 p0 p1 p2 p3 p4 p5 p6 p7 p8 p9
        obtain ⟨n1, n2, n3, n4, n5, n6⟩ := HKK.out
        have d1 : decide (0 ≤ kk.anchor) = true := by simpa using n1
        have d2 : decide (kk.anchor ≤ rc TT.node.text) = true := by simpa using n2
        have d3 : decide (0 ≤ kk.head) = true := by simpa using n3
        have d4 : decide (kk.head ≤ rc TT.node.text) = true := by simpa using n4
        by_cases hmh : m.anchor ≤ m.head
        · have d5 : decide (m.anchor ≤ m.head) = true := by simpa using hmh
          have d6 : decide (kk.anchor ≤ kk.head) = true := by simpa using n5 hmh
          clear n1 n2 n3 n4 n5 n6 hmh HKK
          go_wp2_with fail
          go_ret
          exact ⟨rfl, B11.out⟩
        · have d5 : decide (m.anchor ≤ m.head) = false := by simpa using hmh
          have d7 : decide (m.head < m.anchor) = true := by simp; omega
          have n7 := n6 (by omega)
          by_cases he : kk.anchor = kk.head
          · have d6 : decide (kk.anchor ≤ kk.head) = true := by simp; omega
            have d8 : (kk.anchor == kk.head) = true := by simp [he]
            clear n1 n2 n3 n4 n5 n6 n7 hmh HKK he
            go_wp2_with fail
            go_ret
            exact ⟨rfl, B11.out⟩
          · have d6 : decide (kk.anchor ≤ kk.head) = false := by simp; omega
            clear n1 n2 n3 n4 n5 n6 n7 hmh HKK he
            go_wp2_with fail
            go_ret
            exact ⟨rfl, B11.out⟩
  · unfold TurnE at h6
    rw [sel_refused hin, if_neg (by decide)] at h6
    obtain ⟨rfl, b6⟩ := h6
    have B6 := Lib.hid (up B4.out b6)
    have Y6 := Lib.hid (Y4.out.go b6)
    clear b6 Y4 XT4
    go_upto_region 6 with fail
    refine abs_w (fun W => Below w6.heap.size w6 W) ((Below.refl _ _).alloc (Nat.le_refl _) _) ?_
    intro w5 b5
    have B5 := Lib.hid (up B6.out b5)
    have Y5 := Lib.hid (Y6.out.go b5)
    clear b5 Y6 B6
    go_cut [16] from 45 to 66 (fun s16 W => s16 = .bool false ∧ Below w5.heap.size w5 W)
    case first =>
      by_cases k1 : 0 ≤ m.anchor
      · by_cases k2 : m.anchor ≤ rc c
        · by_cases k3 : 0 ≤ m.head
          · have k4 : ¬ m.head ≤ rc c := fun k4 => hin ⟨k1, k2, k3, k4⟩
            have d1 : decide (0 ≤ m.anchor) = true := by simpa using k1
            have d2 : decide (m.anchor ≤ rc c) = true := by simpa using k2
            have d3 : decide (0 ≤ m.head) = true := by simpa using k3
            have d4 : decide (m.head ≤ rc c) = false := by simpa using k4
            clear k1 k2 k3 k4
            obtain ⟨Vp, HV⟩ : ∃ Vp : Nat → Value → World → Prop, Hid (Vp = fun i v W => match i with
                | 0 => v = .pointer (some ⟨mb, 0, none⟩)
                | 1 => v = .int .i64 m.anchor
                | 2 => v = .bool true
                | 3 => v = .bool true
                | 4 => v = .pointer (some ⟨mb, 0, none⟩)
                | 5 => v = .int .i64 m.anchor
                | 6 => v = .string c
                | 7 => v = .int .i64 (rc c)
                | 8 => v = .bool true
                | 9 => v = .bool true
                | 10 => v = .bool true
                | 11 => v = .pointer (some ⟨mb, 1, none⟩)
                | 12 => v = .int .i64 m.head
                | 13 => v = .bool true
                | 14 => v = .bool true
                | 15 => v = .bool true
                | 16 => v = .pointer (some ⟨mb, 1, none⟩)
                | 17 => v = .int .i64 m.head
                | 18 => v = .string c
                | 19 => v = .int .i64 (rc c)
                | 20 => v = .bool false
                | 21 => v = .bool false
                | _ => v = .bool false) := ⟨_, rfl⟩
            obtain ⟨Ip, HIp⟩ : ∃ Ip : (Nat → Bool) → (Nat → Value) → World → Prop, Hid (Ip = fun L x W => (Below w5.heap.size w5 W)) := ⟨_, rfl⟩
            refine region_lit3 (by kernel_rfl) (by kernel_rfl) (by kernel_rfl) [[], [0], [0, 1], [0, 1, 2], [0, 1, 2, 3], [0, 1, 2, 3, 4], [0, 1, 2, 3], [0, 1, 2, 3, 6], [0, 1, 2, 3, 4, 5, 6, 7], [0, 1, 2, 3, 4, 5, 6, 7, 8], [0, 1, 2, 3, 4, 5, 6, 7, 8, 9], [0, 1, 2, 3, 4, 5, 6, 7, 8, 9, 10], [0, 1, 2, 3, 4, 5, 6, 7, 8, 9, 10, 11], [0, 1, 2, 3, 4, 5, 6, 7, 8, 9, 10, 11, 12], [0, 1, 2, 3, 4, 5, 6, 7, 8, 9, 10, 11, 12, 13], [0, 1, 2, 3, 4, 5, 6, 7, 8, 9, 10, 11, 12, 13, 14], [0, 1, 2, 3, 4, 5, 6, 7, 8, 9, 10, 11, 12, 13, 14, 15], [0, 1, 2, 3, 4, 5, 6, 7, 8, 9, 10, 11, 12, 13, 14, 15, 16], [0, 1, 2, 3, 4, 5, 6, 7, 8, 9, 10, 11, 12, 13, 14, 15], [0, 1, 2, 3, 4, 5, 6, 7, 8, 9, 10, 11, 12, 13, 14, 15, 18], [0, 1, 2, 3, 4, 5, 6, 7, 8, 9, 10, 11, 12, 13, 14, 15, 16, 17, 18, 19], [0, 1, 2, 3, 4, 5, 6, 7, 8, 9, 10, 11, 12, 13, 14, 15, 16, 17, 18, 19, 20], [0, 1, 2, 3, 4, 5, 6, 7, 8, 9, 10, 11, 12, 13, 14, 15, 16, 17, 18, 19, 20, 21]] (by kernel_rfl) [some 45, some 46, some 47, some 48, some 49, some 50, some 51, some 52, some 53, some 54, some 55, some 56, some 57, some 58, some 59, some 60, some 61, some 62, some 63, some 64, some 65, some 66, some 16] (by kernel_rfl) [[0, 1, 2, 3, 4, 5, 6, 7, 8, 9, 10, 11, 12, 13, 14, 15, 16, 17, 18, 19, 20, 21, 22], [1, 2, 3, 4, 5, 6, 7, 8, 9, 10, 11, 12, 13, 14, 15, 16, 17, 18, 19, 20, 21, 22], [2, 3, 4, 5, 6, 7, 8, 9, 10, 11, 12, 13, 14, 15, 16, 17, 18, 19, 20, 21, 22], [3, 4, 5, 6, 7, 8, 9, 10, 11, 12, 13, 14, 15, 16, 17, 18, 19, 20, 21, 22], [4, 5, 8, 9, 10, 11, 12, 13, 14, 15, 16, 17, 18, 19, 20, 21, 22], [5, 8, 9, 10, 11, 12, 13, 14, 15, 16, 17, 18, 19, 20, 21, 22], [6, 7, 8, 9, 10, 11, 12, 13, 14, 15, 16, 17, 18, 19, 20, 21, 22], [7, 8, 9, 10, 11, 12, 13, 14, 15, 16, 17, 18, 19, 20, 21, 22], [8, 9, 10, 11, 12, 13, 14, 15, 16, 17, 18, 19, 20, 21, 22], [9, 10, 11, 12, 13, 14, 15, 16, 17, 18, 19, 20, 21, 22], [10, 11, 12, 13, 14, 15, 16, 17, 18, 19, 20, 21, 22], [11, 12, 13, 14, 15, 16, 17, 18, 19, 20, 21, 22], [12, 13, 14, 15, 16, 17, 18, 19, 20, 21, 22], [13, 14, 15, 16, 17, 18, 19, 20, 21, 22], [14, 15, 16, 17, 18, 19, 20, 21, 22], [15, 16, 17, 18, 19, 20, 21, 22], [16, 17, 20, 21, 22], [17, 20, 21, 22], [18, 19, 20, 21, 22], [19, 20, 21, 22], [20, 21, 22], [21, 22], [22]] (by kernel_rfl) [[], [], [], [], [], [], [], [], [], [], [], [], [], [], [], [], [], [], [], [], [], [], []] [[], [0], [1], [2], [3], [3, 4], [3], [3, 6], [3, 5, 7], [3, 8], [9], [10], [10, 11], [10, 12], [10, 13], [14], [15], [15, 16], [15], [15, 18], [15, 17, 19], [15, 20], [21]] (by kernel_rfl)
              Ip
              Vp
              (fun j W W' => match j with
                | 7 => Below W.heap.size W W'
                | 19 => Below W.heap.size W W'
                | _ => Below W.heap.size W W')
              [fun x => ⟨(fZm 13 (.pointer (some ⟨mb, 0, none⟩)) (fEm 32)).toArray, []⟩,
   fun x => ⟨(fZm 45 (x 0) (fEm 1)).toArray, []⟩,
   fun x => ⟨(fZm 46 (x 1) (fEm 1)).toArray, []⟩,
   fun x => ⟨(fZm 47 (x 2) (fEm 1)).toArray, []⟩,
   fun x => ⟨(fZm 13 (.pointer (some ⟨mb, 0, none⟩)) (fZm 34 (x 3) (fEm 1))).toArray, []⟩,
   fun x => ⟨(fZm 48 (x 3) (fZm 0 (x 4) (fEm 1))).toArray, []⟩,
   fun x => ⟨(fZm 10 (.string c) (fZm 37 (x 3) (fEm 3))).toArray, []⟩,
   fun x => ⟨(fZm 48 (x 3) (fZm 2 (x 6) (fEm 1))).toArray, []⟩,
   fun x => ⟨(fZm 48 (x 3) (fZm 1 (x 5) (fZm 1 (x 7) (fEm 1)))).toArray, []⟩,
   fun x => ⟨(fZm 48 (x 3) (fZm 4 (x 8) (fEm 1))).toArray, []⟩,
   fun x => ⟨(fZm 54 (x 9) (fEm 1)).toArray, []⟩,
   fun x => ⟨(fZm 13 (.pointer (some ⟨mb, 0, none⟩)) (fZm 41 (x 10) (fEm 1))).toArray, []⟩,
   fun x => ⟨(fZm 55 (x 10) (fZm 0 (x 11) (fEm 1))).toArray, []⟩,
   fun x => ⟨(fZm 55 (x 10) (fZm 1 (x 12) (fEm 1))).toArray, []⟩,
   fun x => ⟨(fZm 55 (x 10) (fZm 2 (x 13) (fEm 1))).toArray, []⟩,
   fun x => ⟨(fZm 59 (x 14) (fEm 1)).toArray, []⟩,
   fun x => ⟨(fZm 13 (.pointer (some ⟨mb, 0, none⟩)) (fZm 46 (x 15) (fEm 1))).toArray, []⟩,
   fun x => ⟨(fZm 60 (x 15) (fZm 0 (x 16) (fEm 1))).toArray, []⟩,
   fun x => ⟨(fZm 10 (.string c) (fZm 49 (x 15) (fEm 3))).toArray, []⟩,
   fun x => ⟨(fZm 60 (x 15) (fZm 2 (x 18) (fEm 1))).toArray, []⟩,
   fun x => ⟨(fZm 60 (x 15) (fZm 1 (x 17) (fZm 1 (x 19) (fEm 1)))).toArray, []⟩,
   fun x => ⟨(fZm 60 (x 15) (fZm 4 (x 20) (fEm 1))).toArray, []⟩,
   fun x => ⟨(fZm 66 (x 21) []).toArray, []⟩]
              ?hF ?mono ?h0 ?step [0, 1, 2, 3, 4, 5, 6, 7, 8, 9, 10, 11, 12, 13, 14, 15, 16, 17, 18, 19, 20, 21, 22] (by kernel_rfl) ?fin
            case hF =>
              iterate 23 refine ⟨fun x => ⟨by kernel_rfl, by kernel_rfl⟩, ?_⟩
              trivial
            case mono =>
              intro i j hi hj hne hna hnk v W W' hE hv
              rw [HV.out] at hv ⊢
              simp only [List.length_cons, List.length_nil] at hi hj
              match i, hi with
              | 0, _ | 1, _ | 2, _ | 3, _ | 4, _ | 5, _ | 6, _ | 7, _ | 8, _ | 9, _ | 10, _ | 11, _ | 12, _ | 13, _ | 14, _ | 15, _ | 16, _ | 17, _ | 18, _ | 19, _ | 20, _ | 21, _ | 22, _ => exact hv
              | m + 23, h => exact absurd h (by omega)
            case h0 => intro x; exact toI HIp (Below.refl _ _).drew
            case step =>
              refine ⟨?_, ?_, ?_, ?_, ?_, ?_, ?_, ?_, ?_, ?_, ?_, ?_, ?_, ?_, ?_, ?_, ?_, ?_, ?_, ?_, ?_, ?_, ?_, trivial⟩
              all_goals
                intro x W L hI hL hV
                replace hI : (Below w5.heap.size w5 W) := ofI HIp hI
                rw [HV.out] at hV
                simp only [AllV, and_true] at hV
                dsimp only [fZm, fEm, List.reduceReplicate, List.cons_append, List.nil_append]
              · clear hV
                have HI := Lib.hid hI
                clear hI
                go_wp2_with fail
                refine step3_done rfl ?_ ?_ ?_
                · exact (toI HIp HI.out)
                · exact (Below.refl _ _)
                · exact (toV HV rfl)
              · have u0 := hV
                clear hV
                simp only [u0]
                clear u0
                have z0 := (Y5.out.go hI).cell 0
                have z1 := (Y5.out.go hI).cell 1
                have HI := Lib.hid hI
                clear hI
                go_wp2_with fail
                refine step3_done rfl ?_ ?_ ?_
                · exact (toI HIp HI.out)
                · exact (Below.refl _ _)
                · exact (toV HV rfl)
              · have u1 := hV
                clear hV
                simp only [u1]
                clear u1
                have HI := Lib.hid hI
                clear hI
                go_wp2_with fail
                refine step3_done rfl ?_ ?_ ?_
                · exact (toI HIp HI.out)
                · exact (Below.refl _ _)
                · exact (toV HV rfl)
              · have u2 := hV
                clear hV
                simp only [u2]
                clear u2
                have HI := Lib.hid hI
                clear hI
                go_wp2_with fail
                refine step3_done rfl ?_ ?_ ?_
                · exact (toI HIp HI.out)
                · exact (Below.refl _ _)
                · exact (toV HV rfl)
              · have u3 := hV
                clear hV
                simp only [u3]
                clear u3
                have HI := Lib.hid hI
                clear hI
                go_wp2_with fail
                refine step3_done rfl ?_ ?_ ?_
                · exact (toI HIp HI.out)
                · exact (Below.refl _ _)
                · exact (toV HV rfl)
              · obtain ⟨u3, u4⟩ := hV
                simp only [u3, u4]
                clear u3 u4
                have z0 := (Y5.out.go hI).cell 0
                have z1 := (Y5.out.go hI).cell 1
                have HI := Lib.hid hI
                clear hI
                go_wp2_with fail
                refine step3_done rfl ?_ ?_ ?_
                · exact (toI HIp HI.out)
                · exact (Below.refl _ _)
                · exact (toV HV rfl)
              · have u3 := hV
                clear hV
                simp only [u3]
                clear u3
                have HI := Lib.hid hI
                clear hI
                go_wp2_with fail
                refine step3_done rfl ?_ ?_ ?_
                · exact (toI HIp HI.out)
                · exact (Below.refl _ _)
                · exact (toV HV rfl)
              · obtain ⟨u3, u6⟩ := hV
                simp only [u3, u6]
                clear u3 u6
                have HI := Lib.hid hI
                clear hI
                go_wp2_with fail
                refine (HRu.out W).mono ?_
                rintro e W' ⟨rfl, hb⟩
                have HB := Lib.hid hb
                clear hb
                go_wp2_with fail
                refine step3_done rfl ?_ ?_ ?_
                · exact (toI HIp (up HI.out HB.out))
                · exact HB.out
                · exact (toV HV rfl)
              · obtain ⟨u3, u5, u7⟩ := hV
                simp only [u3, u5, u7]
                clear u3 u5 u7
                have HI := Lib.hid hI
                clear hI
                go_wp2_with fail
                refine step3_done rfl ?_ ?_ ?_
                · exact (toI HIp HI.out)
                · exact (Below.refl _ _)
                · exact (toV HV rfl)
              · obtain ⟨u3, u8⟩ := hV
                simp only [u3, u8]
                clear u3 u8
                have HI := Lib.hid hI
                clear hI
                go_wp2_with fail
                refine step3_done rfl ?_ ?_ ?_
                · exact (toI HIp HI.out)
                · exact (Below.refl _ _)
                · exact (toV HV rfl)
              · have u9 := hV
                clear hV
                simp only [u9]
                clear u9
                have HI := Lib.hid hI
                clear hI
                go_wp2_with fail
                refine step3_done rfl ?_ ?_ ?_
                · exact (toI HIp HI.out)
                · exact (Below.refl _ _)
                · exact (toV HV rfl)
              · have u10 := hV
                clear hV
                simp only [u10]
                clear u10
                have HI := Lib.hid hI
                clear hI
                go_wp2_with fail
                refine step3_done rfl ?_ ?_ ?_
                · exact (toI HIp HI.out)
                · exact (Below.refl _ _)
                · exact (toV HV rfl)
              · obtain ⟨u10, u11⟩ := hV
                simp only [u10, u11]
                clear u10 u11
                have z0 := (Y5.out.go hI).cell 0
                have z1 := (Y5.out.go hI).cell 1
                have HI := Lib.hid hI
                clear hI
                go_wp2_with fail
                refine step3_done rfl ?_ ?_ ?_
                · exact (toI HIp HI.out)
                · exact (Below.refl _ _)
                · exact (toV HV rfl)
              · obtain ⟨u10, u12⟩ := hV
                simp only [u10, u12]
                clear u10 u12
                have HI := Lib.hid hI
                clear hI
                go_wp2_with fail
                refine step3_done rfl ?_ ?_ ?_
                · exact (toI HIp HI.out)
                · exact (Below.refl _ _)
                · exact (toV HV rfl)
              · obtain ⟨u10, u13⟩ := hV
                simp only [u10, u13]
                clear u10 u13
                have HI := Lib.hid hI
                clear hI
                go_wp2_with fail
                refine step3_done rfl ?_ ?_ ?_
                · exact (toI HIp HI.out)
                · exact (Below.refl _ _)
                · exact (toV HV rfl)
              · have u14 := hV
                clear hV
                simp only [u14]
                clear u14
                have HI := Lib.hid hI
                clear hI
                go_wp2_with fail
                refine step3_done rfl ?_ ?_ ?_
                · exact (toI HIp HI.out)
                · exact (Below.refl _ _)
                · exact (toV HV rfl)
              · have u15 := hV
                clear hV
                simp only [u15]
                clear u15
                have HI := Lib.hid hI
                clear hI
                go_wp2_with fail
                refine step3_done rfl ?_ ?_ ?_
                · exact (toI HIp HI.out)
                · exact (Below.refl _ _)
                · exact (toV HV rfl)
              · obtain ⟨u15, u16⟩ := hV
                simp only [u15, u16]
                clear u15 u16
                have z0 := (Y5.out.go hI).cell 0
                have z1 := (Y5.out.go hI).cell 1
                have HI := Lib.hid hI
                clear hI
                go_wp2_with fail
                refine step3_done rfl ?_ ?_ ?_
                · exact (toI HIp HI.out)
                · exact (Below.refl _ _)
                · exact (toV HV rfl)
              · have u15 := hV
                clear hV
                simp only [u15]
                clear u15
                have HI := Lib.hid hI
                clear hI
                go_wp2_with fail
                refine step3_done rfl ?_ ?_ ?_
                · exact (toI HIp HI.out)
                · exact (Below.refl _ _)
                · exact (toV HV rfl)
              · obtain ⟨u15, u18⟩ := hV
                simp only [u15, u18]
                clear u15 u18
                have HI := Lib.hid hI
                clear hI
                go_wp2_with fail
                refine (HRu.out W).mono ?_
                rintro e W' ⟨rfl, hb⟩
                have HB := Lib.hid hb
                clear hb
                go_wp2_with fail
                refine step3_done rfl ?_ ?_ ?_
                · exact (toI HIp (up HI.out HB.out))
                · exact HB.out
                · exact (toV HV rfl)
              · obtain ⟨u15, u17, u19⟩ := hV
                simp only [u15, u17, u19]
                clear u15 u17 u19
                have HI := Lib.hid hI
                clear hI
                go_wp2_with fail
                refine step3_done rfl ?_ ?_ ?_
                · exact (toI HIp HI.out)
                · exact (Below.refl _ _)
                · exact (toV HV rfl)
              · obtain ⟨u15, u20⟩ := hV
                simp only [u15, u20]
                clear u15 u20
                have HI := Lib.hid hI
                clear hI
                go_wp2_with fail
                refine step3_done rfl ?_ ?_ ?_
                · exact (toI HIp HI.out)
                · exact (Below.refl _ _)
                · exact (toV HV rfl)
              · have u21 := hV
                clear hV
                simp only [u21]
                clear u21
                have HI := Lib.hid hI
                clear hI
                go_wp2_with fail
                refine step3_done rfl ?_ ?_ ?_
                · exact (toI HIp HI.out)
                · exact (Below.refl _ _)
                · exact (toV HV rfl)
            case fin =>
              intro x W L hL hI hV
              replace hI : (Below w5.heap.size w5 W) := ofI HIp hI
              rw [HV.out] at hV
              simp only [AllV, and_true] at hV
              obtain ⟨u0, u1, u2, u3, u4, u5, u6, u7, u8, u9, u10, u11, u12, u13, u14, u15, u16, u17, u18, u19, u20, u21, u22⟩ := hV
              simp only [getsD, List.getD_cons_succ, List.getD_cons_zero, List.length_cons, List.length_nil, List.range, List.range.loop, u0, u1, u2, u3, u4, u5, u6, u7, u8, u9, u10, u11, u12, u13, u14, u15, u16, u17, u18, u19, u20, u21, u22, Act.put, List.setIfInBounds_toArray, List.set_cons_succ, List.set_cons_zero]
              clear u0 u1 u2 u3 u4 u5 u6 u7 u8 u9 u10 u11 u12 u13 u14 u15 u16 u17 u18 u19 u20 u21 u22
              have HI := Lib.hid hI
              clear hI hL
              go_wp2_with fail
              go_meet
              case rel => exact ⟨rfl, HI.out⟩
          · skip
            have d1 : decide (0 ≤ m.anchor) = true := by simpa using k1
            have d2 : decide (m.anchor ≤ rc c) = true := by simpa using k2
            have d3 : decide (0 ≤ m.head) = false := by simpa using k3
            clear k1 k2 k3
            obtain ⟨Vp, HV⟩ : ∃ Vp : Nat → Value → World → Prop, Hid (Vp = fun i v W => match i with
                | 0 => v = .pointer (some ⟨mb, 0, none⟩)
                | 1 => v = .int .i64 m.anchor
                | 2 => v = .bool true
                | 3 => v = .bool true
                | 4 => v = .pointer (some ⟨mb, 0, none⟩)
                | 5 => v = .int .i64 m.anchor
                | 6 => v = .string c
                | 7 => v = .int .i64 (rc c)
                | 8 => v = .bool true
                | 9 => v = .bool true
                | 10 => v = .bool true
                | 11 => v = .pointer (some ⟨mb, 1, none⟩)
                | 12 => v = .int .i64 m.head
                | 13 => v = .bool false
                | 14 => v = .bool false
                | 15 => v = .bool false
                | 16 => v = undef
                | 17 => v = undef
                | 18 => v = undef
                | 19 => v = undef
                | 20 => v = undef
                | 21 => v = .bool false
                | _ => v = .bool false) := ⟨_, rfl⟩
            obtain ⟨Ip, HIp⟩ : ∃ Ip : (Nat → Bool) → (Nat → Value) → World → Prop, Hid (Ip = fun L x W => (Below w5.heap.size w5 W)) := ⟨_, rfl⟩
            refine region_lit3 (by kernel_rfl) (by kernel_rfl) (by kernel_rfl) [[], [0], [0, 1], [0, 1, 2], [0, 1, 2, 3], [0, 1, 2, 3, 4], [0, 1, 2, 3], [0, 1, 2, 3, 6], [0, 1, 2, 3, 4, 5, 6, 7], [0, 1, 2, 3, 4, 5, 6, 7, 8], [0, 1, 2, 3, 4, 5, 6, 7, 8, 9], [0, 1, 2, 3, 4, 5, 6, 7, 8, 9, 10], [0, 1, 2, 3, 4, 5, 6, 7, 8, 9, 10, 11], [0, 1, 2, 3, 4, 5, 6, 7, 8, 9, 10, 11, 12], [0, 1, 2, 3, 4, 5, 6, 7, 8, 9, 10, 11, 12, 13], [0, 1, 2, 3, 4, 5, 6, 7, 8, 9, 10, 11, 12, 13, 14], [0, 1, 2, 3, 4, 5, 6, 7, 8, 9, 10, 11, 12, 13, 14, 15], [0, 1, 2, 3, 4, 5, 6, 7, 8, 9, 10, 11, 12, 13, 14, 15, 16], [0, 1, 2, 3, 4, 5, 6, 7, 8, 9, 10, 11, 12, 13, 14, 15], [0, 1, 2, 3, 4, 5, 6, 7, 8, 9, 10, 11, 12, 13, 14, 15, 18], [0, 1, 2, 3, 4, 5, 6, 7, 8, 9, 10, 11, 12, 13, 14, 15, 16, 17, 18, 19], [0, 1, 2, 3, 4, 5, 6, 7, 8, 9, 10, 11, 12, 13, 14, 15, 16, 17, 18, 19, 20], [0, 1, 2, 3, 4, 5, 6, 7, 8, 9, 10, 11, 12, 13, 14, 15, 16, 17, 18, 19, 20, 21]] (by kernel_rfl) [some 45, some 46, some 47, some 48, some 49, some 50, some 51, some 52, some 53, some 54, some 55, some 56, some 57, some 58, some 59, some 60, some 61, some 62, some 63, some 64, some 65, some 66, some 16] (by kernel_rfl) [[0, 1, 2, 3, 4, 5, 6, 7, 8, 9, 10, 11, 12, 13, 14, 15, 16, 17, 18, 19, 20, 21, 22], [1, 2, 3, 4, 5, 6, 7, 8, 9, 10, 11, 12, 13, 14, 15, 16, 17, 18, 19, 20, 21, 22], [2, 3, 4, 5, 6, 7, 8, 9, 10, 11, 12, 13, 14, 15, 16, 17, 18, 19, 20, 21, 22], [3, 4, 5, 6, 7, 8, 9, 10, 11, 12, 13, 14, 15, 16, 17, 18, 19, 20, 21, 22], [4, 5, 8, 9, 10, 11, 12, 13, 14, 15, 16, 17, 18, 19, 20, 21, 22], [5, 8, 9, 10, 11, 12, 13, 14, 15, 16, 17, 18, 19, 20, 21, 22], [6, 7, 8, 9, 10, 11, 12, 13, 14, 15, 16, 17, 18, 19, 20, 21, 22], [7, 8, 9, 10, 11, 12, 13, 14, 15, 16, 17, 18, 19, 20, 21, 22], [8, 9, 10, 11, 12, 13, 14, 15, 16, 17, 18, 19, 20, 21, 22], [9, 10, 11, 12, 13, 14, 15, 16, 17, 18, 19, 20, 21, 22], [10, 11, 12, 13, 14, 15, 16, 17, 18, 19, 20, 21, 22], [11, 12, 13, 14, 15, 16, 17, 18, 19, 20, 21, 22], [12, 13, 14, 15, 16, 17, 18, 19, 20, 21, 22], [13, 14, 15, 16, 17, 18, 19, 20, 21, 22], [14, 15, 16, 17, 18, 19, 20, 21, 22], [15, 16, 17, 18, 19, 20, 21, 22], [16, 17, 20, 21, 22], [17, 20, 21, 22], [18, 19, 20, 21, 22], [19, 20, 21, 22], [20, 21, 22], [21, 22], [22]] (by kernel_rfl) [[], [], [], [], [], [], [], [], [], [], [], [], [], [], [], [], [], [], [], [], [], [], []] [[], [0], [1], [2], [3], [3, 4], [3], [3, 6], [3, 5, 7], [3, 8], [9], [10], [10, 11], [10, 12], [10, 13], [14], [15], [15, 16], [15], [15, 18], [15, 17, 19], [15, 20], [21]] (by kernel_rfl)
              Ip
              Vp
              (fun j W W' => match j with
                | 7 => Below W.heap.size W W'
                | _ => Below W.heap.size W W')
              [fun x => ⟨(fZm 13 (.pointer (some ⟨mb, 0, none⟩)) (fEm 32)).toArray, []⟩,
   fun x => ⟨(fZm 45 (x 0) (fEm 1)).toArray, []⟩,
   fun x => ⟨(fZm 46 (x 1) (fEm 1)).toArray, []⟩,
   fun x => ⟨(fZm 47 (x 2) (fEm 1)).toArray, []⟩,
   fun x => ⟨(fZm 13 (.pointer (some ⟨mb, 0, none⟩)) (fZm 34 (x 3) (fEm 1))).toArray, []⟩,
   fun x => ⟨(fZm 48 (x 3) (fZm 0 (x 4) (fEm 1))).toArray, []⟩,
   fun x => ⟨(fZm 10 (.string c) (fZm 37 (x 3) (fEm 3))).toArray, []⟩,
   fun x => ⟨(fZm 48 (x 3) (fZm 2 (x 6) (fEm 1))).toArray, []⟩,
   fun x => ⟨(fZm 48 (x 3) (fZm 1 (x 5) (fZm 1 (x 7) (fEm 1)))).toArray, []⟩,
   fun x => ⟨(fZm 48 (x 3) (fZm 4 (x 8) (fEm 1))).toArray, []⟩,
   fun x => ⟨(fZm 54 (x 9) (fEm 1)).toArray, []⟩,
   fun x => ⟨(fZm 13 (.pointer (some ⟨mb, 0, none⟩)) (fZm 41 (x 10) (fEm 1))).toArray, []⟩,
   fun x => ⟨(fZm 55 (x 10) (fZm 0 (x 11) (fEm 1))).toArray, []⟩,
   fun x => ⟨(fZm 55 (x 10) (fZm 1 (x 12) (fEm 1))).toArray, []⟩,
   fun x => ⟨(fZm 55 (x 10) (fZm 2 (x 13) (fEm 1))).toArray, []⟩,
   fun x => ⟨(fZm 59 (x 14) (fEm 1)).toArray, []⟩,
   fun x => ⟨(fZm 13 (.pointer (some ⟨mb, 0, none⟩)) (fZm 46 (x 15) (fEm 1))).toArray, []⟩,
   fun x => ⟨(fZm 60 (x 15) (fZm 0 (x 16) (fEm 1))).toArray, []⟩,
   fun x => ⟨(fZm 10 (.string c) (fZm 49 (x 15) (fEm 3))).toArray, []⟩,
   fun x => ⟨(fZm 60 (x 15) (fZm 2 (x 18) (fEm 1))).toArray, []⟩,
   fun x => ⟨(fZm 60 (x 15) (fZm 1 (x 17) (fZm 1 (x 19) (fEm 1)))).toArray, []⟩,
   fun x => ⟨(fZm 60 (x 15) (fZm 4 (x 20) (fEm 1))).toArray, []⟩,
   fun x => ⟨(fZm 66 (x 21) []).toArray, []⟩]
              ?hF ?mono ?h0 ?step [0, 1, 2, 3, 4, 5, 6, 7, 8, 9, 10, 11, 12, 13, 14, 15, 16, 17, 18, 19, 20, 21, 22] (by kernel_rfl) ?fin
            case hF =>
              iterate 23 refine ⟨fun x => ⟨by kernel_rfl, by kernel_rfl⟩, ?_⟩
              trivial
            case mono =>
              intro i j hi hj hne hna hnk v W W' hE hv
              rw [HV.out] at hv ⊢
              simp only [List.length_cons, List.length_nil] at hi hj
              match i, hi with
              | 0, _ | 1, _ | 2, _ | 3, _ | 4, _ | 5, _ | 6, _ | 7, _ | 8, _ | 9, _ | 10, _ | 11, _ | 12, _ | 13, _ | 14, _ | 15, _ | 16, _ | 17, _ | 18, _ | 19, _ | 20, _ | 21, _ | 22, _ => exact hv
              | m + 23, h => exact absurd h (by omega)
            case h0 => intro x; exact toI HIp (Below.refl _ _).drew
            case step =>
              refine ⟨?_, ?_, ?_, ?_, ?_, ?_, ?_, ?_, ?_, ?_, ?_, ?_, ?_, ?_, ?_, ?_, ?_, ?_, ?_, ?_, ?_, ?_, ?_, trivial⟩
              all_goals
                intro x W L hI hL hV
                replace hI : (Below w5.heap.size w5 W) := ofI HIp hI
                rw [HV.out] at hV
                simp only [AllV, and_true] at hV
                dsimp only [fZm, fEm, List.reduceReplicate, List.cons_append, List.nil_append]
              · clear hV
                have HI := Lib.hid hI
                clear hI
                go_wp2_with fail
                refine step3_done rfl ?_ ?_ ?_
                · exact (toI HIp HI.out)
                · exact (Below.refl _ _)
                · exact (toV HV rfl)
              · have u0 := hV
                clear hV
                simp only [u0]
                clear u0
                have z0 := (Y5.out.go hI).cell 0
                have z1 := (Y5.out.go hI).cell 1
                have HI := Lib.hid hI
                clear hI
                go_wp2_with fail
                refine step3_done rfl ?_ ?_ ?_
                · exact (toI HIp HI.out)
                · exact (Below.refl _ _)
                · exact (toV HV rfl)
              · have u1 := hV
                clear hV
                simp only [u1]
                clear u1
                have HI := Lib.hid hI
                clear hI
                go_wp2_with fail
                refine step3_done rfl ?_ ?_ ?_
                · exact (toI HIp HI.out)
                · exact (Below.refl _ _)
                · exact (toV HV rfl)
              · have u2 := hV
                clear hV
                simp only [u2]
                clear u2
                have HI := Lib.hid hI
                clear hI
                go_wp2_with fail
                refine step3_done rfl ?_ ?_ ?_
                · exact (toI HIp HI.out)
                · exact (Below.refl _ _)
                · exact (toV HV rfl)
              · have u3 := hV
                clear hV
                simp only [u3]
                clear u3
                have HI := Lib.hid hI
                clear hI
                go_wp2_with fail
                refine step3_done rfl ?_ ?_ ?_
                · exact (toI HIp HI.out)
                · exact (Below.refl _ _)
                · exact (toV HV rfl)
              · obtain ⟨u3, u4⟩ := hV
                simp only [u3, u4]
                clear u3 u4
                have z0 := (Y5.out.go hI).cell 0
                have z1 := (Y5.out.go hI).cell 1
                have HI := Lib.hid hI
                clear hI
                go_wp2_with fail
                refine step3_done rfl ?_ ?_ ?_
                · exact (toI HIp HI.out)
                · exact (Below.refl _ _)
                · exact (toV HV rfl)
              · have u3 := hV
                clear hV
                simp only [u3]
                clear u3
                have HI := Lib.hid hI
                clear hI
                go_wp2_with fail
                refine step3_done rfl ?_ ?_ ?_
                · exact (toI HIp HI.out)
                · exact (Below.refl _ _)
                · exact (toV HV rfl)
              · obtain ⟨u3, u6⟩ := hV
                simp only [u3, u6]
                clear u3 u6
                have HI := Lib.hid hI
                clear hI
                go_wp2_with fail
                refine (HRu.out W).mono ?_
                rintro e W' ⟨rfl, hb⟩
                have HB := Lib.hid hb
                clear hb
                go_wp2_with fail
                refine step3_done rfl ?_ ?_ ?_
                · exact (toI HIp (up HI.out HB.out))
                · exact HB.out
                · exact (toV HV rfl)
              · obtain ⟨u3, u5, u7⟩ := hV
                simp only [u3, u5, u7]
                clear u3 u5 u7
                have HI := Lib.hid hI
                clear hI
                go_wp2_with fail
                refine step3_done rfl ?_ ?_ ?_
                · exact (toI HIp HI.out)
                · exact (Below.refl _ _)
                · exact (toV HV rfl)
              · obtain ⟨u3, u8⟩ := hV
                simp only [u3, u8]
                clear u3 u8
                have HI := Lib.hid hI
                clear hI
                go_wp2_with fail
                refine step3_done rfl ?_ ?_ ?_
                · exact (toI HIp HI.out)
                · exact (Below.refl _ _)
                · exact (toV HV rfl)
              · have u9 := hV
                clear hV
                simp only [u9]
                clear u9
                have HI := Lib.hid hI
                clear hI
                go_wp2_with fail
                refine step3_done rfl ?_ ?_ ?_
                · exact (toI HIp HI.out)
                · exact (Below.refl _ _)
                · exact (toV HV rfl)
              · have u10 := hV
                clear hV
                simp only [u10]
                clear u10
                have HI := Lib.hid hI
                clear hI
                go_wp2_with fail
                refine step3_done rfl ?_ ?_ ?_
                · exact (toI HIp HI.out)
                · exact (Below.refl _ _)
                · exact (toV HV rfl)
              · obtain ⟨u10, u11⟩ := hV
                simp only [u10, u11]
                clear u10 u11
                have z0 := (Y5.out.go hI).cell 0
                have z1 := (Y5.out.go hI).cell 1
                have HI := Lib.hid hI
                clear hI
                go_wp2_with fail
                refine step3_done rfl ?_ ?_ ?_
                · exact (toI HIp HI.out)
                · exact (Below.refl _ _)
                · exact (toV HV rfl)
              · obtain ⟨u10, u12⟩ := hV
                simp only [u10, u12]
                clear u10 u12
                have HI := Lib.hid hI
                clear hI
                go_wp2_with fail
                refine step3_done rfl ?_ ?_ ?_
                · exact (toI HIp HI.out)
                · exact (Below.refl _ _)
                · exact (toV HV rfl)
              · obtain ⟨u10, u13⟩ := hV
                simp only [u10, u13]
                clear u10 u13
                have HI := Lib.hid hI
                clear hI
                go_wp2_with fail
                refine step3_done rfl ?_ ?_ ?_
                · exact (toI HIp HI.out)
                · exact (Below.refl _ _)
                · exact (toV HV rfl)
              · have u14 := hV
                clear hV
                simp only [u14]
                clear u14
                have HI := Lib.hid hI
                clear hI
                go_wp2_with fail
                refine step3_done rfl ?_ ?_ ?_
                · exact (toI HIp HI.out)
                · exact (Below.refl _ _)
                · exact (toV HV rfl)
              · have u15 := hV
                clear hV
                simp only [u15]
                clear u15
                have HI := Lib.hid hI
                clear hI
                go_wp2_with fail
                refine step3_done rfl ?_ ?_ ?_
                · exact (toI HIp HI.out)
                · exact (Below.refl _ _)
                · exact (toV HV rfl)
              · obtain ⟨u15, u16⟩ := hV
                simp only [u15, u16]
                clear u15 u16
                have HI := Lib.hid hI
                clear hI
                go_wp2_with fail
                refine step3_done rfl ?_ ?_ ?_
                · exact (toI HIp HI.out)
                · exact (Below.refl _ _)
                · exact (toV HV rfl)
              · have u15 := hV
                clear hV
                simp only [u15]
                clear u15
                have HI := Lib.hid hI
                clear hI
                go_wp2_with fail
                refine step3_done rfl ?_ ?_ ?_
                · exact (toI HIp HI.out)
                · exact (Below.refl _ _)
                · exact (toV HV rfl)
              · obtain ⟨u15, u18⟩ := hV
                simp only [u15, u18]
                clear u15 u18
                have HI := Lib.hid hI
                clear hI
                go_wp2_with fail
                refine step3_done rfl ?_ ?_ ?_
                · exact (toI HIp HI.out)
                · exact (Below.refl _ _)
                · exact (toV HV rfl)
              · obtain ⟨u15, u17, u19⟩ := hV
                simp only [u15, u17, u19]
                clear u15 u17 u19
                have HI := Lib.hid hI
                clear hI
                go_wp2_with fail
                refine step3_done rfl ?_ ?_ ?_
                · exact (toI HIp HI.out)
                · exact (Below.refl _ _)
                · exact (toV HV rfl)
              · obtain ⟨u15, u20⟩ := hV
                simp only [u15, u20]
                clear u15 u20
                have HI := Lib.hid hI
                clear hI
                go_wp2_with fail
                refine step3_done rfl ?_ ?_ ?_
                · exact (toI HIp HI.out)
                · exact (Below.refl _ _)
                · exact (toV HV rfl)
              · have u21 := hV
                clear hV
                simp only [u21]
                clear u21
                have HI := Lib.hid hI
                clear hI
                go_wp2_with fail
                refine step3_done rfl ?_ ?_ ?_
                · exact (toI HIp HI.out)
                · exact (Below.refl _ _)
                · exact (toV HV rfl)
            case fin =>
              intro x W L hL hI hV
              replace hI : (Below w5.heap.size w5 W) := ofI HIp hI
              rw [HV.out] at hV
              simp only [AllV, and_true] at hV
              obtain ⟨u0, u1, u2, u3, u4, u5, u6, u7, u8, u9, u10, u11, u12, u13, u14, u15, u16, u17, u18, u19, u20, u21, u22⟩ := hV
              simp only [getsD, List.getD_cons_succ, List.getD_cons_zero, List.length_cons, List.length_nil, List.range, List.range.loop, u0, u1, u2, u3, u4, u5, u6, u7, u8, u9, u10, u11, u12, u13, u14, u15, u16, u17, u18, u19, u20, u21, u22, Act.put, List.setIfInBounds_toArray, List.set_cons_succ, List.set_cons_zero]
              clear u0 u1 u2 u3 u4 u5 u6 u7 u8 u9 u10 u11 u12 u13 u14 u15 u16 u17 u18 u19 u20 u21 u22
              have HI := Lib.hid hI
              clear hI hL
              go_wp2_with fail
              go_meet
              case rel => exact ⟨rfl, HI.out⟩
        · skip
          have d1 : decide (0 ≤ m.anchor) = true := by simpa using k1
          have d2 : decide (m.anchor ≤ rc c) = false := by simpa using k2
          clear k1 k2
          obtain ⟨Vp, HV⟩ : ∃ Vp : Nat → Value → World → Prop, Hid (Vp = fun i v W => match i with
              | 0 => v = .pointer (some ⟨mb, 0, none⟩)
              | 1 => v = .int .i64 m.anchor
              | 2 => v = .bool true
              | 3 => v = .bool true
              | 4 => v = .pointer (some ⟨mb, 0, none⟩)
              | 5 => v = .int .i64 m.anchor
              | 6 => v = .string c
              | 7 => v = .int .i64 (rc c)
              | 8 => v = .bool false
              | 9 => v = .bool false
              | 10 => v = .bool false
              | 11 => v = undef
              | 12 => v = undef
              | 13 => v = undef
              | 14 => v = .bool false
              | 15 => v = .bool false
              | 16 => v = undef
              | 17 => v = undef
              | 18 => v = undef
              | 19 => v = undef
              | 20 => v = undef
              | 21 => v = .bool false
              | _ => v = .bool false) := ⟨_, rfl⟩
          obtain ⟨Ip, HIp⟩ : ∃ Ip : (Nat → Bool) → (Nat → Value) → World → Prop, Hid (Ip = fun L x W => (Below w5.heap.size w5 W)) := ⟨_, rfl⟩
          refine region_lit3 (by kernel_rfl) (by kernel_rfl) (by kernel_rfl) [[], [0], [0, 1], [0, 1, 2], [0, 1, 2, 3], [0, 1, 2, 3, 4], [0, 1, 2, 3], [0, 1, 2, 3, 6], [0, 1, 2, 3, 4, 5, 6, 7], [0, 1, 2, 3, 4, 5, 6, 7, 8], [0, 1, 2, 3, 4, 5, 6, 7, 8, 9], [0, 1, 2, 3, 4, 5, 6, 7, 8, 9, 10], [0, 1, 2, 3, 4, 5, 6, 7, 8, 9, 10, 11], [0, 1, 2, 3, 4, 5, 6, 7, 8, 9, 10, 11, 12], [0, 1, 2, 3, 4, 5, 6, 7, 8, 9, 10, 11, 12, 13], [0, 1, 2, 3, 4, 5, 6, 7, 8, 9, 10, 11, 12, 13, 14], [0, 1, 2, 3, 4, 5, 6, 7, 8, 9, 10, 11, 12, 13, 14, 15], [0, 1, 2, 3, 4, 5, 6, 7, 8, 9, 10, 11, 12, 13, 14, 15, 16], [0, 1, 2, 3, 4, 5, 6, 7, 8, 9, 10, 11, 12, 13, 14, 15], [0, 1, 2, 3, 4, 5, 6, 7, 8, 9, 10, 11, 12, 13, 14, 15, 18], [0, 1, 2, 3, 4, 5, 6, 7, 8, 9, 10, 11, 12, 13, 14, 15, 16, 17, 18, 19], [0, 1, 2, 3, 4, 5, 6, 7, 8, 9, 10, 11, 12, 13, 14, 15, 16, 17, 18, 19, 20], [0, 1, 2, 3, 4, 5, 6, 7, 8, 9, 10, 11, 12, 13, 14, 15, 16, 17, 18, 19, 20, 21]] (by kernel_rfl) [some 45, some 46, some 47, some 48, some 49, some 50, some 51, some 52, some 53, some 54, some 55, some 56, some 57, some 58, some 59, some 60, some 61, some 62, some 63, some 64, some 65, some 66, some 16] (by kernel_rfl) [[0, 1, 2, 3, 4, 5, 6, 7, 8, 9, 10, 11, 12, 13, 14, 15, 16, 17, 18, 19, 20, 21, 22], [1, 2, 3, 4, 5, 6, 7, 8, 9, 10, 11, 12, 13, 14, 15, 16, 17, 18, 19, 20, 21, 22], [2, 3, 4, 5, 6, 7, 8, 9, 10, 11, 12, 13, 14, 15, 16, 17, 18, 19, 20, 21, 22], [3, 4, 5, 6, 7, 8, 9, 10, 11, 12, 13, 14, 15, 16, 17, 18, 19, 20, 21, 22], [4, 5, 8, 9, 10, 11, 12, 13, 14, 15, 16, 17, 18, 19, 20, 21, 22], [5, 8, 9, 10, 11, 12, 13, 14, 15, 16, 17, 18, 19, 20, 21, 22], [6, 7, 8, 9, 10, 11, 12, 13, 14, 15, 16, 17, 18, 19, 20, 21, 22], [7, 8, 9, 10, 11, 12, 13, 14, 15, 16, 17, 18, 19, 20, 21, 22], [8, 9, 10, 11, 12, 13, 14, 15, 16, 17, 18, 19, 20, 21, 22], [9, 10, 11, 12, 13, 14, 15, 16, 17, 18, 19, 20, 21, 22], [10, 11, 12, 13, 14, 15, 16, 17, 18, 19, 20, 21, 22], [11, 12, 13, 14, 15, 16, 17, 18, 19, 20, 21, 22], [12, 13, 14, 15, 16, 17, 18, 19, 20, 21, 22], [13, 14, 15, 16, 17, 18, 19, 20, 21, 22], [14, 15, 16, 17, 18, 19, 20, 21, 22], [15, 16, 17, 18, 19, 20, 21, 22], [16, 17, 20, 21, 22], [17, 20, 21, 22], [18, 19, 20, 21, 22], [19, 20, 21, 22], [20, 21, 22], [21, 22], [22]] (by kernel_rfl) [[], [], [], [], [], [], [], [], [], [], [], [], [], [], [], [], [], [], [], [], [], [], []] [[], [0], [1], [2], [3], [3, 4], [3], [3, 6], [3, 5, 7], [3, 8], [9], [10], [10, 11], [10, 12], [10, 13], [14], [15], [15, 16], [15], [15, 18], [15, 17, 19], [15, 20], [21]] (by kernel_rfl)
            Ip
            Vp
            (fun j W W' => match j with
              | 7 => Below W.heap.size W W'
              | _ => Below W.heap.size W W')
            [fun x => ⟨(fZm 13 (.pointer (some ⟨mb, 0, none⟩)) (fEm 32)).toArray, []⟩,
   fun x => ⟨(fZm 45 (x 0) (fEm 1)).toArray, []⟩,
   fun x => ⟨(fZm 46 (x 1) (fEm 1)).toArray, []⟩,
   fun x => ⟨(fZm 47 (x 2) (fEm 1)).toArray, []⟩,
   fun x => ⟨(fZm 13 (.pointer (some ⟨mb, 0, none⟩)) (fZm 34 (x 3) (fEm 1))).toArray, []⟩,
   fun x => ⟨(fZm 48 (x 3) (fZm 0 (x 4) (fEm 1))).toArray, []⟩,
   fun x => ⟨(fZm 10 (.string c) (fZm 37 (x 3) (fEm 3))).toArray, []⟩,
   fun x => ⟨(fZm 48 (x 3) (fZm 2 (x 6) (fEm 1))).toArray, []⟩,
   fun x => ⟨(fZm 48 (x 3) (fZm 1 (x 5) (fZm 1 (x 7) (fEm 1)))).toArray, []⟩,
   fun x => ⟨(fZm 48 (x 3) (fZm 4 (x 8) (fEm 1))).toArray, []⟩,
   fun x => ⟨(fZm 54 (x 9) (fEm 1)).toArray, []⟩,
   fun x => ⟨(fZm 13 (.pointer (some ⟨mb, 0, none⟩)) (fZm 41 (x 10) (fEm 1))).toArray, []⟩,
   fun x => ⟨(fZm 55 (x 10) (fZm 0 (x 11) (fEm 1))).toArray, []⟩,
   fun x => ⟨(fZm 55 (x 10) (fZm 1 (x 12) (fEm 1))).toArray, []⟩,
   fun x => ⟨(fZm 55 (x 10) (fZm 2 (x 13) (fEm 1))).toArray, []⟩,
   fun x => ⟨(fZm 59 (x 14) (fEm 1)).toArray, []⟩,
   fun x => ⟨(fZm 13 (.pointer (some ⟨mb, 0, none⟩)) (fZm 46 (x 15) (fEm 1))).toArray, []⟩,
   fun x => ⟨(fZm 60 (x 15) (fZm 0 (x 16) (fEm 1))).toArray, []⟩,
   fun x => ⟨(fZm 10 (.string c) (fZm 49 (x 15) (fEm 3))).toArray, []⟩,
   fun x => ⟨(fZm 60 (x 15) (fZm 2 (x 18) (fEm 1))).toArray, []⟩,
   fun x => ⟨(fZm 60 (x 15) (fZm 1 (x 17) (fZm 1 (x 19) (fEm 1)))).toArray, []⟩,
   fun x => ⟨(fZm 60 (x 15) (fZm 4 (x 20) (fEm 1))).toArray, []⟩,
   fun x => ⟨(fZm 66 (x 21) []).toArray, []⟩]
            ?hF ?mono ?h0 ?step [0, 1, 2, 3, 4, 5, 6, 7, 8, 9, 10, 11, 12, 13, 14, 15, 16, 17, 18, 19, 20, 21, 22] (by kernel_rfl) ?fin
          case hF =>
            iterate 23 refine ⟨fun x => ⟨by kernel_rfl, by kernel_rfl⟩, ?_⟩
            trivial
          case mono =>
            intro i j hi hj hne hna hnk v W W' hE hv
            rw [HV.out] at hv ⊢
            simp only [List.length_cons, List.length_nil] at hi hj
            match i, hi with
            | 0, _ | 1, _ | 2, _ | 3, _ | 4, _ | 5, _ | 6, _ | 7, _ | 8, _ | 9, _ | 10, _ | 11, _ | 12, _ | 13, _ | 14, _ | 15, _ | 16, _ | 17, _ | 18, _ | 19, _ | 20, _ | 21, _ | 22, _ => exact hv
            | m + 23, h => exact absurd h (by omega)
          case h0 => intro x; exact toI HIp (Below.refl _ _).drew
          case step =>
            refine ⟨?_, ?_, ?_, ?_, ?_, ?_, ?_, ?_, ?_, ?_, ?_, ?_, ?_, ?_, ?_, ?_, ?_, ?_, ?_, ?_, ?_, ?_, ?_, trivial⟩
            all_goals
              intro x W L hI hL hV
              replace hI : (Below w5.heap.size w5 W) := ofI HIp hI
              rw [HV.out] at hV
              simp only [AllV, and_true] at hV
              dsimp only [fZm, fEm, List.reduceReplicate, List.cons_append, List.nil_append]
            · clear hV
              have HI := Lib.hid hI
              clear hI
              go_wp2_with fail
              refine step3_done rfl ?_ ?_ ?_
              · exact (toI HIp HI.out)
              · exact (Below.refl _ _)
              · exact (toV HV rfl)
            · have u0 := hV
              clear hV
              simp only [u0]
              clear u0
              have z0 := (Y5.out.go hI).cell 0
              have z1 := (Y5.out.go hI).cell 1
              have HI := Lib.hid hI
              clear hI
              go_wp2_with fail
              refine step3_done rfl ?_ ?_ ?_
              · exact (toI HIp HI.out)
              · exact (Below.refl _ _)
              · exact (toV HV rfl)
            · have u1 := hV
              clear hV
              simp only [u1]
              clear u1
              have HI := Lib.hid hI
              clear hI
              go_wp2_with fail
              refine step3_done rfl ?_ ?_ ?_
              · exact (toI HIp HI.out)
              · exact (Below.refl _ _)
              · exact (toV HV rfl)
            · have u2 := hV
              clear hV
              simp only [u2]
              clear u2
              have HI := Lib.hid hI
              clear hI
              go_wp2_with fail
              refine step3_done rfl ?_ ?_ ?_
              · exact (toI HIp HI.out)
              · exact (Below.refl _ _)
              · exact (toV HV rfl)
            · have u3 := hV
              clear hV
              simp only [u3]
              clear u3
              have HI := Lib.hid hI
              clear hI
              go_wp2_with fail
              refine step3_done rfl ?_ ?_ ?_
              · exact (toI HIp HI.out)
              · exact (Below.refl _ _)
              · exact (toV HV rfl)
            · obtain ⟨u3, u4⟩ := hV
              simp only [u3, u4]
              clear u3 u4
              have z0 := (Y5.out.go hI).cell 0
              have z1 := (Y5.out.go hI).cell 1
              have HI := Lib.hid hI
              clear hI
              go_wp2_with fail
              refine step3_done rfl ?_ ?_ ?_
              · exact (toI HIp HI.out)
              · exact (Below.refl _ _)
              · exact (toV HV rfl)
            · have u3 := hV
              clear hV
              simp only [u3]
              clear u3
              have HI := Lib.hid hI
              clear hI
              go_wp2_with fail
              refine step3_done rfl ?_ ?_ ?_
              · exact (toI HIp HI.out)
              · exact (Below.refl _ _)
              · exact (toV HV rfl)
            · obtain ⟨u3, u6⟩ := hV
              simp only [u3, u6]
              clear u3 u6
              have HI := Lib.hid hI
              clear hI
              go_wp2_with fail
              refine (HRu.out W).mono ?_
              rintro e W' ⟨rfl, hb⟩
              have HB := Lib.hid hb
              clear hb
              go_wp2_with fail
              refine step3_done rfl ?_ ?_ ?_
              · exact (toI HIp (up HI.out HB.out))
              · exact HB.out
              · exact (toV HV rfl)
            · obtain ⟨u3, u5, u7⟩ := hV
              simp only [u3, u5, u7]
              clear u3 u5 u7
              have HI := Lib.hid hI
              clear hI
              go_wp2_with fail
              refine step3_done rfl ?_ ?_ ?_
              · exact (toI HIp HI.out)
              · exact (Below.refl _ _)
              · exact (toV HV rfl)
            · obtain ⟨u3, u8⟩ := hV
              simp only [u3, u8]
              clear u3 u8
              have HI := Lib.hid hI
              clear hI
              go_wp2_with fail
              refine step3_done rfl ?_ ?_ ?_
              · exact (toI HIp HI.out)
              · exact (Below.refl _ _)
              · exact (toV HV rfl)
            · have u9 := hV
              clear hV
              simp only [u9]
              clear u9
              have HI := Lib.hid hI
              clear hI
              go_wp2_with fail
              refine step3_done rfl ?_ ?_ ?_
              · exact (toI HIp HI.out)
              · exact (Below.refl _ _)
              · exact (toV HV rfl)
            · have u10 := hV
              clear hV
              simp only [u10]
              clear u10
              have HI := Lib.hid hI
              clear hI
              go_wp2_with fail
              refine step3_done rfl ?_ ?_ ?_
              · exact (toI HIp HI.out)
              · exact (Below.refl _ _)
              · exact (toV HV rfl)
            · obtain ⟨u10, u11⟩ := hV
              simp only [u10, u11]
              clear u10 u11
              have HI := Lib.hid hI
              clear hI
              go_wp2_with fail
              refine step3_done rfl ?_ ?_ ?_
              · exact (toI HIp HI.out)
              · exact (Below.refl _ _)
              · exact (toV HV rfl)
            · obtain ⟨u10, u12⟩ := hV
              simp only [u10, u12]
              clear u10 u12
              have HI := Lib.hid hI
              clear hI
              go_wp2_with fail
              refine step3_done rfl ?_ ?_ ?_
              · exact (toI HIp HI.out)
              · exact (Below.refl _ _)
              · exact (toV HV rfl)
            · obtain ⟨u10, u13⟩ := hV
              simp only [u10, u13]
              clear u10 u13
              have HI := Lib.hid hI
              clear hI
              go_wp2_with fail
              refine step3_done rfl ?_ ?_ ?_
              · exact (toI HIp HI.out)
              · exact (Below.refl _ _)
              · exact (toV HV rfl)
            · have u14 := hV
              clear hV
              simp only [u14]
              clear u14
              have HI := Lib.hid hI
              clear hI
              go_wp2_with fail
              refine step3_done rfl ?_ ?_ ?_
              · exact (toI HIp HI.out)
              · exact (Below.refl _ _)
              · exact (toV HV rfl)
            · have u15 := hV
              clear hV
              simp only [u15]
              clear u15
              have HI := Lib.hid hI
              clear hI
              go_wp2_with fail
              refine step3_done rfl ?_ ?_ ?_
              · exact (toI HIp HI.out)
              · exact (Below.refl _ _)
              · exact (toV HV rfl)
            · obtain ⟨u15, u16⟩ := hV
              simp only [u15, u16]
              clear u15 u16
              have HI := Lib.hid hI
              clear hI
              go_wp2_with fail
              refine step3_done rfl ?_ ?_ ?_
              · exact (toI HIp HI.out)
              · exact (Below.refl _ _)
              · exact (toV HV rfl)
            · have u15 := hV
              clear hV
              simp only [u15]
              clear u15
              have HI := Lib.hid hI
              clear hI
              go_wp2_with fail
              refine step3_done rfl ?_ ?_ ?_
              · exact (toI HIp HI.out)
              · exact (Below.refl _ _)
              · exact (toV HV rfl)
            · obtain ⟨u15, u18⟩ := hV
              simp only [u15, u18]
              clear u15 u18
              have HI := Lib.hid hI
              clear hI
              go_wp2_with fail
              refine step3_done rfl ?_ ?_ ?_
              · exact (toI HIp HI.out)
              · exact (Below.refl _ _)
              · exact (toV HV rfl)
            · obtain ⟨u15, u17, u19⟩ := hV
              simp only [u15, u17, u19]
              clear u15 u17 u19
              have HI := Lib.hid hI
              clear hI
              go_wp2_with fail
              refine step3_done rfl ?_ ?_ ?_
              · exact (toI HIp HI.out)
              · exact (Below.refl _ _)
              · exact (toV HV rfl)
            · obtain ⟨u15, u20⟩ := hV
              simp only [u15, u20]
              clear u15 u20
              have HI := Lib.hid hI
              clear hI
              go_wp2_with fail
              refine step3_done rfl ?_ ?_ ?_
              · exact (toI HIp HI.out)
              · exact (Below.refl _ _)
              · exact (toV HV rfl)
            · have u21 := hV
              clear hV
              simp only [u21]
              clear u21
              have HI := Lib.hid hI
              clear hI
              go_wp2_with fail
              refine step3_done rfl ?_ ?_ ?_
              · exact (toI HIp HI.out)
              · exact (Below.refl _ _)
              · exact (toV HV rfl)
          case fin =>
            intro x W L hL hI hV
            replace hI : (Below w5.heap.size w5 W) := ofI HIp hI
            rw [HV.out] at hV
            simp only [AllV, and_true] at hV
            obtain ⟨u0, u1, u2, u3, u4, u5, u6, u7, u8, u9, u10, u11, u12, u13, u14, u15, u16, u17, u18, u19, u20, u21, u22⟩ := hV
            simp only [getsD, List.getD_cons_succ, List.getD_cons_zero, List.length_cons, List.length_nil, List.range, List.range.loop, u0, u1, u2, u3, u4, u5, u6, u7, u8, u9, u10, u11, u12, u13, u14, u15, u16, u17, u18, u19, u20, u21, u22, Act.put, List.setIfInBounds_toArray, List.set_cons_succ, List.set_cons_zero]
            clear u0 u1 u2 u3 u4 u5 u6 u7 u8 u9 u10 u11 u12 u13 u14 u15 u16 u17 u18 u19 u20 u21 u22
            have HI := Lib.hid hI
            clear hI hL
            go_wp2_with fail
            go_meet
            case rel => exact ⟨rfl, HI.out⟩
      · skip
        have d1 : decide (0 ≤ m.anchor) = false := by simpa using k1
        clear k1
        refine region_lit2 (by kernel_rfl) (by kernel_rfl) (by kernel_rfl) [[], [0], [0, 1], [0, 1, 2], [0, 1, 2, 3], [0, 1, 2, 3, 4], [0, 1, 2, 3], [0, 1, 2, 3, 6], [0, 1, 2, 3, 4, 5, 6, 7], [0, 1, 2, 3, 4, 5, 6, 7, 8], [0, 1, 2, 3, 4, 5, 6, 7, 8, 9], [0, 1, 2, 3, 4, 5, 6, 7, 8, 9, 10], [0, 1, 2, 3, 4, 5, 6, 7, 8, 9, 10, 11], [0, 1, 2, 3, 4, 5, 6, 7, 8, 9, 10, 11, 12], [0, 1, 2, 3, 4, 5, 6, 7, 8, 9, 10, 11, 12, 13], [0, 1, 2, 3, 4, 5, 6, 7, 8, 9, 10, 11, 12, 13, 14], [0, 1, 2, 3, 4, 5, 6, 7, 8, 9, 10, 11, 12, 13, 14, 15], [0, 1, 2, 3, 4, 5, 6, 7, 8, 9, 10, 11, 12, 13, 14, 15, 16], [0, 1, 2, 3, 4, 5, 6, 7, 8, 9, 10, 11, 12, 13, 14, 15], [0, 1, 2, 3, 4, 5, 6, 7, 8, 9, 10, 11, 12, 13, 14, 15, 18], [0, 1, 2, 3, 4, 5, 6, 7, 8, 9, 10, 11, 12, 13, 14, 15, 16, 17, 18, 19], [0, 1, 2, 3, 4, 5, 6, 7, 8, 9, 10, 11, 12, 13, 14, 15, 16, 17, 18, 19, 20], [0, 1, 2, 3, 4, 5, 6, 7, 8, 9, 10, 11, 12, 13, 14, 15, 16, 17, 18, 19, 20, 21]] (by kernel_rfl) [some 45, some 46, some 47, some 48, some 49, some 50, some 51, some 52, some 53, some 54, some 55, some 56, some 57, some 58, some 59, some 60, some 61, some 62, some 63, some 64, some 65, some 66, some 16] (by kernel_rfl) [false, false, false, false, false, false, false, false, false, false, false, false, false, false, false, false, false, false, false, false, false, false, true] (by kernel_rfl)
          (fun W => (Below w5.heap.size w5 W))
          (fun i v W => match i with
            | 0 => v = .pointer (some ⟨mb, 0, none⟩)
            | 1 => v = .int .i64 m.anchor
            | 2 => v = .bool false
            | 3 => v = .bool false
            | 4 => v = undef
            | 5 => v = undef
            | 6 => v = undef
            | 7 => v = undef
            | 8 => v = undef
            | 9 => v = .bool false
            | 10 => v = .bool false
            | 11 => v = undef
            | 12 => v = undef
            | 13 => v = undef
            | 14 => v = .bool false
            | 15 => v = .bool false
            | 16 => v = undef
            | 17 => v = undef
            | 18 => v = undef
            | 19 => v = undef
            | 20 => v = undef
            | 21 => v = .bool false
            | _ => v = .bool false)
          (fun W W' => Below W.heap.size W W')
          [fun x => ⟨(fZm 13 (.pointer (some ⟨mb, 0, none⟩)) (fEm 32)).toArray, []⟩,
   fun x => ⟨(fZm 45 (x 0) (fEm 1)).toArray, []⟩,
   fun x => ⟨(fZm 46 (x 1) (fEm 1)).toArray, []⟩,
   fun x => ⟨(fZm 47 (x 2) (fEm 1)).toArray, []⟩,
   fun x => ⟨(fZm 13 (.pointer (some ⟨mb, 0, none⟩)) (fZm 34 (x 3) (fEm 1))).toArray, []⟩,
   fun x => ⟨(fZm 48 (x 3) (fZm 0 (x 4) (fEm 1))).toArray, []⟩,
   fun x => ⟨(fZm 10 (.string c) (fZm 37 (x 3) (fEm 3))).toArray, []⟩,
   fun x => ⟨(fZm 48 (x 3) (fZm 2 (x 6) (fEm 1))).toArray, []⟩,
   fun x => ⟨(fZm 48 (x 3) (fZm 1 (x 5) (fZm 1 (x 7) (fEm 1)))).toArray, []⟩,
   fun x => ⟨(fZm 48 (x 3) (fZm 4 (x 8) (fEm 1))).toArray, []⟩,
   fun x => ⟨(fZm 54 (x 9) (fEm 1)).toArray, []⟩,
   fun x => ⟨(fZm 13 (.pointer (some ⟨mb, 0, none⟩)) (fZm 41 (x 10) (fEm 1))).toArray, []⟩,
   fun x => ⟨(fZm 55 (x 10) (fZm 0 (x 11) (fEm 1))).toArray, []⟩,
   fun x => ⟨(fZm 55 (x 10) (fZm 1 (x 12) (fEm 1))).toArray, []⟩,
   fun x => ⟨(fZm 55 (x 10) (fZm 2 (x 13) (fEm 1))).toArray, []⟩,
   fun x => ⟨(fZm 59 (x 14) (fEm 1)).toArray, []⟩,
   fun x => ⟨(fZm 13 (.pointer (some ⟨mb, 0, none⟩)) (fZm 46 (x 15) (fEm 1))).toArray, []⟩,
   fun x => ⟨(fZm 60 (x 15) (fZm 0 (x 16) (fEm 1))).toArray, []⟩,
   fun x => ⟨(fZm 10 (.string c) (fZm 49 (x 15) (fEm 3))).toArray, []⟩,
   fun x => ⟨(fZm 60 (x 15) (fZm 2 (x 18) (fEm 1))).toArray, []⟩,
   fun x => ⟨(fZm 60 (x 15) (fZm 1 (x 17) (fZm 1 (x 19) (fEm 1)))).toArray, []⟩,
   fun x => ⟨(fZm 60 (x 15) (fZm 4 (x 20) (fEm 1))).toArray, []⟩,
   fun x => ⟨(fZm 66 (x 21) []).toArray, []⟩]
          ?hF ?mono ?h0 ?step ?fin
        case hF =>
          iterate 23 refine ⟨fun x => ⟨by kernel_rfl, by kernel_rfl⟩, ?_⟩
          trivial
        case mono =>
          intro i hi v W W' hE hv
          match i, hi with
          | 0, _ | 1, _ | 2, _ | 3, _ | 4, _ | 5, _ | 6, _ | 7, _ | 8, _ | 9, _ | 10, _ | 11, _ | 12, _ | 13, _ | 14, _ | 15, _ | 16, _ | 17, _ | 18, _ | 19, _ | 20, _ | 21, _ => exact hv
          | m + 22, h => exact absurd h (by cases m <;> simp)
        case h0 => exact (Below.refl _ _).drew
        case step =>
          refine ⟨?_, ?_, ?_, ?_, ?_, ?_, ?_, ?_, ?_, ?_, ?_, ?_, ?_, ?_, ?_, ?_, ?_, ?_, ?_, ?_, ?_, ?_, ?_, trivial⟩
          all_goals
            intro x W hI hV
            simp only [AllV, and_true] at hV
            dsimp only [fZm, fEm, List.reduceReplicate, List.cons_append, List.nil_append]
          · clear hV
            go_wp2_with fail
            exact step_done rfl hI (Below.refl _ _) rfl
          · have u0 := hV
            clear hV
            simp only [u0]
            clear u0
            have z0 := (Y5.out.go hI).cell 0
            have z1 := (Y5.out.go hI).cell 1
            have HI := Lib.hid hI
            clear hI
            go_wp2_with fail
            exact step_done rfl HI.out (Below.refl _ _) rfl
          · obtain ⟨u0, u1⟩ := hV
            simp only [u1]
            clear u0 u1
            go_wp2_with fail
            exact step_done rfl hI (Below.refl _ _) rfl
          · obtain ⟨u0, u1, u2⟩ := hV
            simp only [u2]
            clear u0 u1 u2
            go_wp2_with fail
            exact step_done rfl hI (Below.refl _ _) rfl
          · obtain ⟨u0, u1, u2, u3⟩ := hV
            simp only [u3]
            clear u0 u1 u2 u3
            go_wp2_with fail
            exact step_done rfl hI (Below.refl _ _) rfl
          · obtain ⟨u0, u1, u2, u3, u4⟩ := hV
            simp only [u3, u4]
            clear u0 u1 u2 u3 u4
            go_wp2_with fail
            exact step_done rfl hI (Below.refl _ _) rfl
          · obtain ⟨u0, u1, u2, u3⟩ := hV
            simp only [u3]
            clear u0 u1 u2 u3
            go_wp2_with fail
            exact step_done rfl hI (Below.refl _ _) rfl
          · obtain ⟨u0, u1, u2, u3, u6⟩ := hV
            simp only [u3, u6]
            clear u0 u1 u2 u3 u6
            go_wp2_with fail
            exact step_done rfl hI (Below.refl _ _) rfl
          · obtain ⟨u0, u1, u2, u3, u4, u5, u6, u7⟩ := hV
            simp only [u3, u5, u7]
            clear u0 u1 u2 u3 u4 u5 u6 u7
            go_wp2_with fail
            exact step_done rfl hI (Below.refl _ _) rfl
          · obtain ⟨u0, u1, u2, u3, u4, u5, u6, u7, u8⟩ := hV
            simp only [u3, u8]
            clear u0 u1 u2 u3 u4 u5 u6 u7 u8
            go_wp2_with fail
            exact step_done rfl hI (Below.refl _ _) rfl
          · obtain ⟨u0, u1, u2, u3, u4, u5, u6, u7, u8, u9⟩ := hV
            simp only [u9]
            clear u0 u1 u2 u3 u4 u5 u6 u7 u8 u9
            go_wp2_with fail
            exact step_done rfl hI (Below.refl _ _) rfl
          · obtain ⟨u0, u1, u2, u3, u4, u5, u6, u7, u8, u9, u10⟩ := hV
            simp only [u10]
            clear u0 u1 u2 u3 u4 u5 u6 u7 u8 u9 u10
            go_wp2_with fail
            exact step_done rfl hI (Below.refl _ _) rfl
          · obtain ⟨u0, u1, u2, u3, u4, u5, u6, u7, u8, u9, u10, u11⟩ := hV
            simp only [u10, u11]
            clear u0 u1 u2 u3 u4 u5 u6 u7 u8 u9 u10 u11
            go_wp2_with fail
            exact step_done rfl hI (Below.refl _ _) rfl
          · obtain ⟨u0, u1, u2, u3, u4, u5, u6, u7, u8, u9, u10, u11, u12⟩ := hV
            simp only [u10, u12]
            clear u0 u1 u2 u3 u4 u5 u6 u7 u8 u9 u10 u11 u12
            go_wp2_with fail
            exact step_done rfl hI (Below.refl _ _) rfl
          · obtain ⟨u0, u1, u2, u3, u4, u5, u6, u7, u8, u9, u10, u11, u12, u13⟩ := hV
            simp only [u10, u13]
            clear u0 u1 u2 u3 u4 u5 u6 u7 u8 u9 u10 u11 u12 u13
            go_wp2_with fail
            exact step_done rfl hI (Below.refl _ _) rfl
          · obtain ⟨u0, u1, u2, u3, u4, u5, u6, u7, u8, u9, u10, u11, u12, u13, u14⟩ := hV
            simp only [u14]
            clear u0 u1 u2 u3 u4 u5 u6 u7 u8 u9 u10 u11 u12 u13 u14
            go_wp2_with fail
            exact step_done rfl hI (Below.refl _ _) rfl
          · obtain ⟨u0, u1, u2, u3, u4, u5, u6, u7, u8, u9, u10, u11, u12, u13, u14, u15⟩ := hV
            simp only [u15]
            clear u0 u1 u2 u3 u4 u5 u6 u7 u8 u9 u10 u11 u12 u13 u14 u15
            go_wp2_with fail
            exact step_done rfl hI (Below.refl _ _) rfl
          · obtain ⟨u0, u1, u2, u3, u4, u5, u6, u7, u8, u9, u10, u11, u12, u13, u14, u15, u16⟩ := hV
            simp only [u15, u16]
            clear u0 u1 u2 u3 u4 u5 u6 u7 u8 u9 u10 u11 u12 u13 u14 u15 u16
            go_wp2_with fail
            exact step_done rfl hI (Below.refl _ _) rfl
          · obtain ⟨u0, u1, u2, u3, u4, u5, u6, u7, u8, u9, u10, u11, u12, u13, u14, u15⟩ := hV
            simp only [u15]
            clear u0 u1 u2 u3 u4 u5 u6 u7 u8 u9 u10 u11 u12 u13 u14 u15
            go_wp2_with fail
            exact step_done rfl hI (Below.refl _ _) rfl
          · obtain ⟨u0, u1, u2, u3, u4, u5, u6, u7, u8, u9, u10, u11, u12, u13, u14, u15, u18⟩ := hV
            simp only [u15, u18]
            clear u0 u1 u2 u3 u4 u5 u6 u7 u8 u9 u10 u11 u12 u13 u14 u15 u18
            go_wp2_with fail
            exact step_done rfl hI (Below.refl _ _) rfl
          · obtain ⟨u0, u1, u2, u3, u4, u5, u6, u7, u8, u9, u10, u11, u12, u13, u14, u15, u16, u17, u18, u19⟩ := hV
            simp only [u15, u17, u19]
            clear u0 u1 u2 u3 u4 u5 u6 u7 u8 u9 u10 u11 u12 u13 u14 u15 u16 u17 u18 u19
            go_wp2_with fail
            exact step_done rfl hI (Below.refl _ _) rfl
          · obtain ⟨u0, u1, u2, u3, u4, u5, u6, u7, u8, u9, u10, u11, u12, u13, u14, u15, u16, u17, u18, u19, u20⟩ := hV
            simp only [u15, u20]
            clear u0 u1 u2 u3 u4 u5 u6 u7 u8 u9 u10 u11 u12 u13 u14 u15 u16 u17 u18 u19 u20
            go_wp2_with fail
            exact step_done rfl hI (Below.refl _ _) rfl
          · obtain ⟨u0, u1, u2, u3, u4, u5, u6, u7, u8, u9, u10, u11, u12, u13, u14, u15, u16, u17, u18, u19, u20, u21⟩ := hV
            simp only [u21]
            clear u0 u1 u2 u3 u4 u5 u6 u7 u8 u9 u10 u11 u12 u13 u14 u15 u16 u17 u18 u19 u20 u21
            go_wp2_with fail
            exact step_done rfl hI (Below.refl _ _) rfl
        case fin =>
          intro x W hI hV
          simp only [AllV, and_true, List.length_cons, List.length_nil, List.range, List.range.loop] at hV
          obtain ⟨u0, u1, u2, u3, u4, u5, u6, u7, u8, u9, u10, u11, u12, u13, u14, u15, u16, u17, u18, u19, u20, u21, u22⟩ := hV
          simp only [getsD, List.getD_cons_succ, List.getD_cons_zero, List.length_cons, List.length_nil, List.range, List.range.loop, u0, u1, u2, u3, u4, u5, u6, u7, u8, u9, u10, u11, u12, u13, u14, u15, u16, u17, u18, u19, u20, u21, u22, Act.put, List.setIfInBounds_toArray, List.set_cons_succ, List.set_cons_zero]
          clear u0 u1 u2 u3 u4 u5 u6 u7 u8 u9 u10 u11 u12 u13 u14 u15 u16 u17 u18 u19 u20 u21 u22
          have HI := Lib.hid hI
          clear hI
          go_wp2_with fail
          go_meet
          case rel => exact ⟨rfl, HI.out⟩
    case rest =>
      obtain ⟨rfl, bc2⟩ := hcut
      have B7 := Lib.hid (up B5.out bc2)
      clear bc2
      go_wp2_with fail
      go_ret
      exact ⟨rfl, B7.out⟩
end Go.Proofs.YtkbfhgcjimfgkaaDoor
