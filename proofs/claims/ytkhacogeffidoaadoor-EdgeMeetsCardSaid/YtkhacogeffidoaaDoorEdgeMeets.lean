/- The walk of EdgeMeets (printed by gen_meets.py). -/
import Derived.Test.YtkhacogeffidoaaDoorMeetW
import Derived.Test.YtkhacogeffidoaaDoorPick
import Derived.BigQuiet
import Derived.Deep.Cut
import Derived.Deep.CutRange
set_option linter.unusedVariables false
set_option linter.unusedSimpArgs false
namespace Go.Proofs.YtkhacogeffidoaaDoor
open Go.RowKit

/-- how many frames are on the way -/
def slLen : Option Value → Nat
  | some (.slice _ n _) => n
  | _ => 0
def flying (g : Nat) (w : World) : Nat := slLen (w.cell? ⟨g, 8, none⟩) + slLen (w.cell? ⟨g, 9, none⟩)
theorem below_drewE (w : World) (n : Nat) : Below w.heap.size w (w.drewN n) := ((Touch.refl (fun _ => False) w).drewN n).toBelow (Nat.le_refl _) (fun k h => h.elim)
theorem flying_pair {base g : Nat} {x y : Sd} {vx vy : Value} {w : World} (h : PairM base g x y vx vy w) : flying g w = x.f.length + y.f.length := by
  obtain ⟨a, c, hx, -⟩ := h.fx.form
  obtain ⟨a', c', hy, -⟩ := h.fy.form
  obtain ⟨_, _, _, _, b, -⟩ := h.box
  have e8 := b.cell 8
  have e9 := b.cell 9
  unfold flying
  rw [e8, e9]
  simp [hx, hy, slLen]

set_option maxRecDepth 100000 in
set_option maxHeartbeats 16000000 in
theorem edgeMeets_walk (w : World) (hg : Good w) (s : Str) (hs : s.size ≤ maxLen) (a1 : Option Addr) (n1 c1 : Nat) (l1 : List Raw) (r1 : RdS (· < w.heap.size) w l1 a1 n1 c1) :
    Calls Tryd.prog 12 #[.string s, .slice a1 n1 c1] w fun e w' => e = .returned (.bool true) ∧ Below w.heap.size w w' := by
  have HL := Lib.hid (letters_any s 20 w hs (by omega))
  obtain ⟨t0, t1, t2, t3⟩ := letters_ok s 20 (by omega)
  generalize letters s 20 = T at *
  have HT0 := Lib.hid (And.intro t0 t2)
  have Hg := Lib.hid hg
  have hnl := r1.1
  have hnm : n1 ≤ 9223372036854775807 := by have h1 := r1.2.1; have h2 := r1.2.2.1; unfold maxLen at h2; omega
  have Hr := Lib.hid r1
  have Hnl := Lib.hid hnl
  clear t0 t1 t2 t3 hg r1 hs hnl
  go_enter Tryd.func12, Tryd.ntmps12
  go_wp2_with fail
  refine HL.out.mono ?_
  rintro e w1 ⟨rfl, b1⟩
  have B1 := Lib.hid b1
  have hz01 := b1.size
  clear b1 HL
  go_wp2_with fail
  refine abs_w (fun W => Below w1.heap.size w1 W ∧ Blk w1.heap.size (.cells #[.string T, .string T, .int .i64 0, .int .i64 0, .slice none 0 0, .int .i64 0, .int .i64 0, .slice none 0 0, .slice none 0 0, .slice none 0 0] 86 (0, 0)) W) ⟨by (repeat (first | exact Below.refl _ _ | assumption | (refine Below.drew ?_) | (refine below_drewN ?_ _) | (refine Below.alloc ?_ (by first | (simp; done) | (simp; omega) | omega) _) | (refine Below.setCell ?_ (by first | (simp; done) | (simp; omega) | omega) _) | (refine Below.trans ?_ (Below.mono (by assumption) (by first | (simp; done) | (simp; omega) | omega))))), Blk.new w1 _⟩ ?_
  rintro w2 ⟨b2, x2⟩
  have B2 := Lib.hid (up B1.out b2)
  have M2 : Hid (PairM w1.heap.size w1.heap.size (Sd.mk T 0 0 [] []) (Sd.mk T 0 0 [] []) (.slice none 0 0) (.slice none 0 0) w2) := ⟨⟨none, 0, none, 0, x2, RdS.nil _ _, RdS.nil _ _⟩, OwnO.nil, OwnO.nil, Nat.le_refl _, (fun z h => by cases h), (fun z h => by cases h)⟩
  have MM := Lib.hid (Meet.start HT0.out.1 HT0.out.2)
  have hz12 := b2.size
  clear b2 x2 B1 HT0
  go_loopw [7] (fun vi wr => ∃ (ii : Nat) (sx sy : Sd) (vx vy : Value), ii ≤ n1 ∧ ii ≤ 30 ∧ vi = .int .i64 (ii : Int) ∧ Below w.heap.size w wr ∧ w2.heap.size ≤ wr.heap.size ∧ Meet true (ii : Int) sx sy ∧ PairM w1.heap.size w1.heap.size sx sy vx vy wr) (fun vi _ => 30 - (intOf vi).toNat)
  case atStart => exact ⟨0, _, _, _, _, by omega, by omega, rfl, B2.out, Nat.le_refl _, MM.out, M2.out⟩
  case round =>
    obtain ⟨ii, sx, sy, vx, vy, hi, hi30, rfl, b4, hz4, mm, m4⟩ := hrel
    clear B2 M2 MM
    have B4 := Lib.hid b4
    have MM := Lib.hid mm
    have M4 := Lib.hid m4
    clear b4 mm m4
    have hi30' : (ii : Int) ≤ 30 := by omega
    by_cases hlt : ii < n1 ∧ ii < 30
    · obtain ⟨hln, hl30⟩ := hlt
      obtain ⟨b, off, rfl, -, hbz, hcs⟩ := Hr.out.raw (by omega)
      obtain ⟨hok, d0, d1, d2, d3, d4⟩ := hcs ii (by have := Hnl.out; omega)
      generalize l1[ii]'(by have := Hnl.out; omega) = r at *
      have hbw2 : b < w2.heap.size := by have := B4.out.size; omega
      have e0 := (B4.out.cell (p := ⟨b, off + ii * 5, none⟩) hbz).trans d0
      have hkr := pk_range r.kind 4 (by omega)
      have HP := Lib.hid (fun W => (picked_any r.kind 4 W hok.1 (by omega) (by omega)).mono fun e w' (h : e = .returned (.int .i64 (pk r.kind 4)) ∧ W = w') => (⟨h.1, h.2 ▸ Below.refl _ _⟩ : e = .returned (.int .i64 (pk r.kind 4)) ∧ Below W.heap.size W w'))
      have Hok := Lib.hid hok
      have Hd := Lib.hid (And.intro d0 (And.intro d1 (And.intro d2 (And.intro d3 d4))))
      have hi1 : (ii : Int) + 1 ≤ 30 := by omega
      have ln' : (ii : Int) < (n1 : Int) := by omega
      have l30' : (ii : Int) < 30 := by omega
      clear hcs hok d0 d1 d2 d3 d4
      generalize pk r.kind 4 = k at *
      go_wp2_with fail
      refine (HP.out _).mono ?_
      rintro e w5 ⟨rfl, b5⟩
      have B5 := Lib.hid (up B4.out b5)
      have M5 := Lib.hid (M4.out.go b5)
      have hz5 := b5.size
      clear b5 B4 M4 HP e0
      have hk4 : k = 0 ∨ k = 1 ∨ k = 2 ∨ k = 3 := by omega
      clear hkr
      rcases hk4 with rfl | rfl | rfl | rfl
      · go_wp2_with fail
        have HE := Lib.hid (fun l a n c W hg h hr => meet_edit0 w1.heap.size w1.heap.size (ii : Int) sx sy vx vy l a n c W hg h MM.out hi1 hr)
        unfold EditP at HE
        obtain ⟨Vp, HV⟩ : ∃ Vp : Nat → Value → World → Prop, Hid (Vp = fun i v W => match i with
            | 0 => v = .pointer (some ⟨w1.heap.size, 0, none⟩)
            | 1 => v = .int .i64 0
            | 2 => v = .slice (some ⟨b, off, none⟩) n1 c1
            | 3 => v = .int .i64 (ii : Int)
            | 4 => v = .pointer (some ⟨b, off + ii * 5, none⟩)
            | 5 => v = .agg #[.int .i64 r.kind, .int .i64 r.a, .int .i64 r.b, .int .i64 r.c, .string r.text]
            | 6 => v = .slice (some ⟨b, off, none⟩) n1 c1
            | 7 => v = .int .i64 (ii : Int)
            | 8 => v = .pointer (some ⟨b, off + ii * 5, none⟩)
            | 9 => v = .pointer (some ⟨b, off + ii * 5 + 2, none⟩)
            | 10 => v = .int .i64 r.b
            | 11 => v = .slice (some ⟨b, off, none⟩) n1 c1
            | 12 => v = .int .i64 (ii : Int)
            | 13 => v = .pointer (some ⟨b, off + ii * 5, none⟩)
            | 14 => v = .pointer (some ⟨b, off + ii * 5 + 3, none⟩)
            | 15 => v = .int .i64 r.c
            | 16 => v = .slice (some ⟨b, off, none⟩) n1 c1
            | 17 => v = .int .i64 (ii : Int)
            | 18 => v = .pointer (some ⟨b, off + ii * 5, none⟩)
            | 19 => v = .pointer (some ⟨b, off + ii * 5 + 1, none⟩)
            | 20 => v = .int .i64 r.a
            | 21 => v = .slice (some ⟨b, off, none⟩) n1 c1
            | 22 => v = .int .i64 (ii : Int)
            | 23 => v = .pointer (some ⟨b, off + ii * 5, none⟩)
            | 24 => v = .pointer (some ⟨b, off + ii * 5 + 4, none⟩)
            | 25 => v = .string r.text
            | 26 => v = .agg #[.int .i64 r.b, .int .i64 r.c, .int .i64 r.a, .int .i64 0, .string r.text]
            | 27 => ∃ q, v = .slice (some ⟨q, 0, none⟩) 2 2 ∧ Blk q (.cells #[.int .i64 r.kind, .int .i64 r.a, .int .i64 r.b, .int .i64 r.c, .string r.text, .int .i64 r.b, .int .i64 r.c, .int .i64 r.a, .int .i64 0, .string r.text] 42 (0, 0)) W
            | 28 => v = .bool true
            | _ => v = .bool true) := ⟨_, rfl⟩
        obtain ⟨Ip, HIp⟩ : ∃ Ip : (Nat → Bool) → (Nat → Value) → World → Prop, Hid (Ip = fun L x W => (Below w.heap.size w W ∧ w5.heap.size ≤ W.heap.size ∧ (L 28 = false → PairM w1.heap.size w1.heap.size sx sy vx vy W ∧ Below w5.heap.size w5 W) ∧ (L 28 = true → ∃ x' y' vx' vy', Meet true ((ii : Int) + 1) x' y' ∧ PairM w1.heap.size w1.heap.size x' y' vx' vy' W))) := ⟨_, rfl⟩
        refine region_lit3 (by kernel_rfl) (by kernel_rfl) (by kernel_rfl) [[], [], [], [], [2, 3], [2, 3, 4], [], [], [6, 7], [6, 7, 8], [6, 7, 8, 9], [], [], [11, 12], [11, 12, 13], [11, 12, 13, 14], [], [], [16, 17], [16, 17, 18], [16, 17, 18, 19], [], [], [21, 22], [21, 22, 23], [21, 22, 23, 24], [6, 7, 8, 9, 10, 11, 12, 13, 14, 15, 16, 17, 18, 19, 20, 21, 22, 23, 24, 25], [2, 3, 4, 5, 6, 7, 8, 9, 10, 11, 12, 13, 14, 15, 16, 17, 18, 19, 20, 21, 22, 23, 24, 25, 26], [0, 1, 2, 3, 4, 5, 6, 7, 8, 9, 10, 11, 12, 13, 14, 15, 16, 17, 18, 19, 20, 21, 22, 23, 24, 25, 26, 27], [0, 1, 2, 3, 4, 5, 6, 7, 8, 9, 10, 11, 12, 13, 14, 15, 16, 17, 18, 19, 20, 21, 22, 23, 24, 25, 26, 27, 28]] (by kernel_rfl) [some 41, some 42, some 43, some 44, some 45, some 46, some 47, some 48, some 49, some 50, some 51, some 52, some 53, some 54, some 55, some 56, some 57, some 58, some 59, some 60, some 61, some 62, some 63, some 64, some 65, some 66, some 67, some 68, some 69, some 8] (by kernel_rfl) [[0, 28, 29], [1, 28, 29], [2, 4, 5, 27, 28, 29], [3, 4, 5, 27, 28, 29], [4, 5, 27, 28, 29], [5, 27, 28, 29], [6, 8, 9, 10, 26, 27, 28, 29], [7, 8, 9, 10, 26, 27, 28, 29], [8, 9, 10, 26, 27, 28, 29], [9, 10, 26, 27, 28, 29], [10, 26, 27, 28, 29], [11, 13, 14, 15, 26, 27, 28, 29], [12, 13, 14, 15, 26, 27, 28, 29], [13, 14, 15, 26, 27, 28, 29], [14, 15, 26, 27, 28, 29], [15, 26, 27, 28, 29], [16, 18, 19, 20, 26, 27, 28, 29], [17, 18, 19, 20, 26, 27, 28, 29], [18, 19, 20, 26, 27, 28, 29], [19, 20, 26, 27, 28, 29], [20, 26, 27, 28, 29], [21, 23, 24, 25, 26, 27, 28, 29], [22, 23, 24, 25, 26, 27, 28, 29], [23, 24, 25, 26, 27, 28, 29], [24, 25, 26, 27, 28, 29], [25, 26, 27, 28, 29], [26, 27, 28, 29], [27, 28, 29], [28, 29], [29]] (by kernel_rfl) [[], [], [], [], [], [], [], [], [], [], [], [], [], [], [], [], [], [], [], [], [], [], [], [], [], [], [], [28], [], []] [[], [], [], [], [2, 3], [4], [], [], [6, 7], [8], [9], [], [], [11, 12], [13], [14], [], [], [16, 17], [18], [19], [], [], [21, 22], [23], [24], [10, 15, 20, 25], [5, 26], [0, 1, 27], [28]] (by kernel_rfl)
          Ip
          Vp
          (fun j W W' => match j with
            | 28 => Below w1.heap.size W W'
            | _ => Below W.heap.size W W')
          [fun x => ⟨#[undef, undef, undef, undef, undef, undef, .pointer (some ⟨w1.heap.size, 0, none⟩), undef, undef, undef, undef, undef, undef, undef, undef, undef, undef, undef, undef, undef, undef, undef, undef, undef, undef, undef, undef, undef, undef, undef, undef, undef, undef, undef, undef, undef, undef, undef, undef, undef, undef, undef], []⟩,
   fun x => ⟨#[undef, undef, undef, undef, undef, undef, undef, undef, undef, .int .i64 0, undef, undef, undef, undef, undef, undef, undef, undef, undef, undef, undef, undef, undef, undef, undef, undef, undef, undef, undef, undef, undef, undef, undef, undef, undef, undef, undef, undef, undef, undef, undef, undef, undef], []⟩,
   fun x => ⟨#[undef, .slice (some ⟨b, off, none⟩) n1 c1, undef, undef, undef, undef, undef, undef, undef, undef, undef, undef, undef, undef, undef, undef, undef, undef, undef, undef, undef, undef, undef, undef, undef, undef, undef, undef, undef, undef, undef, undef, undef, undef, undef, undef, undef, undef, undef, undef, undef, undef, undef, undef], []⟩,
   fun x => ⟨#[undef, undef, undef, undef, undef, undef, undef, .int .i64 (ii : Int), undef, undef, undef, undef, undef, undef, undef, undef, undef, undef, undef, undef, undef, undef, undef, undef, undef, undef, undef, undef, undef, undef, undef, undef, undef, undef, undef, undef, undef, undef, undef, undef, undef, undef, undef, undef, undef], []⟩,
   fun x => ⟨#[undef, undef, undef, undef, undef, undef, undef, undef, undef, undef, undef, undef, undef, undef, undef, undef, undef, undef, undef, undef, undef, undef, undef, undef, undef, undef, undef, undef, undef, undef, undef, undef, undef, undef, undef, undef, undef, undef, undef, undef, undef, undef, undef, x 2, x 3, undef], []⟩,
   fun x => ⟨#[undef, undef, undef, undef, undef, undef, undef, undef, undef, undef, undef, undef, undef, undef, undef, undef, undef, undef, undef, undef, undef, undef, undef, undef, undef, undef, undef, undef, undef, undef, undef, undef, undef, undef, undef, undef, undef, undef, undef, undef, undef, undef, undef, undef, undef, x 4, undef], []⟩,
   fun x => ⟨#[undef, .slice (some ⟨b, off, none⟩) n1 c1, undef, undef, undef, undef, undef, undef, undef, undef, undef, undef, undef, undef, undef, undef, undef, undef, undef, undef, undef, undef, undef, undef, undef, undef, undef, undef, undef, undef, undef, undef, undef, undef, undef, undef, undef, undef, undef, undef, undef, undef, undef, undef, undef, undef, undef, undef], []⟩,
   fun x => ⟨#[undef, undef, undef, undef, undef, undef, undef, .int .i64 (ii : Int), undef, undef, undef, undef, undef, undef, undef, undef, undef, undef, undef, undef, undef, undef, undef, undef, undef, undef, undef, undef, undef, undef, undef, undef, undef, undef, undef, undef, undef, undef, undef, undef, undef, undef, undef, undef, undef, undef, undef, undef, undef], []⟩,
   fun x => ⟨#[undef, undef, undef, undef, undef, undef, undef, undef, undef, undef, undef, undef, undef, undef, undef, undef, undef, undef, undef, undef, undef, undef, undef, undef, undef, undef, undef, undef, undef, undef, undef, undef, undef, undef, undef, undef, undef, undef, undef, undef, undef, undef, undef, undef, undef, undef, undef, x 6, x 7, undef], []⟩,
   fun x => ⟨#[undef, undef, undef, undef, undef, undef, undef, undef, undef, undef, undef, undef, undef, undef, undef, undef, undef, undef, undef, undef, undef, undef, undef, undef, undef, undef, undef, undef, undef, undef, undef, undef, undef, undef, undef, undef, undef, undef, undef, undef, undef, undef, undef, undef, undef, undef, undef, undef, undef, x 8, undef], []⟩,
   fun x => ⟨#[undef, undef, undef, undef, undef, undef, undef, undef, undef, undef, undef, undef, undef, undef, undef, undef, undef, undef, undef, undef, undef, undef, undef, undef, undef, undef, undef, undef, undef, undef, undef, undef, undef, undef, undef, undef, undef, undef, undef, undef, undef, undef, undef, undef, undef, undef, undef, undef, undef, undef, x 9, undef], []⟩,
   fun x => ⟨#[undef, .slice (some ⟨b, off, none⟩) n1 c1, undef, undef, undef, undef, undef, undef, undef, undef, undef, undef, undef, undef, undef, undef, undef, undef, undef, undef, undef, undef, undef, undef, undef, undef, undef, undef, undef, undef, undef, undef, undef, undef, undef, undef, undef, undef, undef, undef, undef, undef, undef, undef, undef, undef, undef, undef, undef, undef, undef, undef, undef], []⟩,
   fun x => ⟨#[undef, undef, undef, undef, undef, undef, undef, .int .i64 (ii : Int), undef, undef, undef, undef, undef, undef, undef, undef, undef, undef, undef, undef, undef, undef, undef, undef, undef, undef, undef, undef, undef, undef, undef, undef, undef, undef, undef, undef, undef, undef, undef, undef, undef, undef, undef, undef, undef, undef, undef, undef, undef, undef, undef, undef, undef, undef], []⟩,
   fun x => ⟨#[undef, undef, undef, undef, undef, undef, undef, undef, undef, undef, undef, undef, undef, undef, undef, undef, undef, undef, undef, undef, undef, undef, undef, undef, undef, undef, undef, undef, undef, undef, undef, undef, undef, undef, undef, undef, undef, undef, undef, undef, undef, undef, undef, undef, undef, undef, undef, undef, undef, undef, undef, undef, x 11, x 12, undef], []⟩,
   fun x => ⟨#[undef, undef, undef, undef, undef, undef, undef, undef, undef, undef, undef, undef, undef, undef, undef, undef, undef, undef, undef, undef, undef, undef, undef, undef, undef, undef, undef, undef, undef, undef, undef, undef, undef, undef, undef, undef, undef, undef, undef, undef, undef, undef, undef, undef, undef, undef, undef, undef, undef, undef, undef, undef, undef, undef, x 13, undef], []⟩,
   fun x => ⟨#[undef, undef, undef, undef, undef, undef, undef, undef, undef, undef, undef, undef, undef, undef, undef, undef, undef, undef, undef, undef, undef, undef, undef, undef, undef, undef, undef, undef, undef, undef, undef, undef, undef, undef, undef, undef, undef, undef, undef, undef, undef, undef, undef, undef, undef, undef, undef, undef, undef, undef, undef, undef, undef, undef, undef, x 14, undef], []⟩,
   fun x => ⟨#[undef, .slice (some ⟨b, off, none⟩) n1 c1, undef, undef, undef, undef, undef, undef, undef, undef, undef, undef, undef, undef, undef, undef, undef, undef, undef, undef, undef, undef, undef, undef, undef, undef, undef, undef, undef, undef, undef, undef, undef, undef, undef, undef, undef, undef, undef, undef, undef, undef, undef, undef, undef, undef, undef, undef, undef, undef, undef, undef, undef, undef, undef, undef, undef, undef], []⟩,
   fun x => ⟨#[undef, undef, undef, undef, undef, undef, undef, .int .i64 (ii : Int), undef, undef, undef, undef, undef, undef, undef, undef, undef, undef, undef, undef, undef, undef, undef, undef, undef, undef, undef, undef, undef, undef, undef, undef, undef, undef, undef, undef, undef, undef, undef, undef, undef, undef, undef, undef, undef, undef, undef, undef, undef, undef, undef, undef, undef, undef, undef, undef, undef, undef, undef], []⟩,
   fun x => ⟨#[undef, undef, undef, undef, undef, undef, undef, undef, undef, undef, undef, undef, undef, undef, undef, undef, undef, undef, undef, undef, undef, undef, undef, undef, undef, undef, undef, undef, undef, undef, undef, undef, undef, undef, undef, undef, undef, undef, undef, undef, undef, undef, undef, undef, undef, undef, undef, undef, undef, undef, undef, undef, undef, undef, undef, undef, undef, x 16, x 17, undef], []⟩,
   fun x => ⟨#[undef, undef, undef, undef, undef, undef, undef, undef, undef, undef, undef, undef, undef, undef, undef, undef, undef, undef, undef, undef, undef, undef, undef, undef, undef, undef, undef, undef, undef, undef, undef, undef, undef, undef, undef, undef, undef, undef, undef, undef, undef, undef, undef, undef, undef, undef, undef, undef, undef, undef, undef, undef, undef, undef, undef, undef, undef, undef, undef, x 18, undef], []⟩,
   fun x => ⟨#[undef, undef, undef, undef, undef, undef, undef, undef, undef, undef, undef, undef, undef, undef, undef, undef, undef, undef, undef, undef, undef, undef, undef, undef, undef, undef, undef, undef, undef, undef, undef, undef, undef, undef, undef, undef, undef, undef, undef, undef, undef, undef, undef, undef, undef, undef, undef, undef, undef, undef, undef, undef, undef, undef, undef, undef, undef, undef, undef, undef, x 19, undef], []⟩,
   fun x => ⟨#[undef, .slice (some ⟨b, off, none⟩) n1 c1, undef, undef, undef, undef, undef, undef, undef, undef, undef, undef, undef, undef, undef, undef, undef, undef, undef, undef, undef, undef, undef, undef, undef, undef, undef, undef, undef, undef, undef, undef, undef, undef, undef, undef, undef, undef, undef, undef, undef, undef, undef, undef, undef, undef, undef, undef, undef, undef, undef, undef, undef, undef, undef, undef, undef, undef, undef, undef, undef, undef, undef], []⟩,
   fun x => ⟨#[undef, undef, undef, undef, undef, undef, undef, .int .i64 (ii : Int), undef, undef, undef, undef, undef, undef, undef, undef, undef, undef, undef, undef, undef, undef, undef, undef, undef, undef, undef, undef, undef, undef, undef, undef, undef, undef, undef, undef, undef, undef, undef, undef, undef, undef, undef, undef, undef, undef, undef, undef, undef, undef, undef, undef, undef, undef, undef, undef, undef, undef, undef, undef, undef, undef, undef, undef], []⟩,
   fun x => ⟨#[undef, undef, undef, undef, undef, undef, undef, undef, undef, undef, undef, undef, undef, undef, undef, undef, undef, undef, undef, undef, undef, undef, undef, undef, undef, undef, undef, undef, undef, undef, undef, undef, undef, undef, undef, undef, undef, undef, undef, undef, undef, undef, undef, undef, undef, undef, undef, undef, undef, undef, undef, undef, undef, undef, undef, undef, undef, undef, undef, undef, undef, undef, x 21, x 22, undef], []⟩,
   fun x => ⟨#[undef, undef, undef, undef, undef, undef, undef, undef, undef, undef, undef, undef, undef, undef, undef, undef, undef, undef, undef, undef, undef, undef, undef, undef, undef, undef, undef, undef, undef, undef, undef, undef, undef, undef, undef, undef, undef, undef, undef, undef, undef, undef, undef, undef, undef, undef, undef, undef, undef, undef, undef, undef, undef, undef, undef, undef, undef, undef, undef, undef, undef, undef, undef, undef, x 23, undef], []⟩,
   fun x => ⟨#[undef, undef, undef, undef, undef, undef, undef, undef, undef, undef, undef, undef, undef, undef, undef, undef, undef, undef, undef, undef, undef, undef, undef, undef, undef, undef, undef, undef, undef, undef, undef, undef, undef, undef, undef, undef, undef, undef, undef, undef, undef, undef, undef, undef, undef, undef, undef, undef, undef, undef, undef, undef, undef, undef, undef, undef, undef, undef, undef, undef, undef, undef, undef, undef, undef, x 24, undef], []⟩,
   fun x => ⟨#[undef, undef, undef, undef, undef, undef, undef, undef, undef, undef, undef, undef, undef, undef, undef, undef, undef, undef, undef, undef, undef, undef, undef, undef, undef, undef, undef, undef, undef, undef, undef, undef, undef, undef, undef, undef, undef, undef, undef, undef, undef, undef, undef, undef, undef, undef, undef, undef, undef, undef, undef, x 10, undef, undef, undef, undef, x 15, undef, undef, undef, undef, x 20, undef, undef, undef, undef, x 25, undef], []⟩,
   fun x => ⟨#[undef, undef, undef, undef, undef, undef, undef, undef, undef, undef, undef, undef, undef, undef, undef, undef, undef, undef, undef, undef, undef, undef, undef, undef, undef, undef, undef, undef, undef, undef, undef, undef, undef, undef, undef, undef, undef, undef, undef, undef, undef, undef, undef, undef, undef, undef, x 5, undef, undef, undef, undef, undef, undef, undef, undef, undef, undef, undef, undef, undef, undef, undef, undef, undef, undef, undef, undef, x 26, undef], []⟩,
   fun x => ⟨#[undef, undef, undef, undef, undef, undef, undef, undef, undef, undef, undef, undef, undef, undef, undef, undef, undef, undef, undef, undef, undef, undef, undef, undef, undef, undef, undef, undef, undef, undef, undef, undef, undef, undef, undef, undef, undef, undef, undef, undef, undef, x 0, x 1, undef, undef, undef, undef, undef, undef, undef, undef, undef, undef, undef, undef, undef, undef, undef, undef, undef, undef, undef, undef, undef, undef, undef, undef, undef, x 27, undef], []⟩,
   fun x => ⟨#[undef, undef, undef, undef, undef, undef, undef, undef, undef, undef, undef, undef, undef, undef, undef, undef, undef, undef, undef, undef, undef, undef, undef, undef, undef, undef, undef, undef, undef, undef, undef, undef, undef, undef, undef, undef, undef, undef, undef, undef, undef, undef, undef, undef, undef, undef, undef, undef, undef, undef, undef, undef, undef, undef, undef, undef, undef, undef, undef, undef, undef, undef, undef, undef, undef, undef, undef, undef, undef, x 28], []⟩]
          ?hF ?mono ?h0 ?step [0, 1, 2, 3, 4, 5, 6, 7, 8, 9, 10, 11, 12, 13, 14, 15, 16, 17, 18, 19, 20, 21, 22, 23, 24, 25, 26, 28, 29] (by kernel_rfl) ?fin
        case hF =>
          exact ⟨fun x => ⟨by kernel_rfl, by kernel_rfl⟩, fun x => ⟨by kernel_rfl, by kernel_rfl⟩, fun x => ⟨by kernel_rfl, by kernel_rfl⟩, fun x => ⟨by kernel_rfl, by kernel_rfl⟩, fun x => ⟨by kernel_rfl, by kernel_rfl⟩, fun x => ⟨by kernel_rfl, by kernel_rfl⟩, fun x => ⟨by kernel_rfl, by kernel_rfl⟩, fun x => ⟨by kernel_rfl, by kernel_rfl⟩, fun x => ⟨by kernel_rfl, by kernel_rfl⟩, fun x => ⟨by kernel_rfl, by kernel_rfl⟩, fun x => ⟨by kernel_rfl, by kernel_rfl⟩, fun x => ⟨by kernel_rfl, by kernel_rfl⟩, fun x => ⟨by kernel_rfl, by kernel_rfl⟩, fun x => ⟨by kernel_rfl, by kernel_rfl⟩, fun x => ⟨by kernel_rfl, by kernel_rfl⟩, fun x => ⟨by kernel_rfl, by kernel_rfl⟩, fun x => ⟨by kernel_rfl, by kernel_rfl⟩, fun x => ⟨by kernel_rfl, by kernel_rfl⟩, fun x => ⟨by kernel_rfl, by kernel_rfl⟩, fun x => ⟨by kernel_rfl, by kernel_rfl⟩, fun x => ⟨by kernel_rfl, by kernel_rfl⟩, fun x => ⟨by kernel_rfl, by kernel_rfl⟩, fun x => ⟨by kernel_rfl, by kernel_rfl⟩, fun x => ⟨by kernel_rfl, by kernel_rfl⟩, fun x => ⟨by kernel_rfl, by kernel_rfl⟩, fun x => ⟨by kernel_rfl, by kernel_rfl⟩, fun x => ⟨by kernel_rfl, by kernel_rfl⟩, fun x => ⟨by kernel_rfl, by kernel_rfl⟩, fun x => ⟨by kernel_rfl, by kernel_rfl⟩, fun x => ⟨by kernel_rfl, by kernel_rfl⟩, trivial⟩
        case mono =>
          intro i j hi hj hne hna hnk v W W' hE hv
          rw [HV.out] at hv ⊢
          simp only [List.length_cons, List.length_nil] at hi hj
          match i, hi with
          | 0, _ | 1, _ | 2, _ | 3, _ | 4, _ | 5, _ | 6, _ | 7, _ | 8, _ | 9, _ | 10, _ | 11, _ | 12, _ | 13, _ | 14, _ | 15, _ | 16, _ | 17, _ | 18, _ | 19, _ | 20, _ | 21, _ | 22, _ | 23, _ | 24, _ | 25, _ | 26, _ | 28, _ | 29, _ => exact hv
          | 27, _ =>
            match j, hj with
            | 27, _ => exact absurd rfl hne
            | 2, _ => exact absurd (by simp) hna
            | 3, _ => exact absurd (by simp) hna
            | 4, _ => exact absurd (by simp) hna
            | 5, _ => exact absurd (by simp) hna
            | 6, _ => exact absurd (by simp) hna
            | 7, _ => exact absurd (by simp) hna
            | 8, _ => exact absurd (by simp) hna
            | 9, _ => exact absurd (by simp) hna
            | 10, _ => exact absurd (by simp) hna
            | 11, _ => exact absurd (by simp) hna
            | 12, _ => exact absurd (by simp) hna
            | 13, _ => exact absurd (by simp) hna
            | 14, _ => exact absurd (by simp) hna
            | 15, _ => exact absurd (by simp) hna
            | 16, _ => exact absurd (by simp) hna
            | 17, _ => exact absurd (by simp) hna
            | 18, _ => exact absurd (by simp) hna
            | 19, _ => exact absurd (by simp) hna
            | 20, _ => exact absurd (by simp) hna
            | 21, _ => exact absurd (by simp) hna
            | 22, _ => exact absurd (by simp) hna
            | 23, _ => exact absurd (by simp) hna
            | 24, _ => exact absurd (by simp) hna
            | 25, _ => exact absurd (by simp) hna
            | 26, _ => exact absurd (by simp) hna
            | 28, _ => exact absurd (by simp) hnk
            | 0, _ => exact (by obtain ⟨q, h1, h2⟩ := hv; exact ⟨q, h1, h2.go hE⟩)
            | 1, _ => exact (by obtain ⟨q, h1, h2⟩ := hv; exact ⟨q, h1, h2.go hE⟩)
            | 29, _ => exact (by obtain ⟨q, h1, h2⟩ := hv; exact ⟨q, h1, h2.go hE⟩)
            | m + 30, h => exact absurd h (by omega)
          | m + 30, h => exact absurd h (by omega)
        case h0 => intro x; exact toI HIp ⟨B5.out.drew, Nat.le_refl _, (fun _ => ⟨M5.out.go (Below.refl _ _).drew, (Below.refl _ _).drew⟩), (fun h => by cases h)⟩
        case step =>
          refine ⟨?_, ?_, ?_, ?_, ?_, ?_, ?_, ?_, ?_, ?_, ?_, ?_, ?_, ?_, ?_, ?_, ?_, ?_, ?_, ?_, ?_, ?_, ?_, ?_, ?_, ?_, ?_, ?_, ?_, ?_, trivial⟩
          all_goals
            intro x W L hI hL hV
            replace hI : (Below w.heap.size w W ∧ w5.heap.size ≤ W.heap.size ∧ (L 28 = false → PairM w1.heap.size w1.heap.size sx sy vx vy W ∧ Below w5.heap.size w5 W) ∧ (L 28 = true → ∃ x' y' vx' vy', Meet true ((ii : Int) + 1) x' y' ∧ PairM w1.heap.size w1.heap.size x' y' vx' vy' W)) := ofI HIp hI
            rw [HV.out] at hV
            simp only [AllV, and_true] at hV
          · clear hV
            (try dsimp only)
            have HI := Lib.hid hI
            clear hI
            go_wp2_with fail
            refine step3_done rfl ?_ ?_ ?_
            · exact (toI HIp HI.out)
            · exact (Below.refl _ _)
            · exact (toV HV rfl)
          · clear hV
            (try dsimp only)
            have HI := Lib.hid hI
            clear hI
            go_wp2_with fail
            refine step3_done rfl ?_ ?_ ?_
            · exact (toI HIp HI.out)
            · exact (Below.refl _ _)
            · exact (toV HV rfl)
          · clear hV
            (try dsimp only)
            have HI := Lib.hid hI
            clear hI
            go_wp2_with fail
            refine step3_done rfl ?_ ?_ ?_
            · exact (toI HIp HI.out)
            · exact (Below.refl _ _)
            · exact (toV HV rfl)
          · clear hV
            (try dsimp only)
            have HI := Lib.hid hI
            clear hI
            go_wp2_with fail
            refine step3_done rfl ?_ ?_ ?_
            · exact (toI HIp HI.out)
            · exact (Below.refl _ _)
            · exact (toV HV rfl)
          · obtain ⟨u2, u3⟩ := hV
            simp only [u2, u3]
            clear u2 u3
            have HI := Lib.hid hI
            clear hI
            go_wp2_with fail
            refine step3_done rfl ?_ ?_ ?_
            · exact (toI HIp HI.out)
            · exact (Below.refl _ _)
            · exact (toV HV rfl)
          · have u4 := hV
            clear hV
            simp only [u4]
            clear u4
            have f0 := (hI.1.cell (p := ⟨b, off + ii * 5, none⟩) hbz).trans Hd.out.1
            have f1 := (hI.1.cell (p := ⟨b, off + ii * 5 + 1, none⟩) hbz).trans Hd.out.2.1
            have g1 : W.cell? ⟨b, off + ii * 5 + 1, none⟩ = _ := f1
            have f2 := (hI.1.cell (p := ⟨b, off + ii * 5 + 2, none⟩) hbz).trans Hd.out.2.2.1
            have g2 : W.cell? ⟨b, off + ii * 5 + 1 + 1, none⟩ = _ := f2
            have f3 := (hI.1.cell (p := ⟨b, off + ii * 5 + 3, none⟩) hbz).trans Hd.out.2.2.2.1
            have g3 : W.cell? ⟨b, off + ii * 5 + 1 + 1 + 1, none⟩ = _ := f3
            have f4 := (hI.1.cell (p := ⟨b, off + ii * 5 + 4, none⟩) hbz).trans Hd.out.2.2.2.2
            have g4 : W.cell? ⟨b, off + ii * 5 + 1 + 1 + 1 + 1, none⟩ = _ := f4
            have HI := Lib.hid hI
            clear hI
            go_wp2_with fail
            refine step3_done rfl ?_ ?_ ?_
            · exact (toI HIp HI.out)
            · exact (Below.refl _ _)
            · exact (toV HV rfl)
          · clear hV
            (try dsimp only)
            have HI := Lib.hid hI
            clear hI
            go_wp2_with fail
            refine step3_done rfl ?_ ?_ ?_
            · exact (toI HIp HI.out)
            · exact (Below.refl _ _)
            · exact (toV HV rfl)
          · clear hV
            (try dsimp only)
            have HI := Lib.hid hI
            clear hI
            go_wp2_with fail
            refine step3_done rfl ?_ ?_ ?_
            · exact (toI HIp HI.out)
            · exact (Below.refl _ _)
            · exact (toV HV rfl)
          · obtain ⟨u6, u7⟩ := hV
            simp only [u6, u7]
            clear u6 u7
            have HI := Lib.hid hI
            clear hI
            go_wp2_with fail
            refine step3_done rfl ?_ ?_ ?_
            · exact (toI HIp HI.out)
            · exact (Below.refl _ _)
            · exact (toV HV rfl)
          · have u8 := hV
            clear hV
            simp only [u8]
            clear u8
            have HI := Lib.hid hI
            clear hI
            go_wp2_with fail
            refine step3_done rfl ?_ ?_ ?_
            · exact (toI HIp HI.out)
            · exact (Below.refl _ _)
            · exact (toV HV rfl)
          · have u9 := hV
            clear hV
            simp only [u9]
            clear u9
            have f2 := (hI.1.cell (p := ⟨b, off + ii * 5 + 2, none⟩) hbz).trans Hd.out.2.2.1
            have HI := Lib.hid hI
            clear hI
            go_wp2_with fail
            refine step3_done rfl ?_ ?_ ?_
            · exact (toI HIp HI.out)
            · exact (Below.refl _ _)
            · exact (toV HV rfl)
          · clear hV
            (try dsimp only)
            have HI := Lib.hid hI
            clear hI
            go_wp2_with fail
            refine step3_done rfl ?_ ?_ ?_
            · exact (toI HIp HI.out)
            · exact (Below.refl _ _)
            · exact (toV HV rfl)
          · clear hV
            (try dsimp only)
            have HI := Lib.hid hI
            clear hI
            go_wp2_with fail
            refine step3_done rfl ?_ ?_ ?_
            · exact (toI HIp HI.out)
            · exact (Below.refl _ _)
            · exact (toV HV rfl)
          · obtain ⟨u11, u12⟩ := hV
            simp only [u11, u12]
            clear u11 u12
            have HI := Lib.hid hI
            clear hI
            go_wp2_with fail
            refine step3_done rfl ?_ ?_ ?_
            · exact (toI HIp HI.out)
            · exact (Below.refl _ _)
            · exact (toV HV rfl)
          · have u13 := hV
            clear hV
            simp only [u13]
            clear u13
            have HI := Lib.hid hI
            clear hI
            go_wp2_with fail
            refine step3_done rfl ?_ ?_ ?_
            · exact (toI HIp HI.out)
            · exact (Below.refl _ _)
            · exact (toV HV rfl)
          · have u14 := hV
            clear hV
            simp only [u14]
            clear u14
            have f3 := (hI.1.cell (p := ⟨b, off + ii * 5 + 3, none⟩) hbz).trans Hd.out.2.2.2.1
            have HI := Lib.hid hI
            clear hI
            go_wp2_with fail
            refine step3_done rfl ?_ ?_ ?_
            · exact (toI HIp HI.out)
            · exact (Below.refl _ _)
            · exact (toV HV rfl)
          · clear hV
            (try dsimp only)
            have HI := Lib.hid hI
            clear hI
            go_wp2_with fail
            refine step3_done rfl ?_ ?_ ?_
            · exact (toI HIp HI.out)
            · exact (Below.refl _ _)
            · exact (toV HV rfl)
          · clear hV
            (try dsimp only)
            have HI := Lib.hid hI
            clear hI
            go_wp2_with fail
            refine step3_done rfl ?_ ?_ ?_
            · exact (toI HIp HI.out)
            · exact (Below.refl _ _)
            · exact (toV HV rfl)
          · obtain ⟨u16, u17⟩ := hV
            simp only [u16, u17]
            clear u16 u17
            have HI := Lib.hid hI
            clear hI
            go_wp2_with fail
            refine step3_done rfl ?_ ?_ ?_
            · exact (toI HIp HI.out)
            · exact (Below.refl _ _)
            · exact (toV HV rfl)
          · have u18 := hV
            clear hV
            simp only [u18]
            clear u18
            have HI := Lib.hid hI
            clear hI
            go_wp2_with fail
            refine step3_done rfl ?_ ?_ ?_
            · exact (toI HIp HI.out)
            · exact (Below.refl _ _)
            · exact (toV HV rfl)
          · have u19 := hV
            clear hV
            simp only [u19]
            clear u19
            have f1 := (hI.1.cell (p := ⟨b, off + ii * 5 + 1, none⟩) hbz).trans Hd.out.2.1
            have HI := Lib.hid hI
            clear hI
            go_wp2_with fail
            refine step3_done rfl ?_ ?_ ?_
            · exact (toI HIp HI.out)
            · exact (Below.refl _ _)
            · exact (toV HV rfl)
          · clear hV
            (try dsimp only)
            have HI := Lib.hid hI
            clear hI
            go_wp2_with fail
            refine step3_done rfl ?_ ?_ ?_
            · exact (toI HIp HI.out)
            · exact (Below.refl _ _)
            · exact (toV HV rfl)
          · clear hV
            (try dsimp only)
            have HI := Lib.hid hI
            clear hI
            go_wp2_with fail
            refine step3_done rfl ?_ ?_ ?_
            · exact (toI HIp HI.out)
            · exact (Below.refl _ _)
            · exact (toV HV rfl)
          · obtain ⟨u21, u22⟩ := hV
            simp only [u21, u22]
            clear u21 u22
            have HI := Lib.hid hI
            clear hI
            go_wp2_with fail
            refine step3_done rfl ?_ ?_ ?_
            · exact (toI HIp HI.out)
            · exact (Below.refl _ _)
            · exact (toV HV rfl)
          · have u23 := hV
            clear hV
            simp only [u23]
            clear u23
            have HI := Lib.hid hI
            clear hI
            go_wp2_with fail
            refine step3_done rfl ?_ ?_ ?_
            · exact (toI HIp HI.out)
            · exact (Below.refl _ _)
            · exact (toV HV rfl)
          · have u24 := hV
            clear hV
            simp only [u24]
            clear u24
            have f4 := (hI.1.cell (p := ⟨b, off + ii * 5 + 4, none⟩) hbz).trans Hd.out.2.2.2.2
            have HI := Lib.hid hI
            clear hI
            go_wp2_with fail
            refine step3_done rfl ?_ ?_ ?_
            · exact (toI HIp HI.out)
            · exact (Below.refl _ _)
            · exact (toV HV rfl)
          · obtain ⟨u10, u15, u20, u25⟩ := hV
            simp only [u10, u15, u20, u25]
            clear u10 u15 u20 u25
            have HI := Lib.hid hI
            clear hI
            go_wp2_with fail
            refine step3_done rfl ?_ ?_ ?_
            · exact (toI HIp HI.out)
            · exact (Below.refl _ _)
            · exact (toV HV rfl)
          · obtain ⟨u5, u26⟩ := hV
            simp only [u5, u26]
            clear u5 u26
            have HL := Lib.hid hL
            have HI := Lib.hid hI
            clear hI hL
            go_wp2_with fail
            have uW : ∀ o, Below W.heap.size W (W.alloc o) := fun o => (Below.refl _ _).alloc (Nat.le_refl _) o
            refine step3_done rfl ?_ ?_ ?_
            · exact (toI HIp ⟨up HI.out.1 (uW _), Nat.le_trans HI.out.2.1 (uW _).size, (fun h => ⟨(HI.out.2.2.1 h).1.go (uW _), up (HI.out.2.2.1 h).2 (uW _)⟩), (fun h => absurd ((HL.out.2 28 (by simp)).symm.trans h) (by simp))⟩)
            · exact (uW _)
            · exact (toV HV ⟨_, rfl, Blk.new _ _⟩)
          · obtain ⟨u0, u1, ⟨g27, u27, b27⟩⟩ := hV
            simp only [u0, u1, u27]
            have U27 := Lib.hid u27
            clear u0 u1 u27
            have HL := Lib.hid hL
            have HI := Lib.hid hI
            have R27 := Lib.hid (raws_two (r := r) (q := ⟨r.b, r.c, r.a, 0, r.text⟩) b27 Hok.out ⟨Hok.out.2.2.1, Hok.out.2.2.2.1, Hok.out.2.1, by unfold I64; simp, Hok.out.2.2.2.2⟩)
            have hM := Lib.hid (hI.2.2.1 (hL.2 28 (by simp)))
            clear hI hL b27
            go_wp2_with fail
            refine (HE.out _ _ _ _ _ (Hg.out.below' HI.out.1) hM.out.1 R27.out).mono ?_
            rintro e W' ⟨rfl, h8, hb⟩
            go_wp2_with fail
            have hzz := hb.size
            have hww : w.heap.size ≤ w1.heap.size := hz01
            refine step3_done rfl ?_ ?_ ?_
            · exact (toI HIp ⟨HI.out.1.trans ((Touch.of_below' hb).toBelow (by have := HI.out.1.size; omega) (fun z hz => by omega)), Nat.le_trans HI.out.2.1 hzz, (fun h => absurd h (by simp [setB])), (fun _ => h8)⟩)
            · exact hb
            · exact (toV HV rfl)
          · have u28 := hV
            clear hV
            simp only [u28]
            clear u28
            have HI := Lib.hid hI
            clear hI
            go_wp2_with fail
            refine step3_done rfl ?_ ?_ ?_
            · exact (toI HIp HI.out)
            · exact (Below.refl _ _)
            · exact (toV HV rfl)
        case fin =>
          intro x W L hL hI hV
          replace hI : (Below w.heap.size w W ∧ w5.heap.size ≤ W.heap.size ∧ (L 28 = false → PairM w1.heap.size w1.heap.size sx sy vx vy W ∧ Below w5.heap.size w5 W) ∧ (L 28 = true → ∃ x' y' vx' vy', Meet true ((ii : Int) + 1) x' y' ∧ PairM w1.heap.size w1.heap.size x' y' vx' vy' W)) := ofI HIp hI
          rw [HV.out] at hV
          simp only [AllV, and_true] at hV
          obtain ⟨u0, u1, u2, u3, u4, u5, u6, u7, u8, u9, u10, u11, u12, u13, u14, u15, u16, u17, u18, u19, u20, u21, u22, u23, u24, u25, u26, u28, u29⟩ := hV
          simp only [getsD, List.getD_cons_succ, List.getD_cons_zero, List.length_cons, List.length_nil, List.range, List.range.loop, u0, u1, u2, u3, u4, u5, u6, u7, u8, u9, u10, u11, u12, u13, u14, u15, u16, u17, u18, u19, u20, u21, u22, u23, u24, u25, u26, u28, u29, Act.put, List.setIfInBounds_toArray, List.set_cons_succ, List.set_cons_zero]
          clear u0 u1 u2 u3 u4 u5 u6 u7 u8 u9 u10 u11 u12 u13 u14 u15 u16 u17 u18 u19 u20 u21 u22 u23 u24 u25 u26 u28 u29
          obtain ⟨x', y', vx', vy', m8, p8⟩ := hI.2.2.2 (hL 28 (by simp))
          have B8 := Lib.hid hI.1
          have MM8 := Lib.hid m8
          have M8 := Lib.hid p8
          have hz8 : w2.heap.size ≤ W.heap.size := by have := hI.2.1; omega
          clear hI hL m8 p8
          go_wp2_with fail
          case roundEnd =>
            refine ⟨⟨ii + 1, x', y', vx', vy', by omega, by omega, by push_cast; rfl, B8.out, ?_⟩, ?_⟩
            · exact ⟨hz8, by push_cast; exact MM8.out, M8.out⟩
            · simp [intOf]
              omega
      · go_wp2_with fail
        have HE := Lib.hid (fun l a n c W hg h hr => meet_edit1 w1.heap.size w1.heap.size (ii : Int) sx sy vx vy l a n c W hg h MM.out hi1 hr)
        unfold EditP at HE
        obtain ⟨Vp, HV⟩ : ∃ Vp : Nat → Value → World → Prop, Hid (Vp = fun i v W => match i with
            | 0 => v = .pointer (some ⟨w1.heap.size, 0, none⟩)
            | 1 => v = .int .i64 1
            | 2 => v = .slice (some ⟨b, off, none⟩) n1 c1
            | 3 => v = .int .i64 (ii : Int)
            | 4 => v = .pointer (some ⟨b, off + ii * 5, none⟩)
            | 5 => v = .agg #[.int .i64 r.kind, .int .i64 r.a, .int .i64 r.b, .int .i64 r.c, .string r.text]
            | 6 => v = .slice (some ⟨b, off, none⟩) n1 c1
            | 7 => v = .int .i64 (ii : Int)
            | 8 => v = .pointer (some ⟨b, off + ii * 5, none⟩)
            | 9 => v = .pointer (some ⟨b, off + ii * 5 + 2, none⟩)
            | 10 => v = .int .i64 r.b
            | 11 => v = .slice (some ⟨b, off, none⟩) n1 c1
            | 12 => v = .int .i64 (ii : Int)
            | 13 => v = .pointer (some ⟨b, off + ii * 5, none⟩)
            | 14 => v = .pointer (some ⟨b, off + ii * 5 + 3, none⟩)
            | 15 => v = .int .i64 r.c
            | 16 => v = .slice (some ⟨b, off, none⟩) n1 c1
            | 17 => v = .int .i64 (ii : Int)
            | 18 => v = .pointer (some ⟨b, off + ii * 5, none⟩)
            | 19 => v = .pointer (some ⟨b, off + ii * 5 + 1, none⟩)
            | 20 => v = .int .i64 r.a
            | 21 => v = .slice (some ⟨b, off, none⟩) n1 c1
            | 22 => v = .int .i64 (ii : Int)
            | 23 => v = .pointer (some ⟨b, off + ii * 5, none⟩)
            | 24 => v = .pointer (some ⟨b, off + ii * 5 + 4, none⟩)
            | 25 => v = .string r.text
            | 26 => v = .agg #[.int .i64 r.b, .int .i64 r.c, .int .i64 r.a, .int .i64 0, .string r.text]
            | 27 => ∃ q, v = .slice (some ⟨q, 0, none⟩) 2 2 ∧ Blk q (.cells #[.int .i64 r.kind, .int .i64 r.a, .int .i64 r.b, .int .i64 r.c, .string r.text, .int .i64 r.b, .int .i64 r.c, .int .i64 r.a, .int .i64 0, .string r.text] 42 (0, 0)) W
            | 28 => v = .bool true
            | _ => v = .bool true) := ⟨_, rfl⟩
        obtain ⟨Ip, HIp⟩ : ∃ Ip : (Nat → Bool) → (Nat → Value) → World → Prop, Hid (Ip = fun L x W => (Below w.heap.size w W ∧ w5.heap.size ≤ W.heap.size ∧ (L 28 = false → PairM w1.heap.size w1.heap.size sx sy vx vy W ∧ Below w5.heap.size w5 W) ∧ (L 28 = true → ∃ x' y' vx' vy', Meet true ((ii : Int) + 1) x' y' ∧ PairM w1.heap.size w1.heap.size x' y' vx' vy' W))) := ⟨_, rfl⟩
        refine region_lit3 (by kernel_rfl) (by kernel_rfl) (by kernel_rfl) [[], [], [], [], [2, 3], [2, 3, 4], [], [], [6, 7], [6, 7, 8], [6, 7, 8, 9], [], [], [11, 12], [11, 12, 13], [11, 12, 13, 14], [], [], [16, 17], [16, 17, 18], [16, 17, 18, 19], [], [], [21, 22], [21, 22, 23], [21, 22, 23, 24], [6, 7, 8, 9, 10, 11, 12, 13, 14, 15, 16, 17, 18, 19, 20, 21, 22, 23, 24, 25], [2, 3, 4, 5, 6, 7, 8, 9, 10, 11, 12, 13, 14, 15, 16, 17, 18, 19, 20, 21, 22, 23, 24, 25, 26], [0, 1, 2, 3, 4, 5, 6, 7, 8, 9, 10, 11, 12, 13, 14, 15, 16, 17, 18, 19, 20, 21, 22, 23, 24, 25, 26, 27], [0, 1, 2, 3, 4, 5, 6, 7, 8, 9, 10, 11, 12, 13, 14, 15, 16, 17, 18, 19, 20, 21, 22, 23, 24, 25, 26, 27, 28]] (by kernel_rfl) [some 41, some 42, some 43, some 44, some 45, some 46, some 47, some 48, some 49, some 50, some 51, some 52, some 53, some 54, some 55, some 56, some 57, some 58, some 59, some 60, some 61, some 62, some 63, some 64, some 65, some 66, some 67, some 68, some 69, some 8] (by kernel_rfl) [[0, 28, 29], [1, 28, 29], [2, 4, 5, 27, 28, 29], [3, 4, 5, 27, 28, 29], [4, 5, 27, 28, 29], [5, 27, 28, 29], [6, 8, 9, 10, 26, 27, 28, 29], [7, 8, 9, 10, 26, 27, 28, 29], [8, 9, 10, 26, 27, 28, 29], [9, 10, 26, 27, 28, 29], [10, 26, 27, 28, 29], [11, 13, 14, 15, 26, 27, 28, 29], [12, 13, 14, 15, 26, 27, 28, 29], [13, 14, 15, 26, 27, 28, 29], [14, 15, 26, 27, 28, 29], [15, 26, 27, 28, 29], [16, 18, 19, 20, 26, 27, 28, 29], [17, 18, 19, 20, 26, 27, 28, 29], [18, 19, 20, 26, 27, 28, 29], [19, 20, 26, 27, 28, 29], [20, 26, 27, 28, 29], [21, 23, 24, 25, 26, 27, 28, 29], [22, 23, 24, 25, 26, 27, 28, 29], [23, 24, 25, 26, 27, 28, 29], [24, 25, 26, 27, 28, 29], [25, 26, 27, 28, 29], [26, 27, 28, 29], [27, 28, 29], [28, 29], [29]] (by kernel_rfl) [[], [], [], [], [], [], [], [], [], [], [], [], [], [], [], [], [], [], [], [], [], [], [], [], [], [], [], [28], [], []] [[], [], [], [], [2, 3], [4], [], [], [6, 7], [8], [9], [], [], [11, 12], [13], [14], [], [], [16, 17], [18], [19], [], [], [21, 22], [23], [24], [10, 15, 20, 25], [5, 26], [0, 1, 27], [28]] (by kernel_rfl)
          Ip
          Vp
          (fun j W W' => match j with
            | 28 => Below w1.heap.size W W'
            | _ => Below W.heap.size W W')
          [fun x => ⟨#[undef, undef, undef, undef, undef, undef, .pointer (some ⟨w1.heap.size, 0, none⟩), undef, undef, undef, undef, undef, undef, undef, undef, undef, undef, undef, undef, undef, undef, undef, undef, undef, undef, undef, undef, undef, undef, undef, undef, undef, undef, undef, undef, undef, undef, undef, undef, undef, undef, undef], []⟩,
   fun x => ⟨#[undef, undef, undef, undef, undef, undef, undef, undef, undef, .int .i64 1, undef, undef, undef, undef, undef, undef, undef, undef, undef, undef, undef, undef, undef, undef, undef, undef, undef, undef, undef, undef, undef, undef, undef, undef, undef, undef, undef, undef, undef, undef, undef, undef, undef], []⟩,
   fun x => ⟨#[undef, .slice (some ⟨b, off, none⟩) n1 c1, undef, undef, undef, undef, undef, undef, undef, undef, undef, undef, undef, undef, undef, undef, undef, undef, undef, undef, undef, undef, undef, undef, undef, undef, undef, undef, undef, undef, undef, undef, undef, undef, undef, undef, undef, undef, undef, undef, undef, undef, undef, undef], []⟩,
   fun x => ⟨#[undef, undef, undef, undef, undef, undef, undef, .int .i64 (ii : Int), undef, undef, undef, undef, undef, undef, undef, undef, undef, undef, undef, undef, undef, undef, undef, undef, undef, undef, undef, undef, undef, undef, undef, undef, undef, undef, undef, undef, undef, undef, undef, undef, undef, undef, undef, undef, undef], []⟩,
   fun x => ⟨#[undef, undef, undef, undef, undef, undef, undef, undef, undef, undef, undef, undef, undef, undef, undef, undef, undef, undef, undef, undef, undef, undef, undef, undef, undef, undef, undef, undef, undef, undef, undef, undef, undef, undef, undef, undef, undef, undef, undef, undef, undef, undef, undef, x 2, x 3, undef], []⟩,
   fun x => ⟨#[undef, undef, undef, undef, undef, undef, undef, undef, undef, undef, undef, undef, undef, undef, undef, undef, undef, undef, undef, undef, undef, undef, undef, undef, undef, undef, undef, undef, undef, undef, undef, undef, undef, undef, undef, undef, undef, undef, undef, undef, undef, undef, undef, undef, undef, x 4, undef], []⟩,
   fun x => ⟨#[undef, .slice (some ⟨b, off, none⟩) n1 c1, undef, undef, undef, undef, undef, undef, undef, undef, undef, undef, undef, undef, undef, undef, undef, undef, undef, undef, undef, undef, undef, undef, undef, undef, undef, undef, undef, undef, undef, undef, undef, undef, undef, undef, undef, undef, undef, undef, undef, undef, undef, undef, undef, undef, undef, undef], []⟩,
   fun x => ⟨#[undef, undef, undef, undef, undef, undef, undef, .int .i64 (ii : Int), undef, undef, undef, undef, undef, undef, undef, undef, undef, undef, undef, undef, undef, undef, undef, undef, undef, undef, undef, undef, undef, undef, undef, undef, undef, undef, undef, undef, undef, undef, undef, undef, undef, undef, undef, undef, undef, undef, undef, undef, undef], []⟩,
   fun x => ⟨#[undef, undef, undef, undef, undef, undef, undef, undef, undef, undef, undef, undef, undef, undef, undef, undef, undef, undef, undef, undef, undef, undef, undef, undef, undef, undef, undef, undef, undef, undef, undef, undef, undef, undef, undef, undef, undef, undef, undef, undef, undef, undef, undef, undef, undef, undef, undef, x 6, x 7, undef], []⟩,
   fun x => ⟨#[undef, undef, undef, undef, undef, undef, undef, undef, undef, undef, undef, undef, undef, undef, undef, undef, undef, undef, undef, undef, undef, undef, undef, undef, undef, undef, undef, undef, undef, undef, undef, undef, undef, undef, undef, undef, undef, undef, undef, undef, undef, undef, undef, undef, undef, undef, undef, undef, undef, x 8, undef], []⟩,
   fun x => ⟨#[undef, undef, undef, undef, undef, undef, undef, undef, undef, undef, undef, undef, undef, undef, undef, undef, undef, undef, undef, undef, undef, undef, undef, undef, undef, undef, undef, undef, undef, undef, undef, undef, undef, undef, undef, undef, undef, undef, undef, undef, undef, undef, undef, undef, undef, undef, undef, undef, undef, undef, x 9, undef], []⟩,
   fun x => ⟨#[undef, .slice (some ⟨b, off, none⟩) n1 c1, undef, undef, undef, undef, undef, undef, undef, undef, undef, undef, undef, undef, undef, undef, undef, undef, undef, undef, undef, undef, undef, undef, undef, undef, undef, undef, undef, undef, undef, undef, undef, undef, undef, undef, undef, undef, undef, undef, undef, undef, undef, undef, undef, undef, undef, undef, undef, undef, undef, undef, undef], []⟩,
   fun x => ⟨#[undef, undef, undef, undef, undef, undef, undef, .int .i64 (ii : Int), undef, undef, undef, undef, undef, undef, undef, undef, undef, undef, undef, undef, undef, undef, undef, undef, undef, undef, undef, undef, undef, undef, undef, undef, undef, undef, undef, undef, undef, undef, undef, undef, undef, undef, undef, undef, undef, undef, undef, undef, undef, undef, undef, undef, undef, undef], []⟩,
   fun x => ⟨#[undef, undef, undef, undef, undef, undef, undef, undef, undef, undef, undef, undef, undef, undef, undef, undef, undef, undef, undef, undef, undef, undef, undef, undef, undef, undef, undef, undef, undef, undef, undef, undef, undef, undef, undef, undef, undef, undef, undef, undef, undef, undef, undef, undef, undef, undef, undef, undef, undef, undef, undef, undef, x 11, x 12, undef], []⟩,
   fun x => ⟨#[undef, undef, undef, undef, undef, undef, undef, undef, undef, undef, undef, undef, undef, undef, undef, undef, undef, undef, undef, undef, undef, undef, undef, undef, undef, undef, undef, undef, undef, undef, undef, undef, undef, undef, undef, undef, undef, undef, undef, undef, undef, undef, undef, undef, undef, undef, undef, undef, undef, undef, undef, undef, undef, undef, x 13, undef], []⟩,
   fun x => ⟨#[undef, undef, undef, undef, undef, undef, undef, undef, undef, undef, undef, undef, undef, undef, undef, undef, undef, undef, undef, undef, undef, undef, undef, undef, undef, undef, undef, undef, undef, undef, undef, undef, undef, undef, undef, undef, undef, undef, undef, undef, undef, undef, undef, undef, undef, undef, undef, undef, undef, undef, undef, undef, undef, undef, undef, x 14, undef], []⟩,
   fun x => ⟨#[undef, .slice (some ⟨b, off, none⟩) n1 c1, undef, undef, undef, undef, undef, undef, undef, undef, undef, undef, undef, undef, undef, undef, undef, undef, undef, undef, undef, undef, undef, undef, undef, undef, undef, undef, undef, undef, undef, undef, undef, undef, undef, undef, undef, undef, undef, undef, undef, undef, undef, undef, undef, undef, undef, undef, undef, undef, undef, undef, undef, undef, undef, undef, undef, undef], []⟩,
   fun x => ⟨#[undef, undef, undef, undef, undef, undef, undef, .int .i64 (ii : Int), undef, undef, undef, undef, undef, undef, undef, undef, undef, undef, undef, undef, undef, undef, undef, undef, undef, undef, undef, undef, undef, undef, undef, undef, undef, undef, undef, undef, undef, undef, undef, undef, undef, undef, undef, undef, undef, undef, undef, undef, undef, undef, undef, undef, undef, undef, undef, undef, undef, undef, undef], []⟩,
   fun x => ⟨#[undef, undef, undef, undef, undef, undef, undef, undef, undef, undef, undef, undef, undef, undef, undef, undef, undef, undef, undef, undef, undef, undef, undef, undef, undef, undef, undef, undef, undef, undef, undef, undef, undef, undef, undef, undef, undef, undef, undef, undef, undef, undef, undef, undef, undef, undef, undef, undef, undef, undef, undef, undef, undef, undef, undef, undef, undef, x 16, x 17, undef], []⟩,
   fun x => ⟨#[undef, undef, undef, undef, undef, undef, undef, undef, undef, undef, undef, undef, undef, undef, undef, undef, undef, undef, undef, undef, undef, undef, undef, undef, undef, undef, undef, undef, undef, undef, undef, undef, undef, undef, undef, undef, undef, undef, undef, undef, undef, undef, undef, undef, undef, undef, undef, undef, undef, undef, undef, undef, undef, undef, undef, undef, undef, undef, undef, x 18, undef], []⟩,
   fun x => ⟨#[undef, undef, undef, undef, undef, undef, undef, undef, undef, undef, undef, undef, undef, undef, undef, undef, undef, undef, undef, undef, undef, undef, undef, undef, undef, undef, undef, undef, undef, undef, undef, undef, undef, undef, undef, undef, undef, undef, undef, undef, undef, undef, undef, undef, undef, undef, undef, undef, undef, undef, undef, undef, undef, undef, undef, undef, undef, undef, undef, undef, x 19, undef], []⟩,
   fun x => ⟨#[undef, .slice (some ⟨b, off, none⟩) n1 c1, undef, undef, undef, undef, undef, undef, undef, undef, undef, undef, undef, undef, undef, undef, undef, undef, undef, undef, undef, undef, undef, undef, undef, undef, undef, undef, undef, undef, undef, undef, undef, undef, undef, undef, undef, undef, undef, undef, undef, undef, undef, undef, undef, undef, undef, undef, undef, undef, undef, undef, undef, undef, undef, undef, undef, undef, undef, undef, undef, undef, undef], []⟩,
   fun x => ⟨#[undef, undef, undef, undef, undef, undef, undef, .int .i64 (ii : Int), undef, undef, undef, undef, undef, undef, undef, undef, undef, undef, undef, undef, undef, undef, undef, undef, undef, undef, undef, undef, undef, undef, undef, undef, undef, undef, undef, undef, undef, undef, undef, undef, undef, undef, undef, undef, undef, undef, undef, undef, undef, undef, undef, undef, undef, undef, undef, undef, undef, undef, undef, undef, undef, undef, undef, undef], []⟩,
   fun x => ⟨#[undef, undef, undef, undef, undef, undef, undef, undef, undef, undef, undef, undef, undef, undef, undef, undef, undef, undef, undef, undef, undef, undef, undef, undef, undef, undef, undef, undef, undef, undef, undef, undef, undef, undef, undef, undef, undef, undef, undef, undef, undef, undef, undef, undef, undef, undef, undef, undef, undef, undef, undef, undef, undef, undef, undef, undef, undef, undef, undef, undef, undef, undef, x 21, x 22, undef], []⟩,
   fun x => ⟨#[undef, undef, undef, undef, undef, undef, undef, undef, undef, undef, undef, undef, undef, undef, undef, undef, undef, undef, undef, undef, undef, undef, undef, undef, undef, undef, undef, undef, undef, undef, undef, undef, undef, undef, undef, undef, undef, undef, undef, undef, undef, undef, undef, undef, undef, undef, undef, undef, undef, undef, undef, undef, undef, undef, undef, undef, undef, undef, undef, undef, undef, undef, undef, undef, x 23, undef], []⟩,
   fun x => ⟨#[undef, undef, undef, undef, undef, undef, undef, undef, undef, undef, undef, undef, undef, undef, undef, undef, undef, undef, undef, undef, undef, undef, undef, undef, undef, undef, undef, undef, undef, undef, undef, undef, undef, undef, undef, undef, undef, undef, undef, undef, undef, undef, undef, undef, undef, undef, undef, undef, undef, undef, undef, undef, undef, undef, undef, undef, undef, undef, undef, undef, undef, undef, undef, undef, undef, x 24, undef], []⟩,
   fun x => ⟨#[undef, undef, undef, undef, undef, undef, undef, undef, undef, undef, undef, undef, undef, undef, undef, undef, undef, undef, undef, undef, undef, undef, undef, undef, undef, undef, undef, undef, undef, undef, undef, undef, undef, undef, undef, undef, undef, undef, undef, undef, undef, undef, undef, undef, undef, undef, undef, undef, undef, undef, undef, x 10, undef, undef, undef, undef, x 15, undef, undef, undef, undef, x 20, undef, undef, undef, undef, x 25, undef], []⟩,
   fun x => ⟨#[undef, undef, undef, undef, undef, undef, undef, undef, undef, undef, undef, undef, undef, undef, undef, undef, undef, undef, undef, undef, undef, undef, undef, undef, undef, undef, undef, undef, undef, undef, undef, undef, undef, undef, undef, undef, undef, undef, undef, undef, undef, undef, undef, undef, undef, undef, x 5, undef, undef, undef, undef, undef, undef, undef, undef, undef, undef, undef, undef, undef, undef, undef, undef, undef, undef, undef, undef, x 26, undef], []⟩,
   fun x => ⟨#[undef, undef, undef, undef, undef, undef, undef, undef, undef, undef, undef, undef, undef, undef, undef, undef, undef, undef, undef, undef, undef, undef, undef, undef, undef, undef, undef, undef, undef, undef, undef, undef, undef, undef, undef, undef, undef, undef, undef, undef, undef, x 0, x 1, undef, undef, undef, undef, undef, undef, undef, undef, undef, undef, undef, undef, undef, undef, undef, undef, undef, undef, undef, undef, undef, undef, undef, undef, undef, x 27, undef], []⟩,
   fun x => ⟨#[undef, undef, undef, undef, undef, undef, undef, undef, undef, undef, undef, undef, undef, undef, undef, undef, undef, undef, undef, undef, undef, undef, undef, undef, undef, undef, undef, undef, undef, undef, undef, undef, undef, undef, undef, undef, undef, undef, undef, undef, undef, undef, undef, undef, undef, undef, undef, undef, undef, undef, undef, undef, undef, undef, undef, undef, undef, undef, undef, undef, undef, undef, undef, undef, undef, undef, undef, undef, undef, x 28], []⟩]
          ?hF ?mono ?h0 ?step [0, 1, 2, 3, 4, 5, 6, 7, 8, 9, 10, 11, 12, 13, 14, 15, 16, 17, 18, 19, 20, 21, 22, 23, 24, 25, 26, 28, 29] (by kernel_rfl) ?fin
        case hF =>
          exact ⟨fun x => ⟨by kernel_rfl, by kernel_rfl⟩, fun x => ⟨by kernel_rfl, by kernel_rfl⟩, fun x => ⟨by kernel_rfl, by kernel_rfl⟩, fun x => ⟨by kernel_rfl, by kernel_rfl⟩, fun x => ⟨by kernel_rfl, by kernel_rfl⟩, fun x => ⟨by kernel_rfl, by kernel_rfl⟩, fun x => ⟨by kernel_rfl, by kernel_rfl⟩, fun x => ⟨by kernel_rfl, by kernel_rfl⟩, fun x => ⟨by kernel_rfl, by kernel_rfl⟩, fun x => ⟨by kernel_rfl, by kernel_rfl⟩, fun x => ⟨by kernel_rfl, by kernel_rfl⟩, fun x => ⟨by kernel_rfl, by kernel_rfl⟩, fun x => ⟨by kernel_rfl, by kernel_rfl⟩, fun x => ⟨by kernel_rfl, by kernel_rfl⟩, fun x => ⟨by kernel_rfl, by kernel_rfl⟩, fun x => ⟨by kernel_rfl, by kernel_rfl⟩, fun x => ⟨by kernel_rfl, by kernel_rfl⟩, fun x => ⟨by kernel_rfl, by kernel_rfl⟩, fun x => ⟨by kernel_rfl, by kernel_rfl⟩, fun x => ⟨by kernel_rfl, by kernel_rfl⟩, fun x => ⟨by kernel_rfl, by kernel_rfl⟩, fun x => ⟨by kernel_rfl, by kernel_rfl⟩, fun x => ⟨by kernel_rfl, by kernel_rfl⟩, fun x => ⟨by kernel_rfl, by kernel_rfl⟩, fun x => ⟨by kernel_rfl, by kernel_rfl⟩, fun x => ⟨by kernel_rfl, by kernel_rfl⟩, fun x => ⟨by kernel_rfl, by kernel_rfl⟩, fun x => ⟨by kernel_rfl, by kernel_rfl⟩, fun x => ⟨by kernel_rfl, by kernel_rfl⟩, fun x => ⟨by kernel_rfl, by kernel_rfl⟩, trivial⟩
        case mono =>
          intro i j hi hj hne hna hnk v W W' hE hv
          rw [HV.out] at hv ⊢
          simp only [List.length_cons, List.length_nil] at hi hj
          match i, hi with
          | 0, _ | 1, _ | 2, _ | 3, _ | 4, _ | 5, _ | 6, _ | 7, _ | 8, _ | 9, _ | 10, _ | 11, _ | 12, _ | 13, _ | 14, _ | 15, _ | 16, _ | 17, _ | 18, _ | 19, _ | 20, _ | 21, _ | 22, _ | 23, _ | 24, _ | 25, _ | 26, _ | 28, _ | 29, _ => exact hv
          | 27, _ =>
            match j, hj with
            | 27, _ => exact absurd rfl hne
            | 2, _ => exact absurd (by simp) hna
            | 3, _ => exact absurd (by simp) hna
            | 4, _ => exact absurd (by simp) hna
            | 5, _ => exact absurd (by simp) hna
            | 6, _ => exact absurd (by simp) hna
            | 7, _ => exact absurd (by simp) hna
            | 8, _ => exact absurd (by simp) hna
            | 9, _ => exact absurd (by simp) hna
            | 10, _ => exact absurd (by simp) hna
            | 11, _ => exact absurd (by simp) hna
            | 12, _ => exact absurd (by simp) hna
            | 13, _ => exact absurd (by simp) hna
            | 14, _ => exact absurd (by simp) hna
            | 15, _ => exact absurd (by simp) hna
            | 16, _ => exact absurd (by simp) hna
            | 17, _ => exact absurd (by simp) hna
            | 18, _ => exact absurd (by simp) hna
            | 19, _ => exact absurd (by simp) hna
            | 20, _ => exact absurd (by simp) hna
            | 21, _ => exact absurd (by simp) hna
            | 22, _ => exact absurd (by simp) hna
            | 23, _ => exact absurd (by simp) hna
            | 24, _ => exact absurd (by simp) hna
            | 25, _ => exact absurd (by simp) hna
            | 26, _ => exact absurd (by simp) hna
            | 28, _ => exact absurd (by simp) hnk
            | 0, _ => exact (by obtain ⟨q, h1, h2⟩ := hv; exact ⟨q, h1, h2.go hE⟩)
            | 1, _ => exact (by obtain ⟨q, h1, h2⟩ := hv; exact ⟨q, h1, h2.go hE⟩)
            | 29, _ => exact (by obtain ⟨q, h1, h2⟩ := hv; exact ⟨q, h1, h2.go hE⟩)
            | m + 30, h => exact absurd h (by omega)
          | m + 30, h => exact absurd h (by omega)
        case h0 => intro x; exact toI HIp ⟨B5.out.drew, Nat.le_refl _, (fun _ => ⟨M5.out.go (Below.refl _ _).drew, (Below.refl _ _).drew⟩), (fun h => by cases h)⟩
        case step =>
          refine ⟨?_, ?_, ?_, ?_, ?_, ?_, ?_, ?_, ?_, ?_, ?_, ?_, ?_, ?_, ?_, ?_, ?_, ?_, ?_, ?_, ?_, ?_, ?_, ?_, ?_, ?_, ?_, ?_, ?_, ?_, trivial⟩
          all_goals
            intro x W L hI hL hV
            replace hI : (Below w.heap.size w W ∧ w5.heap.size ≤ W.heap.size ∧ (L 28 = false → PairM w1.heap.size w1.heap.size sx sy vx vy W ∧ Below w5.heap.size w5 W) ∧ (L 28 = true → ∃ x' y' vx' vy', Meet true ((ii : Int) + 1) x' y' ∧ PairM w1.heap.size w1.heap.size x' y' vx' vy' W)) := ofI HIp hI
            rw [HV.out] at hV
            simp only [AllV, and_true] at hV
          · clear hV
            (try dsimp only)
            have HI := Lib.hid hI
            clear hI
            go_wp2_with fail
            refine step3_done rfl ?_ ?_ ?_
            · exact (toI HIp HI.out)
            · exact (Below.refl _ _)
            · exact (toV HV rfl)
          · clear hV
            (try dsimp only)
            have HI := Lib.hid hI
            clear hI
            go_wp2_with fail
            refine step3_done rfl ?_ ?_ ?_
            · exact (toI HIp HI.out)
            · exact (Below.refl _ _)
            · exact (toV HV rfl)
          · clear hV
            (try dsimp only)
            have HI := Lib.hid hI
            clear hI
            go_wp2_with fail
            refine step3_done rfl ?_ ?_ ?_
            · exact (toI HIp HI.out)
            · exact (Below.refl _ _)
            · exact (toV HV rfl)
          · clear hV
            (try dsimp only)
            have HI := Lib.hid hI
            clear hI
            go_wp2_with fail
            refine step3_done rfl ?_ ?_ ?_
            · exact (toI HIp HI.out)
            · exact (Below.refl _ _)
            · exact (toV HV rfl)
          · obtain ⟨u2, u3⟩ := hV
            simp only [u2, u3]
            clear u2 u3
            have HI := Lib.hid hI
            clear hI
            go_wp2_with fail
            refine step3_done rfl ?_ ?_ ?_
            · exact (toI HIp HI.out)
            · exact (Below.refl _ _)
            · exact (toV HV rfl)
          · have u4 := hV
            clear hV
            simp only [u4]
            clear u4
            have f0 := (hI.1.cell (p := ⟨b, off + ii * 5, none⟩) hbz).trans Hd.out.1
            have f1 := (hI.1.cell (p := ⟨b, off + ii * 5 + 1, none⟩) hbz).trans Hd.out.2.1
            have g1 : W.cell? ⟨b, off + ii * 5 + 1, none⟩ = _ := f1
            have f2 := (hI.1.cell (p := ⟨b, off + ii * 5 + 2, none⟩) hbz).trans Hd.out.2.2.1
            have g2 : W.cell? ⟨b, off + ii * 5 + 1 + 1, none⟩ = _ := f2
            have f3 := (hI.1.cell (p := ⟨b, off + ii * 5 + 3, none⟩) hbz).trans Hd.out.2.2.2.1
            have g3 : W.cell? ⟨b, off + ii * 5 + 1 + 1 + 1, none⟩ = _ := f3
            have f4 := (hI.1.cell (p := ⟨b, off + ii * 5 + 4, none⟩) hbz).trans Hd.out.2.2.2.2
            have g4 : W.cell? ⟨b, off + ii * 5 + 1 + 1 + 1 + 1, none⟩ = _ := f4
            have HI := Lib.hid hI
            clear hI
            go_wp2_with fail
            refine step3_done rfl ?_ ?_ ?_
            · exact (toI HIp HI.out)
            · exact (Below.refl _ _)
            · exact (toV HV rfl)
          · clear hV
            (try dsimp only)
            have HI := Lib.hid hI
            clear hI
            go_wp2_with fail
            refine step3_done rfl ?_ ?_ ?_
            · exact (toI HIp HI.out)
            · exact (Below.refl _ _)
            · exact (toV HV rfl)
          · clear hV
            (try dsimp only)
            have HI := Lib.hid hI
            clear hI
            go_wp2_with fail
            refine step3_done rfl ?_ ?_ ?_
            · exact (toI HIp HI.out)
            · exact (Below.refl _ _)
            · exact (toV HV rfl)
          · obtain ⟨u6, u7⟩ := hV
            simp only [u6, u7]
            clear u6 u7
            have HI := Lib.hid hI
            clear hI
            go_wp2_with fail
            refine step3_done rfl ?_ ?_ ?_
            · exact (toI HIp HI.out)
            · exact (Below.refl _ _)
            · exact (toV HV rfl)
          · have u8 := hV
            clear hV
            simp only [u8]
            clear u8
            have HI := Lib.hid hI
            clear hI
            go_wp2_with fail
            refine step3_done rfl ?_ ?_ ?_
            · exact (toI HIp HI.out)
            · exact (Below.refl _ _)
            · exact (toV HV rfl)
          · have u9 := hV
            clear hV
            simp only [u9]
            clear u9
            have f2 := (hI.1.cell (p := ⟨b, off + ii * 5 + 2, none⟩) hbz).trans Hd.out.2.2.1
            have HI := Lib.hid hI
            clear hI
            go_wp2_with fail
            refine step3_done rfl ?_ ?_ ?_
            · exact (toI HIp HI.out)
            · exact (Below.refl _ _)
            · exact (toV HV rfl)
          · clear hV
            (try dsimp only)
            have HI := Lib.hid hI
            clear hI
            go_wp2_with fail
            refine step3_done rfl ?_ ?_ ?_
            · exact (toI HIp HI.out)
            · exact (Below.refl _ _)
            · exact (toV HV rfl)
          · clear hV
            (try dsimp only)
            have HI := Lib.hid hI
            clear hI
            go_wp2_with fail
            refine step3_done rfl ?_ ?_ ?_
            · exact (toI HIp HI.out)
            · exact (Below.refl _ _)
            · exact (toV HV rfl)
          · obtain ⟨u11, u12⟩ := hV
            simp only [u11, u12]
            clear u11 u12
            have HI := Lib.hid hI
            clear hI
            go_wp2_with fail
            refine step3_done rfl ?_ ?_ ?_
            · exact (toI HIp HI.out)
            · exact (Below.refl _ _)
            · exact (toV HV rfl)
          · have u13 := hV
            clear hV
            simp only [u13]
            clear u13
            have HI := Lib.hid hI
            clear hI
            go_wp2_with fail
            refine step3_done rfl ?_ ?_ ?_
            · exact (toI HIp HI.out)
            · exact (Below.refl _ _)
            · exact (toV HV rfl)
          · have u14 := hV
            clear hV
            simp only [u14]
            clear u14
            have f3 := (hI.1.cell (p := ⟨b, off + ii * 5 + 3, none⟩) hbz).trans Hd.out.2.2.2.1
            have HI := Lib.hid hI
            clear hI
            go_wp2_with fail
            refine step3_done rfl ?_ ?_ ?_
            · exact (toI HIp HI.out)
            · exact (Below.refl _ _)
            · exact (toV HV rfl)
          · clear hV
            (try dsimp only)
            have HI := Lib.hid hI
            clear hI
            go_wp2_with fail
            refine step3_done rfl ?_ ?_ ?_
            · exact (toI HIp HI.out)
            · exact (Below.refl _ _)
            · exact (toV HV rfl)
          · clear hV
            (try dsimp only)
            have HI := Lib.hid hI
            clear hI
            go_wp2_with fail
            refine step3_done rfl ?_ ?_ ?_
            · exact (toI HIp HI.out)
            · exact (Below.refl _ _)
            · exact (toV HV rfl)
          · obtain ⟨u16, u17⟩ := hV
            simp only [u16, u17]
            clear u16 u17
            have HI := Lib.hid hI
            clear hI
            go_wp2_with fail
            refine step3_done rfl ?_ ?_ ?_
            · exact (toI HIp HI.out)
            · exact (Below.refl _ _)
            · exact (toV HV rfl)
          · have u18 := hV
            clear hV
            simp only [u18]
            clear u18
            have HI := Lib.hid hI
            clear hI
            go_wp2_with fail
            refine step3_done rfl ?_ ?_ ?_
            · exact (toI HIp HI.out)
            · exact (Below.refl _ _)
            · exact (toV HV rfl)
          · have u19 := hV
            clear hV
            simp only [u19]
            clear u19
            have f1 := (hI.1.cell (p := ⟨b, off + ii * 5 + 1, none⟩) hbz).trans Hd.out.2.1
            have HI := Lib.hid hI
            clear hI
            go_wp2_with fail
            refine step3_done rfl ?_ ?_ ?_
            · exact (toI HIp HI.out)
            · exact (Below.refl _ _)
            · exact (toV HV rfl)
          · clear hV
            (try dsimp only)
            have HI := Lib.hid hI
            clear hI
            go_wp2_with fail
            refine step3_done rfl ?_ ?_ ?_
            · exact (toI HIp HI.out)
            · exact (Below.refl _ _)
            · exact (toV HV rfl)
          · clear hV
            (try dsimp only)
            have HI := Lib.hid hI
            clear hI
            go_wp2_with fail
            refine step3_done rfl ?_ ?_ ?_
            · exact (toI HIp HI.out)
            · exact (Below.refl _ _)
            · exact (toV HV rfl)
          · obtain ⟨u21, u22⟩ := hV
            simp only [u21, u22]
            clear u21 u22
            have HI := Lib.hid hI
            clear hI
            go_wp2_with fail
            refine step3_done rfl ?_ ?_ ?_
            · exact (toI HIp HI.out)
            · exact (Below.refl _ _)
            · exact (toV HV rfl)
          · have u23 := hV
            clear hV
            simp only [u23]
            clear u23
            have HI := Lib.hid hI
            clear hI
            go_wp2_with fail
            refine step3_done rfl ?_ ?_ ?_
            · exact (toI HIp HI.out)
            · exact (Below.refl _ _)
            · exact (toV HV rfl)
          · have u24 := hV
            clear hV
            simp only [u24]
            clear u24
            have f4 := (hI.1.cell (p := ⟨b, off + ii * 5 + 4, none⟩) hbz).trans Hd.out.2.2.2.2
            have HI := Lib.hid hI
            clear hI
            go_wp2_with fail
            refine step3_done rfl ?_ ?_ ?_
            · exact (toI HIp HI.out)
            · exact (Below.refl _ _)
            · exact (toV HV rfl)
          · obtain ⟨u10, u15, u20, u25⟩ := hV
            simp only [u10, u15, u20, u25]
            clear u10 u15 u20 u25
            have HI := Lib.hid hI
            clear hI
            go_wp2_with fail
            refine step3_done rfl ?_ ?_ ?_
            · exact (toI HIp HI.out)
            · exact (Below.refl _ _)
            · exact (toV HV rfl)
          · obtain ⟨u5, u26⟩ := hV
            simp only [u5, u26]
            clear u5 u26
            have HL := Lib.hid hL
            have HI := Lib.hid hI
            clear hI hL
            go_wp2_with fail
            have uW : ∀ o, Below W.heap.size W (W.alloc o) := fun o => (Below.refl _ _).alloc (Nat.le_refl _) o
            refine step3_done rfl ?_ ?_ ?_
            · exact (toI HIp ⟨up HI.out.1 (uW _), Nat.le_trans HI.out.2.1 (uW _).size, (fun h => ⟨(HI.out.2.2.1 h).1.go (uW _), up (HI.out.2.2.1 h).2 (uW _)⟩), (fun h => absurd ((HL.out.2 28 (by simp)).symm.trans h) (by simp))⟩)
            · exact (uW _)
            · exact (toV HV ⟨_, rfl, Blk.new _ _⟩)
          · obtain ⟨u0, u1, ⟨g27, u27, b27⟩⟩ := hV
            simp only [u0, u1, u27]
            have U27 := Lib.hid u27
            clear u0 u1 u27
            have HL := Lib.hid hL
            have HI := Lib.hid hI
            have R27 := Lib.hid (raws_two (r := r) (q := ⟨r.b, r.c, r.a, 0, r.text⟩) b27 Hok.out ⟨Hok.out.2.2.1, Hok.out.2.2.2.1, Hok.out.2.1, by unfold I64; simp, Hok.out.2.2.2.2⟩)
            have hM := Lib.hid (hI.2.2.1 (hL.2 28 (by simp)))
            clear hI hL b27
            go_wp2_with fail
            refine (HE.out _ _ _ _ _ (Hg.out.below' HI.out.1) hM.out.1 R27.out).mono ?_
            rintro e W' ⟨rfl, h8, hb⟩
            go_wp2_with fail
            have hzz := hb.size
            have hww : w.heap.size ≤ w1.heap.size := hz01
            refine step3_done rfl ?_ ?_ ?_
            · exact (toI HIp ⟨HI.out.1.trans ((Touch.of_below' hb).toBelow (by have := HI.out.1.size; omega) (fun z hz => by omega)), Nat.le_trans HI.out.2.1 hzz, (fun h => absurd h (by simp [setB])), (fun _ => h8)⟩)
            · exact hb
            · exact (toV HV rfl)
          · have u28 := hV
            clear hV
            simp only [u28]
            clear u28
            have HI := Lib.hid hI
            clear hI
            go_wp2_with fail
            refine step3_done rfl ?_ ?_ ?_
            · exact (toI HIp HI.out)
            · exact (Below.refl _ _)
            · exact (toV HV rfl)
        case fin =>
          intro x W L hL hI hV
          replace hI : (Below w.heap.size w W ∧ w5.heap.size ≤ W.heap.size ∧ (L 28 = false → PairM w1.heap.size w1.heap.size sx sy vx vy W ∧ Below w5.heap.size w5 W) ∧ (L 28 = true → ∃ x' y' vx' vy', Meet true ((ii : Int) + 1) x' y' ∧ PairM w1.heap.size w1.heap.size x' y' vx' vy' W)) := ofI HIp hI
          rw [HV.out] at hV
          simp only [AllV, and_true] at hV
          obtain ⟨u0, u1, u2, u3, u4, u5, u6, u7, u8, u9, u10, u11, u12, u13, u14, u15, u16, u17, u18, u19, u20, u21, u22, u23, u24, u25, u26, u28, u29⟩ := hV
          simp only [getsD, List.getD_cons_succ, List.getD_cons_zero, List.length_cons, List.length_nil, List.range, List.range.loop, u0, u1, u2, u3, u4, u5, u6, u7, u8, u9, u10, u11, u12, u13, u14, u15, u16, u17, u18, u19, u20, u21, u22, u23, u24, u25, u26, u28, u29, Act.put, List.setIfInBounds_toArray, List.set_cons_succ, List.set_cons_zero]
          clear u0 u1 u2 u3 u4 u5 u6 u7 u8 u9 u10 u11 u12 u13 u14 u15 u16 u17 u18 u19 u20 u21 u22 u23 u24 u25 u26 u28 u29
          obtain ⟨x', y', vx', vy', m8, p8⟩ := hI.2.2.2 (hL 28 (by simp))
          have B8 := Lib.hid hI.1
          have MM8 := Lib.hid m8
          have M8 := Lib.hid p8
          have hz8 : w2.heap.size ≤ W.heap.size := by have := hI.2.1; omega
          clear hI hL m8 p8
          go_wp2_with fail
          case roundEnd =>
            refine ⟨⟨ii + 1, x', y', vx', vy', by omega, by omega, by push_cast; rfl, B8.out, ?_⟩, ?_⟩
            · exact ⟨hz8, by push_cast; exact MM8.out, M8.out⟩
            · simp [intOf]
              omega
      · go_wp2_with fail
        refine (meet_hear0 w1.heap.size w1.heap.size (ii : Int) sx sy vx vy _ (Hg.out.below' B5.out) M5.out MM.out hi30').mono ?_
        rintro e w6 ⟨rfl, ⟨x', y', vx', vy', m8, p8, -, -⟩, hb⟩
        have B8 := Lib.hid (B5.out.trans ((Touch.of_below' hb).toBelow (B := w.heap.size) (by have := B5.out.size; omega) (fun z hz => by omega)))
        have MM8 : Hid (Meet true ((ii : Int) + 1) x' y') := m8.grow (by omega)
        have M8 := Lib.hid p8
        have hz8 : w2.heap.size ≤ w6.heap.size := by have := hb.size; omega
        clear hb m8 p8 B5 M5 MM
        go_wp2_with fail
        case roundEnd =>
          refine ⟨⟨ii + 1, x', y', vx', vy', by omega, by omega, by push_cast; rfl, B8.out, ?_⟩, ?_⟩
          · exact ⟨hz8, by push_cast; exact MM8.out, M8.out⟩
          · simp [intOf]
            omega
      · go_wp2_with fail
        refine (meet_hear1 w1.heap.size w1.heap.size (ii : Int) sx sy vx vy _ (Hg.out.below' B5.out) M5.out MM.out hi30').mono ?_
        rintro e w6 ⟨rfl, ⟨x', y', vx', vy', m8, p8, -, -⟩, hb⟩
        have B8 := Lib.hid (B5.out.trans ((Touch.of_below' hb).toBelow (B := w.heap.size) (by have := B5.out.size; omega) (fun z hz => by omega)))
        have MM8 : Hid (Meet true ((ii : Int) + 1) x' y') := m8.grow (by omega)
        have M8 := Lib.hid p8
        have hz8 : w2.heap.size ≤ w6.heap.size := by have := hb.size; omega
        clear hb m8 p8 B5 M5 MM
        go_wp2_with fail
        case roundEnd =>
          refine ⟨⟨ii + 1, x', y', vx', vy', by omega, by omega, by push_cast; rfl, B8.out, ?_⟩, ?_⟩
          · exact ⟨hz8, by push_cast; exact MM8.out, M8.out⟩
          · simp [intOf]
            omega
    · have HX : Hid (∃ E : Int, E ≤ 30 ∧ Meet true E sx sy) := ⟨(ii : Int), hi30', MM.out⟩
      clear MM
      have hz40 := B4.out.size
      go_upto_region 4 with fail
      go_cut [24] from 17 to 23 (fun s24 W => s24 = .bool false ∧ wr = W)
      case first =>
        by_cases hA : ii < n1
        · have hA' : (ii : Int) < (n1 : Int) := by omega
          have hB' : ¬ ((ii : Int) < 30) := by omega
          go_wp2_with fail
          go_meet
          case rel => exact ⟨rfl, rfl⟩
        · have hA' : ¬ ((ii : Int) < (n1 : Int)) := by omega
          go_wp2_with fail
          go_meet
          case rel => exact ⟨rfl, rfl⟩
      case rest =>
        obtain ⟨rfl, rfl⟩ := hcut
        go_wp2_with fail
        go_loopw [] (fun wr => ∃ (E : Int) (sx sy : Sd) (vx vy : Value), E ≤ 30 ∧ Below w.heap.size w wr ∧ w2.heap.size ≤ wr.heap.size ∧ Meet true E sx sy ∧ PairM w1.heap.size w1.heap.size sx sy vx vy wr) (fun W => flying w1.heap.size W)
        case atStart =>
          obtain ⟨E, hE, hm⟩ := HX.out
          exact ⟨E, sx, sy, vx, vy, hE, B4.out, hz4, hm, M4.out⟩
        case round =>
          clear HX B4 M4
          obtain ⟨E, tx, ty, ux, uy, hE, b5, hz5, mm, m5⟩ := hrel
          have B5 := Lib.hid b5
          have MM := Lib.hid mm
          have hfly := Lib.hid (flying_pair m5)
          obtain ⟨fa, fc, hux, -⟩ := m5.fx.form
          obtain ⟨ga, gc, huy, -⟩ := m5.fy.form
          subst hux huy
          have M5 := Lib.hid m5
          obtain ⟨qa, qc, ra, rc', bx, rx, ry⟩ := m5.box
          have hgw := bx.lt
          have hln : tx.f.length ≤ 30 ∧ ty.f.length ≤ 30 := by
            obtain ⟨-, -, -, -, -, -, -, -, -, -, h1, h2⟩ := mm.small hE
            omega
          obtain ⟨k0, k1, k2, k3, k4, k5, k6, k7, k8, k9⟩ := blk10_cells bx
          have BX := Lib.hid bx
          have RX := Lib.hid rx
          clear b5 mm m5 bx rx ry
          generalize hnx : tx.f.length = nx at *
          generalize hny : ty.f.length = ny at *
          by_cases hp : 0 < nx + ny
          · have hp' : (0 : Int) < (nx : Int) + (ny : Int) := by omega
            have HHs := Lib.hid (fun vx vy W hg h => meet_hear0 w1.heap.size w1.heap.size E tx ty vx vy W hg h MM.out hE)
            have HHt := Lib.hid (fun x y vx vy W hg h hm => meet_hear1 w1.heap.size w1.heap.size E x y vx vy W hg h hm hE)
            have Hn := Lib.hid (And.intro hnx hny)
            clear hnx hny MM
            go_wp2_with fail
            go_quiet (fail)
            go_wp2_with fail
            refine abs_run (fun W => Below wr.heap.size wr W) (below_drewE _ _) ?_
            intro w5 b55
            have hz55 := b55.size
            have M55 := Lib.hid (M5.out.go b55)
            have B55 := Lib.hid (up B5.out b55)
            clear b55 B5 M5
            refine (HHs.out _ _ _ (Hg.out.below' B55.out) M55.out).mono ?_
            rintro e w6 ⟨rfl, ⟨x', y', vx', vy', m6, p6, f6, f7⟩, hb⟩
            have B6 := Lib.hid (B55.out.trans ((Touch.of_below' hb).toBelow (B := w.heap.size) (by have := B55.out.size; omega) (fun z hz => by omega)))
            have hz6 := hb.size
            have M6 := Lib.hid p6
            have MM6 := Lib.hid m6
            have F6 := Lib.hid (And.intro f6 f7)
            clear hb m6 p6 f6 f7 B55 M55 HHs k0 k1 k2 k3 k4 k5 k6 k7 k8 k9 BX RX
            go_wp2_with fail
            refine (HHt.out _ _ _ _ _ (Hg.out.below' B6.out) M6.out MM6.out).mono ?_
            rintro e w7 ⟨rfl, ⟨x2, y2, vx2, vy2, m7, p7, f8, f9⟩, hb⟩
            have B7 := Lib.hid (B6.out.trans ((Touch.of_below' hb).toBelow (B := w.heap.size) (by have := B6.out.size; omega) (fun z hz => by omega)))
            have hz7 := hb.size
            have M7 := Lib.hid p7
            have MM7 := Lib.hid m7
            have F7 := Lib.hid (And.intro f8 f9)
            clear hb m7 p7 f8 f9 B6 M6 MM6 HHt
            go_wp2_with fail
            case roundEnd =>
              refine ⟨⟨E, x2, y2, vx2, vy2, hE, B7.out, by omega, MM7.out, M7.out⟩, ?_⟩
              have e1 := flying_pair M7.out
              have e2 := hfly.out
              have e3 := F7.out
              have e4 := F6.out
              have e5 := Hn.out
              omega
          · have hx0 : nx = 0 := by omega
            have hy0 : ny = 0 := by omega
            subst hx0 hy0
            obtain ⟨d1, d2, d3⟩ := MM.out.done (List.eq_nil_of_length_eq_zero hnx) (List.eq_nil_of_length_eq_zero hny)
            obtain ⟨-, -, -, -, -, -, -, -, he0, -⟩ := MM.out.small hE
            obtain ⟨s0, s1, h0, h1, -, -⟩ := edgeCheck_all he0
            obtain ⟨xt, xs, xh, xl, xf⟩ := tx
            obtain ⟨yt, ys, yh, yl, yf⟩ := ty
            simp only at *
            subst d1 d2 d3
            have HC1 := Lib.hid (fun W hg hr => edge_any xs ys xl qa xl.length qc W hg hr (by unfold I64; omega) (by unfold I64; omega))
            rw [he0] at HC1
            have HC2 := Lib.hid (fun W hg => edge_any (-1) 0 [] none 0 0 W hg (RdS.none' W) (by unfold I64; omega) (by unfold I64; omega))
            rw [show edgeCheck (-1) 0 [] = 9 by decide] at HC2
            have RXw : Hid (RdS (· < wr.heap.size) wr xl qa xl.length qc) := RX.out.mono fun z hz => ⟨hz.2.1, rfl⟩
            clear hnx hny he0 MM RX hp M5 hfly
            go_wp2_with fail
            go_quiet (fail)
            go_wp2_with fail
            refine abs_w (fun W => Below wr.heap.size wr W) (below_drewE _ _) ?_
            intro w5 b55
            have BX' := Lib.hid (BX.out.go b55)
            have RX' := Lib.hid (RXw.out.go b55)
            have B5' := Lib.hid (up B5.out b55)
            clear b55 BX RXw B5
            obtain ⟨Vp, HV⟩ : ∃ Vp : Nat → Value → World → Prop, Hid (Vp = fun i v W => match i with
                | 0 => v = .pointer (some ⟨w1.heap.size, 0, none⟩)
                | 1 => v = .pointer (some ⟨w1.heap.size, 0, none⟩)
                | 2 => v = .pointer (some ⟨w1.heap.size, 0, none⟩)
                | 3 => v = .pointer (some ⟨w1.heap.size, 0, none⟩)
                | 4 => v = .string xt
                | 5 => v = .pointer (some ⟨w1.heap.size, 0, none⟩)
                | 6 => v = .pointer (some ⟨w1.heap.size, 0, none⟩)
                | 7 => v = .pointer (some ⟨w1.heap.size, 0, none⟩)
                | 8 => v = .pointer (some ⟨w1.heap.size, 1, none⟩)
                | 9 => v = .string xt
                | 10 => v = .bool true
                | 11 => v = .bool true
                | 12 => v = .pointer (some ⟨w1.heap.size, 0, none⟩)
                | 13 => v = .pointer (some ⟨w1.heap.size, 0, none⟩)
                | 14 => v = .pointer (some ⟨w1.heap.size, 2, none⟩)
                | 15 => v = .pointer (some ⟨w1.heap.size, 2, none⟩)
                | 16 => v = .pointer (some ⟨w1.heap.size, 2, none⟩)
                | 17 => v = .int .i64 xs
                | 18 => v = .pointer (some ⟨w1.heap.size, 0, none⟩)
                | 19 => v = .pointer (some ⟨w1.heap.size, 0, none⟩)
                | 20 => v = .pointer (some ⟨w1.heap.size, 2, none⟩)
                | 21 => v = .pointer (some ⟨w1.heap.size, 5, none⟩)
                | 22 => v = .pointer (some ⟨w1.heap.size, 6, none⟩)
                | 23 => v = .int .i64 xs
                | 24 => v = .bool true
                | 25 => v = .bool true
                | 26 => v = .bool true
                | 27 => v = .pointer (some ⟨w1.heap.size, 0, none⟩)
                | 28 => v = .pointer (some ⟨w1.heap.size, 0, none⟩)
                | 29 => v = .pointer (some ⟨w1.heap.size, 2, none⟩)
                | 30 => v = .pointer (some ⟨w1.heap.size, 5, none⟩)
                | 31 => v = .pointer (some ⟨w1.heap.size, 5, none⟩)
                | 32 => v = .int .i64 ys
                | 33 => v = .pointer (some ⟨w1.heap.size, 0, none⟩)
                | 34 => v = .pointer (some ⟨w1.heap.size, 0, none⟩)
                | 35 => v = .pointer (some ⟨w1.heap.size, 2, none⟩)
                | 36 => v = .pointer (some ⟨w1.heap.size, 2, none⟩)
                | 37 => v = .pointer (some ⟨w1.heap.size, 3, none⟩)
                | 38 => v = .int .i64 ys
                | 39 => v = .bool true
                | 40 => v = .bool true
                | 41 => v = .bool true
                | 42 => v = .pointer (some ⟨w1.heap.size, 0, none⟩)
                | 43 => v = .pointer (some ⟨w1.heap.size, 0, none⟩)
                | 44 => v = .pointer (some ⟨w1.heap.size, 2, none⟩)
                | 45 => v = .pointer (some ⟨w1.heap.size, 2, none⟩)
                | 46 => v = .agg #[.int .i64 xs, .int .i64 ys, .slice qa xl.length qc]
                | 47 => v = .int .i64 0
                | 48 => v = .bool true
                | 49 => v = .bool true
                | 50 => v = .bool true
                | 51 => v = .agg #[.int .i64 (-1), .int .i64 0, .slice none 0 0]
                | 52 => v = .int .i64 9
                | 53 => v = .bool true
                | 54 => v = .bool true
                | _ => v = .bool true) := ⟨_, rfl⟩
            obtain ⟨Ip, HIp⟩ : ∃ Ip : (Nat → Bool) → (Nat → Value) → World → Prop, Hid (Ip = fun L x W => (Below w5.heap.size w5 W)) := ⟨_, rfl⟩
            refine region_lit3 (by kernel_rfl) (by kernel_rfl) (by kernel_rfl) [[], [0], [0, 1], [0, 1, 2], [0, 1, 2, 3], [], [5], [5, 6], [5, 6, 7], [5, 6, 7, 8], [0, 1, 2, 3, 4, 5, 6, 7, 8, 9], [0, 1, 2, 3, 4, 5, 6, 7, 8, 9, 10], [0, 1, 2, 3, 4, 5, 6, 7, 8, 9, 10, 11], [0, 1, 2, 3, 4, 5, 6, 7, 8, 9, 10, 11, 12], [0, 1, 2, 3, 4, 5, 6, 7, 8, 9, 10, 11, 12, 13], [0, 1, 2, 3, 4, 5, 6, 7, 8, 9, 10, 11, 12, 13, 14], [0, 1, 2, 3, 4, 5, 6, 7, 8, 9, 10, 11, 12, 13, 14, 15], [0, 1, 2, 3, 4, 5, 6, 7, 8, 9, 10, 11, 12, 13, 14, 15, 16], [0, 1, 2, 3, 4, 5, 6, 7, 8, 9, 10, 11], [0, 1, 2, 3, 4, 5, 6, 7, 8, 9, 10, 11, 18], [0, 1, 2, 3, 4, 5, 6, 7, 8, 9, 10, 11, 18, 19], [0, 1, 2, 3, 4, 5, 6, 7, 8, 9, 10, 11, 18, 19, 20], [0, 1, 2, 3, 4, 5, 6, 7, 8, 9, 10, 11, 18, 19, 20, 21], [0, 1, 2, 3, 4, 5, 6, 7, 8, 9, 10, 11, 18, 19, 20, 21, 22], [0, 1, 2, 3, 4, 5, 6, 7, 8, 9, 10, 11, 12, 13, 14, 15, 16, 17, 18, 19, 20, 21, 22, 23], [0, 1, 2, 3, 4, 5, 6, 7, 8, 9, 10, 11, 12, 13, 14, 15, 16, 17, 18, 19, 20, 21, 22, 23, 24], [0, 1, 2, 3, 4, 5, 6, 7, 8, 9, 10, 11, 12, 13, 14, 15, 16, 17, 18, 19, 20, 21, 22, 23, 24, 25], [0, 1, 2, 3, 4, 5, 6, 7, 8, 9, 10, 11, 12, 13, 14, 15, 16, 17, 18, 19, 20, 21, 22, 23, 24, 25, 26], [0, 1, 2, 3, 4, 5, 6, 7, 8, 9, 10, 11, 12, 13, 14, 15, 16, 17, 18, 19, 20, 21, 22, 23, 24, 25, 26, 27], [0, 1, 2, 3, 4, 5, 6, 7, 8, 9, 10, 11, 12, 13, 14, 15, 16, 17, 18, 19, 20, 21, 22, 23, 24, 25, 26, 27, 28], [0, 1, 2, 3, 4, 5, 6, 7, 8, 9, 10, 11, 12, 13, 14, 15, 16, 17, 18, 19, 20, 21, 22, 23, 24, 25, 26, 27, 28, 29], [0, 1, 2, 3, 4, 5, 6, 7, 8, 9, 10, 11, 12, 13, 14, 15, 16, 17, 18, 19, 20, 21, 22, 23, 24, 25, 26, 27, 28, 29, 30], [0, 1, 2, 3, 4, 5, 6, 7, 8, 9, 10, 11, 12, 13, 14, 15, 16, 17, 18, 19, 20, 21, 22, 23, 24, 25, 26, 27, 28, 29, 30, 31], [0, 1, 2, 3, 4, 5, 6, 7, 8, 9, 10, 11, 12, 13, 14, 15, 16, 17, 18, 19, 20, 21, 22, 23, 24, 25, 26], [0, 1, 2, 3, 4, 5, 6, 7, 8, 9, 10, 11, 12, 13, 14, 15, 16, 17, 18, 19, 20, 21, 22, 23, 24, 25, 26, 33], [0, 1, 2, 3, 4, 5, 6, 7, 8, 9, 10, 11, 12, 13, 14, 15, 16, 17, 18, 19, 20, 21, 22, 23, 24, 25, 26, 33, 34], [0, 1, 2, 3, 4, 5, 6, 7, 8, 9, 10, 11, 12, 13, 14, 15, 16, 17, 18, 19, 20, 21, 22, 23, 24, 25, 26, 33, 34, 35], [0, 1, 2, 3, 4, 5, 6, 7, 8, 9, 10, 11, 12, 13, 14, 15, 16, 17, 18, 19, 20, 21, 22, 23, 24, 25, 26, 33, 34, 35, 36], [0, 1, 2, 3, 4, 5, 6, 7, 8, 9, 10, 11, 12, 13, 14, 15, 16, 17, 18, 19, 20, 21, 22, 23, 24, 25, 26, 33, 34, 35, 36, 37], [0, 1, 2, 3, 4, 5, 6, 7, 8, 9, 10, 11, 12, 13, 14, 15, 16, 17, 18, 19, 20, 21, 22, 23, 24, 25, 26, 27, 28, 29, 30, 31, 32, 33, 34, 35, 36, 37, 38], [0, 1, 2, 3, 4, 5, 6, 7, 8, 9, 10, 11, 12, 13, 14, 15, 16, 17, 18, 19, 20, 21, 22, 23, 24, 25, 26, 27, 28, 29, 30, 31, 32, 33, 34, 35, 36, 37, 38, 39], [0, 1, 2, 3, 4, 5, 6, 7, 8, 9, 10, 11, 12, 13, 14, 15, 16, 17, 18, 19, 20, 21, 22, 23, 24, 25, 26, 27, 28, 29, 30, 31, 32, 33, 34, 35, 36, 37, 38, 39, 40], [0, 1, 2, 3, 4, 5, 6, 7, 8, 9, 10, 11, 12, 13, 14, 15, 16, 17, 18, 19, 20, 21, 22, 23, 24, 25, 26, 27, 28, 29, 30, 31, 32, 33, 34, 35, 36, 37, 38, 39, 40, 41], [0, 1, 2, 3, 4, 5, 6, 7, 8, 9, 10, 11, 12, 13, 14, 15, 16, 17, 18, 19, 20, 21, 22, 23, 24, 25, 26, 27, 28, 29, 30, 31, 32, 33, 34, 35, 36, 37, 38, 39, 40, 41, 42], [0, 1, 2, 3, 4, 5, 6, 7, 8, 9, 10, 11, 12, 13, 14, 15, 16, 17, 18, 19, 20, 21, 22, 23, 24, 25, 26, 27, 28, 29, 30, 31, 32, 33, 34, 35, 36, 37, 38, 39, 40, 41, 42, 43], [0, 1, 2, 3, 4, 5, 6, 7, 8, 9, 10, 11, 12, 13, 14, 15, 16, 17, 18, 19, 20, 21, 22, 23, 24, 25, 26, 27, 28, 29, 30, 31, 32, 33, 34, 35, 36, 37, 38, 39, 40, 41, 42, 43, 44], [0, 1, 2, 3, 4, 5, 6, 7, 8, 9, 10, 11, 12, 13, 14, 15, 16, 17, 18, 19, 20, 21, 22, 23, 24, 25, 26, 27, 28, 29, 30, 31, 32, 33, 34, 35, 36, 37, 38, 39, 40, 41, 42, 43, 44, 45], [0, 1, 2, 3, 4, 5, 6, 7, 8, 9, 10, 11, 12, 13, 14, 15, 16, 17, 18, 19, 20, 21, 22, 23, 24, 25, 26, 27, 28, 29, 30, 31, 32, 33, 34, 35, 36, 37, 38, 39, 40, 41, 42, 43, 44, 45, 46], [0, 1, 2, 3, 4, 5, 6, 7, 8, 9, 10, 11, 12, 13, 14, 15, 16, 17, 18, 19, 20, 21, 22, 23, 24, 25, 26, 27, 28, 29, 30, 31, 32, 33, 34, 35, 36, 37, 38, 39, 40, 41, 42, 43, 44, 45, 46, 47], [0, 1, 2, 3, 4, 5, 6, 7, 8, 9, 10, 11, 12, 13, 14, 15, 16, 17, 18, 19, 20, 21, 22, 23, 24, 25, 26, 27, 28, 29, 30, 31, 32, 33, 34, 35, 36, 37, 38, 39, 40, 41, 42, 43, 44, 45, 46, 47, 48], [0, 1, 2, 3, 4, 5, 6, 7, 8, 9, 10, 11, 12, 13, 14, 15, 16, 17, 18, 19, 20, 21, 22, 23, 24, 25, 26, 27, 28, 29, 30, 31, 32, 33, 34, 35, 36, 37, 38, 39, 40, 41, 42, 43, 44, 45, 46, 47, 48, 49], [0, 1, 2, 3, 4, 5, 6, 7, 8, 9, 10, 11, 12, 13, 14, 15, 16, 17, 18, 19, 20, 21, 22, 23, 24, 25, 26, 27, 28, 29, 30, 31, 32, 33, 34, 35, 36, 37, 38, 39, 40, 41, 42, 43, 44, 45, 46, 47, 48, 49, 50], [0, 1, 2, 3, 4, 5, 6, 7, 8, 9, 10, 11, 12, 13, 14, 15, 16, 17, 18, 19, 20, 21, 22, 23, 24, 25, 26, 27, 28, 29, 30, 31, 32, 33, 34, 35, 36, 37, 38, 39, 40, 41, 42, 43, 44, 45, 46, 47, 48, 49, 50, 51], [0, 1, 2, 3, 4, 5, 6, 7, 8, 9, 10, 11, 12, 13, 14, 15, 16, 17, 18, 19, 20, 21, 22, 23, 24, 25, 26, 27, 28, 29, 30, 31, 32, 33, 34, 35, 36, 37, 38, 39, 40, 41, 42, 43, 44, 45, 46, 47, 48, 49, 50, 51, 52], [0, 1, 2, 3, 4, 5, 6, 7, 8, 9, 10, 11, 12, 13, 14, 15, 16, 17, 18, 19, 20, 21, 22, 23, 24, 25, 26, 27, 28, 29, 30, 31, 32, 33, 34, 35, 36, 37, 38, 39, 40, 41, 42, 43, 44, 45, 46, 47, 48, 49, 50, 51, 52, 53], [0, 1, 2, 3, 4, 5, 6, 7, 8, 9, 10, 11, 12, 13, 14, 15, 16, 17, 18, 19, 20, 21, 22, 23, 24, 25, 26, 27, 28, 29, 30, 31, 32, 33, 34, 35, 36, 37, 38, 39, 40, 41, 42, 43, 44, 45, 46, 47, 48, 49, 50, 51, 52, 53, 54]] (by kernel_rfl) [some 94, some 95, some 96, some 97, some 98, some 99, some 100, some 101, some 102, some 103, some 104, some 105, some 106, some 107, some 108, some 109, some 110, some 111, some 112, some 113, some 114, some 115, some 116, some 117, some 118, some 119, some 120, some 121, some 122, some 123, some 124, some 125, some 126, some 127, some 128, some 129, some 130, some 131, some 132, some 133, some 134, some 135, some 136, some 137, some 138, some 139, some 140, some 141, some 142, some 143, some 144, some 145, some 146, some 147, some 148, some 4] (by kernel_rfl) [[0, 1, 2, 3, 4, 10, 11, 12, 13, 14, 15, 16, 17, 18, 19, 20, 21, 22, 23, 24, 25, 26, 27, 28, 29, 30, 31, 32, 33, 34, 35, 36, 37, 38, 39, 40, 41, 42, 43, 44, 45, 46, 47, 48, 49, 50, 51, 52, 53, 54, 55], [1, 2, 3, 4, 10, 11, 12, 13, 14, 15, 16, 17, 18, 19, 20, 21, 22, 23, 24, 25, 26, 27, 28, 29, 30, 31, 32, 33, 34, 35, 36, 37, 38, 39, 40, 41, 42, 43, 44, 45, 46, 47, 48, 49, 50, 51, 52, 53, 54, 55], [2, 3, 4, 10, 11, 12, 13, 14, 15, 16, 17, 18, 19, 20, 21, 22, 23, 24, 25, 26, 27, 28, 29, 30, 31, 32, 33, 34, 35, 36, 37, 38, 39, 40, 41, 42, 43, 44, 45, 46, 47, 48, 49, 50, 51, 52, 53, 54, 55], [3, 4, 10, 11, 12, 13, 14, 15, 16, 17, 18, 19, 20, 21, 22, 23, 24, 25, 26, 27, 28, 29, 30, 31, 32, 33, 34, 35, 36, 37, 38, 39, 40, 41, 42, 43, 44, 45, 46, 47, 48, 49, 50, 51, 52, 53, 54, 55], [4, 10, 11, 12, 13, 14, 15, 16, 17, 18, 19, 20, 21, 22, 23, 24, 25, 26, 27, 28, 29, 30, 31, 32, 33, 34, 35, 36, 37, 38, 39, 40, 41, 42, 43, 44, 45, 46, 47, 48, 49, 50, 51, 52, 53, 54, 55], [5, 6, 7, 8, 9, 10, 11, 12, 13, 14, 15, 16, 17, 18, 19, 20, 21, 22, 23, 24, 25, 26, 27, 28, 29, 30, 31, 32, 33, 34, 35, 36, 37, 38, 39, 40, 41, 42, 43, 44, 45, 46, 47, 48, 49, 50, 51, 52, 53, 54, 55], [6, 7, 8, 9, 10, 11, 12, 13, 14, 15, 16, 17, 18, 19, 20, 21, 22, 23, 24, 25, 26, 27, 28, 29, 30, 31, 32, 33, 34, 35, 36, 37, 38, 39, 40, 41, 42, 43, 44, 45, 46, 47, 48, 49, 50, 51, 52, 53, 54, 55], [7, 8, 9, 10, 11, 12, 13, 14, 15, 16, 17, 18, 19, 20, 21, 22, 23, 24, 25, 26, 27, 28, 29, 30, 31, 32, 33, 34, 35, 36, 37, 38, 39, 40, 41, 42, 43, 44, 45, 46, 47, 48, 49, 50, 51, 52, 53, 54, 55], [8, 9, 10, 11, 12, 13, 14, 15, 16, 17, 18, 19, 20, 21, 22, 23, 24, 25, 26, 27, 28, 29, 30, 31, 32, 33, 34, 35, 36, 37, 38, 39, 40, 41, 42, 43, 44, 45, 46, 47, 48, 49, 50, 51, 52, 53, 54, 55], [9, 10, 11, 12, 13, 14, 15, 16, 17, 18, 19, 20, 21, 22, 23, 24, 25, 26, 27, 28, 29, 30, 31, 32, 33, 34, 35, 36, 37, 38, 39, 40, 41, 42, 43, 44, 45, 46, 47, 48, 49, 50, 51, 52, 53, 54, 55], [10, 11, 12, 13, 14, 15, 16, 17, 18, 19, 20, 21, 22, 23, 24, 25, 26, 27, 28, 29, 30, 31, 32, 33, 34, 35, 36, 37, 38, 39, 40, 41, 42, 43, 44, 45, 46, 47, 48, 49, 50, 51, 52, 53, 54, 55], [11, 12, 13, 14, 15, 16, 17, 18, 19, 20, 21, 22, 23, 24, 25, 26, 27, 28, 29, 30, 31, 32, 33, 34, 35, 36, 37, 38, 39, 40, 41, 42, 43, 44, 45, 46, 47, 48, 49, 50, 51, 52, 53, 54, 55], [12, 13, 14, 15, 16, 17, 24, 25, 26, 27, 28, 29, 30, 31, 32, 33, 34, 35, 36, 37, 38, 39, 40, 41, 42, 43, 44, 45, 46, 47, 48, 49, 50, 51, 52, 53, 54, 55], [13, 14, 15, 16, 17, 24, 25, 26, 27, 28, 29, 30, 31, 32, 33, 34, 35, 36, 37, 38, 39, 40, 41, 42, 43, 44, 45, 46, 47, 48, 49, 50, 51, 52, 53, 54, 55], [14, 15, 16, 17, 24, 25, 26, 27, 28, 29, 30, 31, 32, 33, 34, 35, 36, 37, 38, 39, 40, 41, 42, 43, 44, 45, 46, 47, 48, 49, 50, 51, 52, 53, 54, 55], [15, 16, 17, 24, 25, 26, 27, 28, 29, 30, 31, 32, 33, 34, 35, 36, 37, 38, 39, 40, 41, 42, 43, 44, 45, 46, 47, 48, 49, 50, 51, 52, 53, 54, 55], [16, 17, 24, 25, 26, 27, 28, 29, 30, 31, 32, 33, 34, 35, 36, 37, 38, 39, 40, 41, 42, 43, 44, 45, 46, 47, 48, 49, 50, 51, 52, 53, 54, 55], [17, 24, 25, 26, 27, 28, 29, 30, 31, 32, 33, 34, 35, 36, 37, 38, 39, 40, 41, 42, 43, 44, 45, 46, 47, 48, 49, 50, 51, 52, 53, 54, 55], [18, 19, 20, 21, 22, 23, 24, 25, 26, 27, 28, 29, 30, 31, 32, 33, 34, 35, 36, 37, 38, 39, 40, 41, 42, 43, 44, 45, 46, 47, 48, 49, 50, 51, 52, 53, 54, 55], [19, 20, 21, 22, 23, 24, 25, 26, 27, 28, 29, 30, 31, 32, 33, 34, 35, 36, 37, 38, 39, 40, 41, 42, 43, 44, 45, 46, 47, 48, 49, 50, 51, 52, 53, 54, 55], [20, 21, 22, 23, 24, 25, 26, 27, 28, 29, 30, 31, 32, 33, 34, 35, 36, 37, 38, 39, 40, 41, 42, 43, 44, 45, 46, 47, 48, 49, 50, 51, 52, 53, 54, 55], [21, 22, 23, 24, 25, 26, 27, 28, 29, 30, 31, 32, 33, 34, 35, 36, 37, 38, 39, 40, 41, 42, 43, 44, 45, 46, 47, 48, 49, 50, 51, 52, 53, 54, 55], [22, 23, 24, 25, 26, 27, 28, 29, 30, 31, 32, 33, 34, 35, 36, 37, 38, 39, 40, 41, 42, 43, 44, 45, 46, 47, 48, 49, 50, 51, 52, 53, 54, 55], [23, 24, 25, 26, 27, 28, 29, 30, 31, 32, 33, 34, 35, 36, 37, 38, 39, 40, 41, 42, 43, 44, 45, 46, 47, 48, 49, 50, 51, 52, 53, 54, 55], [24, 25, 26, 27, 28, 29, 30, 31, 32, 33, 34, 35, 36, 37, 38, 39, 40, 41, 42, 43, 44, 45, 46, 47, 48, 49, 50, 51, 52, 53, 54, 55], [25, 26, 27, 28, 29, 30, 31, 32, 33, 34, 35, 36, 37, 38, 39, 40, 41, 42, 43, 44, 45, 46, 47, 48, 49, 50, 51, 52, 53, 54, 55], [26, 27, 28, 29, 30, 31, 32, 33, 34, 35, 36, 37, 38, 39, 40, 41, 42, 43, 44, 45, 46, 47, 48, 49, 50, 51, 52, 53, 54, 55], [27, 28, 29, 30, 31, 32, 39, 40, 41, 42, 43, 44, 45, 46, 47, 48, 49, 50, 51, 52, 53, 54, 55], [28, 29, 30, 31, 32, 39, 40, 41, 42, 43, 44, 45, 46, 47, 48, 49, 50, 51, 52, 53, 54, 55], [29, 30, 31, 32, 39, 40, 41, 42, 43, 44, 45, 46, 47, 48, 49, 50, 51, 52, 53, 54, 55], [30, 31, 32, 39, 40, 41, 42, 43, 44, 45, 46, 47, 48, 49, 50, 51, 52, 53, 54, 55], [31, 32, 39, 40, 41, 42, 43, 44, 45, 46, 47, 48, 49, 50, 51, 52, 53, 54, 55], [32, 39, 40, 41, 42, 43, 44, 45, 46, 47, 48, 49, 50, 51, 52, 53, 54, 55], [33, 34, 35, 36, 37, 38, 39, 40, 41, 42, 43, 44, 45, 46, 47, 48, 49, 50, 51, 52, 53, 54, 55], [34, 35, 36, 37, 38, 39, 40, 41, 42, 43, 44, 45, 46, 47, 48, 49, 50, 51, 52, 53, 54, 55], [35, 36, 37, 38, 39, 40, 41, 42, 43, 44, 45, 46, 47, 48, 49, 50, 51, 52, 53, 54, 55], [36, 37, 38, 39, 40, 41, 42, 43, 44, 45, 46, 47, 48, 49, 50, 51, 52, 53, 54, 55], [37, 38, 39, 40, 41, 42, 43, 44, 45, 46, 47, 48, 49, 50, 51, 52, 53, 54, 55], [38, 39, 40, 41, 42, 43, 44, 45, 46, 47, 48, 49, 50, 51, 52, 53, 54, 55], [39, 40, 41, 42, 43, 44, 45, 46, 47, 48, 49, 50, 51, 52, 53, 54, 55], [40, 41, 42, 43, 44, 45, 46, 47, 48, 49, 50, 51, 52, 53, 54, 55], [41, 42, 43, 44, 45, 46, 47, 48, 49, 50, 51, 52, 53, 54, 55], [42, 43, 44, 45, 46, 47, 48, 49, 50, 51, 52, 53, 54, 55], [43, 44, 45, 46, 47, 48, 49, 50, 51, 52, 53, 54, 55], [44, 45, 46, 47, 48, 49, 50, 51, 52, 53, 54, 55], [45, 46, 47, 48, 49, 50, 51, 52, 53, 54, 55], [46, 47, 48, 49, 50, 51, 52, 53, 54, 55], [47, 48, 49, 50, 51, 52, 53, 54, 55], [48, 49, 50, 51, 52, 53, 54, 55], [49, 50, 51, 52, 53, 54, 55], [50, 51, 52, 53, 54, 55], [51, 52, 53, 54, 55], [52, 53, 54, 55], [53, 54, 55], [54, 55], [55]] (by kernel_rfl) [[], [], [], [], [], [], [], [], [], [], [], [], [], [], [], [], [], [], [], [], [], [], [], [], [], [], [], [], [], [], [], [], [], [], [], [], [], [], [], [], [], [], [], [], [], [], [], [], [], [], [], [], [], [], [], []] [[], [0], [1], [2], [3], [], [5], [6], [7], [8], [4, 9], [10], [11], [11, 12], [11, 13], [11, 14], [11, 15], [11, 16], [11], [11, 18], [11, 19], [11, 20], [11, 21], [11, 22], [11, 17, 23], [11, 24], [25], [26], [26, 27], [26, 28], [26, 29], [26, 30], [26, 31], [26], [26, 33], [26, 34], [26, 35], [26, 36], [26, 37], [26, 32, 38], [26, 39], [40], [41], [41, 42], [41, 43], [41, 44], [41, 45], [41, 46], [41, 47], [41, 48], [49], [50], [50, 51], [50, 52], [50, 53], [54]] (by kernel_rfl)
              Ip
              Vp
              (fun j W W' => match j with
                | 0 => Below W.heap.size W W'
                | _ => Below W.heap.size W W')
              [fun x => ⟨#[undef, undef, undef, undef, undef, undef, .pointer (some ⟨w1.heap.size, 0, none⟩), undef, undef, undef, undef, undef, undef, undef, undef, undef, undef, undef, undef, undef, undef, undef, undef, undef, undef, undef, undef, undef, undef, undef, undef, undef, undef, undef, undef, undef, undef, undef, undef, undef, undef, undef, undef, undef, undef, undef, undef, undef, undef, undef, undef, undef, undef, undef, undef, undef, undef, undef, undef, undef, undef, undef, undef, undef, undef, undef, undef, undef, undef, undef, undef, undef, undef, undef, undef, undef, undef, undef, undef, undef, undef, undef, undef, undef, undef, undef, undef, undef, undef, undef, undef, undef, undef, undef, undef], []⟩,
   fun x => ⟨#[undef, undef, undef, undef, undef, undef, undef, undef, undef, undef, undef, undef, undef, undef, undef, undef, undef, undef, undef, undef, undef, undef, undef, undef, undef, undef, undef, undef, undef, undef, undef, undef, undef, undef, undef, undef, undef, undef, undef, undef, undef, undef, undef, undef, undef, undef, undef, undef, undef, undef, undef, undef, undef, undef, undef, undef, undef, undef, undef, undef, undef, undef, undef, undef, undef, undef, undef, undef, undef, undef, undef, undef, undef, undef, undef, undef, undef, undef, undef, undef, undef, undef, undef, undef, undef, undef, undef, undef, undef, undef, undef, undef, undef, undef, x 0, undef], []⟩,
   fun x => ⟨#[undef, undef, undef, undef, undef, undef, undef, undef, undef, undef, undef, undef, undef, undef, undef, undef, undef, undef, undef, undef, undef, undef, undef, undef, undef, undef, undef, undef, undef, undef, undef, undef, undef, undef, undef, undef, undef, undef, undef, undef, undef, undef, undef, undef, undef, undef, undef, undef, undef, undef, undef, undef, undef, undef, undef, undef, undef, undef, undef, undef, undef, undef, undef, undef, undef, undef, undef, undef, undef, undef, undef, undef, undef, undef, undef, undef, undef, undef, undef, undef, undef, undef, undef, undef, undef, undef, undef, undef, undef, undef, undef, undef, undef, undef, undef, x 1, undef], []⟩,
   fun x => ⟨#[undef, undef, undef, undef, undef, undef, undef, undef, undef, undef, undef, undef, undef, undef, undef, undef, undef, undef, undef, undef, undef, undef, undef, undef, undef, undef, undef, undef, undef, undef, undef, undef, undef, undef, undef, undef, undef, undef, undef, undef, undef, undef, undef, undef, undef, undef, undef, undef, undef, undef, undef, undef, undef, undef, undef, undef, undef, undef, undef, undef, undef, undef, undef, undef, undef, undef, undef, undef, undef, undef, undef, undef, undef, undef, undef, undef, undef, undef, undef, undef, undef, undef, undef, undef, undef, undef, undef, undef, undef, undef, undef, undef, undef, undef, undef, undef, x 2, undef], []⟩,
   fun x => ⟨#[undef, undef, undef, undef, undef, undef, undef, undef, undef, undef, undef, undef, undef, undef, undef, undef, undef, undef, undef, undef, undef, undef, undef, undef, undef, undef, undef, undef, undef, undef, undef, undef, undef, undef, undef, undef, undef, undef, undef, undef, undef, undef, undef, undef, undef, undef, undef, undef, undef, undef, undef, undef, undef, undef, undef, undef, undef, undef, undef, undef, undef, undef, undef, undef, undef, undef, undef, undef, undef, undef, undef, undef, undef, undef, undef, undef, undef, undef, undef, undef, undef, undef, undef, undef, undef, undef, undef, undef, undef, undef, undef, undef, undef, undef, undef, undef, undef, x 3, undef], []⟩,
   fun x => ⟨#[undef, undef, undef, undef, undef, undef, .pointer (some ⟨w1.heap.size, 0, none⟩), undef, undef, undef, undef, undef, undef, undef, undef, undef, undef, undef, undef, undef, undef, undef, undef, undef, undef, undef, undef, undef, undef, undef, undef, undef, undef, undef, undef, undef, undef, undef, undef, undef, undef, undef, undef, undef, undef, undef, undef, undef, undef, undef, undef, undef, undef, undef, undef, undef, undef, undef, undef, undef, undef, undef, undef, undef, undef, undef, undef, undef, undef, undef, undef, undef, undef, undef, undef, undef, undef, undef, undef, undef, undef, undef, undef, undef, undef, undef, undef, undef, undef, undef, undef, undef, undef, undef, undef, undef, undef, undef, undef, undef], []⟩,
   fun x => ⟨#[undef, undef, undef, undef, undef, undef, undef, undef, undef, undef, undef, undef, undef, undef, undef, undef, undef, undef, undef, undef, undef, undef, undef, undef, undef, undef, undef, undef, undef, undef, undef, undef, undef, undef, undef, undef, undef, undef, undef, undef, undef, undef, undef, undef, undef, undef, undef, undef, undef, undef, undef, undef, undef, undef, undef, undef, undef, undef, undef, undef, undef, undef, undef, undef, undef, undef, undef, undef, undef, undef, undef, undef, undef, undef, undef, undef, undef, undef, undef, undef, undef, undef, undef, undef, undef, undef, undef, undef, undef, undef, undef, undef, undef, undef, undef, undef, undef, undef, undef, x 5, undef], []⟩,
   fun x => ⟨#[undef, undef, undef, undef, undef, undef, undef, undef, undef, undef, undef, undef, undef, undef, undef, undef, undef, undef, undef, undef, undef, undef, undef, undef, undef, undef, undef, undef, undef, undef, undef, undef, undef, undef, undef, undef, undef, undef, undef, undef, undef, undef, undef, undef, undef, undef, undef, undef, undef, undef, undef, undef, undef, undef, undef, undef, undef, undef, undef, undef, undef, undef, undef, undef, undef, undef, undef, undef, undef, undef, undef, undef, undef, undef, undef, undef, undef, undef, undef, undef, undef, undef, undef, undef, undef, undef, undef, undef, undef, undef, undef, undef, undef, undef, undef, undef, undef, undef, undef, undef, x 6, undef], []⟩,
   fun x => ⟨#[undef, undef, undef, undef, undef, undef, undef, undef, undef, undef, undef, undef, undef, undef, undef, undef, undef, undef, undef, undef, undef, undef, undef, undef, undef, undef, undef, undef, undef, undef, undef, undef, undef, undef, undef, undef, undef, undef, undef, undef, undef, undef, undef, undef, undef, undef, undef, undef, undef, undef, undef, undef, undef, undef, undef, undef, undef, undef, undef, undef, undef, undef, undef, undef, undef, undef, undef, undef, undef, undef, undef, undef, undef, undef, undef, undef, undef, undef, undef, undef, undef, undef, undef, undef, undef, undef, undef, undef, undef, undef, undef, undef, undef, undef, undef, undef, undef, undef, undef, undef, undef, x 7, undef], []⟩,
   fun x => ⟨#[undef, undef, undef, undef, undef, undef, undef, undef, undef, undef, undef, undef, undef, undef, undef, undef, undef, undef, undef, undef, undef, undef, undef, undef, undef, undef, undef, undef, undef, undef, undef, undef, undef, undef, undef, undef, undef, undef, undef, undef, undef, undef, undef, undef, undef, undef, undef, undef, undef, undef, undef, undef, undef, undef, undef, undef, undef, undef, undef, undef, undef, undef, undef, undef, undef, undef, undef, undef, undef, undef, undef, undef, undef, undef, undef, undef, undef, undef, undef, undef, undef, undef, undef, undef, undef, undef, undef, undef, undef, undef, undef, undef, undef, undef, undef, undef, undef, undef, undef, undef, undef, undef, x 8, undef], []⟩,
   fun x => ⟨#[undef, undef, undef, undef, undef, undef, undef, undef, undef, undef, undef, undef, undef, undef, undef, undef, undef, undef, undef, undef, undef, undef, undef, undef, undef, undef, undef, undef, undef, undef, undef, undef, undef, undef, undef, undef, undef, undef, undef, undef, undef, undef, undef, undef, undef, undef, undef, undef, undef, undef, undef, undef, undef, undef, undef, undef, undef, undef, undef, undef, undef, undef, undef, undef, undef, undef, undef, undef, undef, undef, undef, undef, undef, undef, undef, undef, undef, undef, undef, undef, undef, undef, undef, undef, undef, undef, undef, undef, undef, undef, undef, undef, undef, undef, undef, undef, undef, undef, x 4, undef, undef, undef, undef, x 9, undef], []⟩,
   fun x => ⟨#[undef, undef, undef, undef, undef, undef, undef, undef, undef, undef, undef, undef, undef, undef, undef, undef, undef, undef, undef, undef, undef, undef, undef, undef, undef, undef, undef, undef, undef, undef, undef, undef, undef, undef, undef, undef, undef, undef, undef, undef, undef, undef, undef, undef, undef, undef, undef, undef, undef, undef, undef, undef, undef, undef, undef, undef, undef, undef, undef, undef, undef, undef, undef, undef, undef, undef, undef, undef, undef, undef, undef, undef, undef, undef, undef, undef, undef, undef, undef, undef, undef, undef, undef, undef, undef, undef, undef, undef, undef, undef, undef, undef, undef, undef, undef, undef, undef, undef, undef, undef, undef, undef, undef, undef, x 10, undef], []⟩,
   fun x => ⟨#[undef, undef, undef, undef, undef, undef, .pointer (some ⟨w1.heap.size, 0, none⟩), undef, undef, undef, undef, undef, undef, undef, undef, undef, undef, undef, undef, undef, undef, undef, undef, undef, undef, undef, undef, undef, undef, undef, undef, undef, undef, undef, undef, undef, undef, undef, undef, undef, undef, undef, undef, undef, undef, undef, undef, undef, undef, undef, undef, undef, undef, undef, undef, undef, undef, undef, undef, undef, undef, undef, undef, undef, undef, undef, undef, undef, undef, undef, undef, undef, undef, undef, undef, undef, undef, undef, undef, undef, undef, undef, undef, undef, undef, undef, undef, undef, undef, undef, undef, undef, undef, undef, undef, undef, undef, undef, undef, undef, undef, undef, undef, undef, undef, x 11, undef], []⟩,
   fun x => ⟨#[undef, undef, undef, undef, undef, undef, undef, undef, undef, undef, undef, undef, undef, undef, undef, undef, undef, undef, undef, undef, undef, undef, undef, undef, undef, undef, undef, undef, undef, undef, undef, undef, undef, undef, undef, undef, undef, undef, undef, undef, undef, undef, undef, undef, undef, undef, undef, undef, undef, undef, undef, undef, undef, undef, undef, undef, undef, undef, undef, undef, undef, undef, undef, undef, undef, undef, undef, undef, undef, undef, undef, undef, undef, undef, undef, undef, undef, undef, undef, undef, undef, undef, undef, undef, undef, undef, undef, undef, undef, undef, undef, undef, undef, undef, undef, undef, undef, undef, undef, undef, undef, undef, undef, undef, undef, x 11, x 12, undef], []⟩,
   fun x => ⟨#[undef, undef, undef, undef, undef, undef, undef, undef, undef, undef, undef, undef, undef, undef, undef, undef, undef, undef, undef, undef, undef, undef, undef, undef, undef, undef, undef, undef, undef, undef, undef, undef, undef, undef, undef, undef, undef, undef, undef, undef, undef, undef, undef, undef, undef, undef, undef, undef, undef, undef, undef, undef, undef, undef, undef, undef, undef, undef, undef, undef, undef, undef, undef, undef, undef, undef, undef, undef, undef, undef, undef, undef, undef, undef, undef, undef, undef, undef, undef, undef, undef, undef, undef, undef, undef, undef, undef, undef, undef, undef, undef, undef, undef, undef, undef, undef, undef, undef, undef, undef, undef, undef, undef, undef, undef, x 11, undef, x 13, undef], []⟩,
   fun x => ⟨#[undef, undef, undef, undef, undef, undef, undef, undef, undef, undef, undef, undef, undef, undef, undef, undef, undef, undef, undef, undef, undef, undef, undef, undef, undef, undef, undef, undef, undef, undef, undef, undef, undef, undef, undef, undef, undef, undef, undef, undef, undef, undef, undef, undef, undef, undef, undef, undef, undef, undef, undef, undef, undef, undef, undef, undef, undef, undef, undef, undef, undef, undef, undef, undef, undef, undef, undef, undef, undef, undef, undef, undef, undef, undef, undef, undef, undef, undef, undef, undef, undef, undef, undef, undef, undef, undef, undef, undef, undef, undef, undef, undef, undef, undef, undef, undef, undef, undef, undef, undef, undef, undef, undef, undef, undef, x 11, undef, undef, x 14, undef], []⟩,
   fun x => ⟨#[undef, undef, undef, undef, undef, undef, undef, undef, undef, undef, undef, undef, undef, undef, undef, undef, undef, undef, undef, undef, undef, undef, undef, undef, undef, undef, undef, undef, undef, undef, undef, undef, undef, undef, undef, undef, undef, undef, undef, undef, undef, undef, undef, undef, undef, undef, undef, undef, undef, undef, undef, undef, undef, undef, undef, undef, undef, undef, undef, undef, undef, undef, undef, undef, undef, undef, undef, undef, undef, undef, undef, undef, undef, undef, undef, undef, undef, undef, undef, undef, undef, undef, undef, undef, undef, undef, undef, undef, undef, undef, undef, undef, undef, undef, undef, undef, undef, undef, undef, undef, undef, undef, undef, undef, undef, x 11, undef, undef, undef, x 15, undef], []⟩,
   fun x => ⟨#[undef, undef, undef, undef, undef, undef, undef, undef, undef, undef, undef, undef, undef, undef, undef, undef, undef, undef, undef, undef, undef, undef, undef, undef, undef, undef, undef, undef, undef, undef, undef, undef, undef, undef, undef, undef, undef, undef, undef, undef, undef, undef, undef, undef, undef, undef, undef, undef, undef, undef, undef, undef, undef, undef, undef, undef, undef, undef, undef, undef, undef, undef, undef, undef, undef, undef, undef, undef, undef, undef, undef, undef, undef, undef, undef, undef, undef, undef, undef, undef, undef, undef, undef, undef, undef, undef, undef, undef, undef, undef, undef, undef, undef, undef, undef, undef, undef, undef, undef, undef, undef, undef, undef, undef, undef, x 11, undef, undef, undef, undef, x 16, undef], []⟩,
   fun x => ⟨#[undef, undef, undef, undef, undef, undef, .pointer (some ⟨w1.heap.size, 0, none⟩), undef, undef, undef, undef, undef, undef, undef, undef, undef, undef, undef, undef, undef, undef, undef, undef, undef, undef, undef, undef, undef, undef, undef, undef, undef, undef, undef, undef, undef, undef, undef, undef, undef, undef, undef, undef, undef, undef, undef, undef, undef, undef, undef, undef, undef, undef, undef, undef, undef, undef, undef, undef, undef, undef, undef, undef, undef, undef, undef, undef, undef, undef, undef, undef, undef, undef, undef, undef, undef, undef, undef, undef, undef, undef, undef, undef, undef, undef, undef, undef, undef, undef, undef, undef, undef, undef, undef, undef, undef, undef, undef, undef, undef, undef, undef, undef, undef, undef, x 11, undef, undef, undef, undef, undef, undef, undef], []⟩,
   fun x => ⟨#[undef, undef, undef, undef, undef, undef, undef, undef, undef, undef, undef, undef, undef, undef, undef, undef, undef, undef, undef, undef, undef, undef, undef, undef, undef, undef, undef, undef, undef, undef, undef, undef, undef, undef, undef, undef, undef, undef, undef, undef, undef, undef, undef, undef, undef, undef, undef, undef, undef, undef, undef, undef, undef, undef, undef, undef, undef, undef, undef, undef, undef, undef, undef, undef, undef, undef, undef, undef, undef, undef, undef, undef, undef, undef, undef, undef, undef, undef, undef, undef, undef, undef, undef, undef, undef, undef, undef, undef, undef, undef, undef, undef, undef, undef, undef, undef, undef, undef, undef, undef, undef, undef, undef, undef, undef, x 11, undef, undef, undef, undef, undef, undef, x 18, undef], []⟩,
   fun x => ⟨#[undef, undef, undef, undef, undef, undef, undef, undef, undef, undef, undef, undef, undef, undef, undef, undef, undef, undef, undef, undef, undef, undef, undef, undef, undef, undef, undef, undef, undef, undef, undef, undef, undef, undef, undef, undef, undef, undef, undef, undef, undef, undef, undef, undef, undef, undef, undef, undef, undef, undef, undef, undef, undef, undef, undef, undef, undef, undef, undef, undef, undef, undef, undef, undef, undef, undef, undef, undef, undef, undef, undef, undef, undef, undef, undef, undef, undef, undef, undef, undef, undef, undef, undef, undef, undef, undef, undef, undef, undef, undef, undef, undef, undef, undef, undef, undef, undef, undef, undef, undef, undef, undef, undef, undef, undef, x 11, undef, undef, undef, undef, undef, undef, undef, x 19, undef], []⟩,
   fun x => ⟨#[undef, undef, undef, undef, undef, undef, undef, undef, undef, undef, undef, undef, undef, undef, undef, undef, undef, undef, undef, undef, undef, undef, undef, undef, undef, undef, undef, undef, undef, undef, undef, undef, undef, undef, undef, undef, undef, undef, undef, undef, undef, undef, undef, undef, undef, undef, undef, undef, undef, undef, undef, undef, undef, undef, undef, undef, undef, undef, undef, undef, undef, undef, undef, undef, undef, undef, undef, undef, undef, undef, undef, undef, undef, undef, undef, undef, undef, undef, undef, undef, undef, undef, undef, undef, undef, undef, undef, undef, undef, undef, undef, undef, undef, undef, undef, undef, undef, undef, undef, undef, undef, undef, undef, undef, undef, x 11, undef, undef, undef, undef, undef, undef, undef, undef, x 20, undef], []⟩,
   fun x => ⟨#[undef, undef, undef, undef, undef, undef, undef, undef, undef, undef, undef, undef, undef, undef, undef, undef, undef, undef, undef, undef, undef, undef, undef, undef, undef, undef, undef, undef, undef, undef, undef, undef, undef, undef, undef, undef, undef, undef, undef, undef, undef, undef, undef, undef, undef, undef, undef, undef, undef, undef, undef, undef, undef, undef, undef, undef, undef, undef, undef, undef, undef, undef, undef, undef, undef, undef, undef, undef, undef, undef, undef, undef, undef, undef, undef, undef, undef, undef, undef, undef, undef, undef, undef, undef, undef, undef, undef, undef, undef, undef, undef, undef, undef, undef, undef, undef, undef, undef, undef, undef, undef, undef, undef, undef, undef, x 11, undef, undef, undef, undef, undef, undef, undef, undef, undef, x 21, undef], []⟩,
   fun x => ⟨#[undef, undef, undef, undef, undef, undef, undef, undef, undef, undef, undef, undef, undef, undef, undef, undef, undef, undef, undef, undef, undef, undef, undef, undef, undef, undef, undef, undef, undef, undef, undef, undef, undef, undef, undef, undef, undef, undef, undef, undef, undef, undef, undef, undef, undef, undef, undef, undef, undef, undef, undef, undef, undef, undef, undef, undef, undef, undef, undef, undef, undef, undef, undef, undef, undef, undef, undef, undef, undef, undef, undef, undef, undef, undef, undef, undef, undef, undef, undef, undef, undef, undef, undef, undef, undef, undef, undef, undef, undef, undef, undef, undef, undef, undef, undef, undef, undef, undef, undef, undef, undef, undef, undef, undef, undef, x 11, undef, undef, undef, undef, undef, undef, undef, undef, undef, undef, x 22, undef], []⟩,
   fun x => ⟨#[undef, undef, undef, undef, undef, undef, undef, undef, undef, undef, undef, undef, undef, undef, undef, undef, undef, undef, undef, undef, undef, undef, undef, undef, undef, undef, undef, undef, undef, undef, undef, undef, undef, undef, undef, undef, undef, undef, undef, undef, undef, undef, undef, undef, undef, undef, undef, undef, undef, undef, undef, undef, undef, undef, undef, undef, undef, undef, undef, undef, undef, undef, undef, undef, undef, undef, undef, undef, undef, undef, undef, undef, undef, undef, undef, undef, undef, undef, undef, undef, undef, undef, undef, undef, undef, undef, undef, undef, undef, undef, undef, undef, undef, undef, undef, undef, undef, undef, undef, undef, undef, undef, undef, undef, undef, x 11, undef, undef, undef, undef, undef, x 17, undef, undef, undef, undef, undef, x 23, undef], []⟩,
   fun x => ⟨#[undef, undef, undef, undef, undef, undef, undef, undef, undef, undef, undef, undef, undef, undef, undef, undef, undef, undef, undef, undef, undef, undef, undef, undef, undef, undef, undef, undef, undef, undef, undef, undef, undef, undef, undef, undef, undef, undef, undef, undef, undef, undef, undef, undef, undef, undef, undef, undef, undef, undef, undef, undef, undef, undef, undef, undef, undef, undef, undef, undef, undef, undef, undef, undef, undef, undef, undef, undef, undef, undef, undef, undef, undef, undef, undef, undef, undef, undef, undef, undef, undef, undef, undef, undef, undef, undef, undef, undef, undef, undef, undef, undef, undef, undef, undef, undef, undef, undef, undef, undef, undef, undef, undef, undef, undef, x 11, undef, undef, undef, undef, undef, undef, undef, undef, undef, undef, undef, undef, x 24, undef], []⟩,
   fun x => ⟨#[undef, undef, undef, undef, undef, undef, undef, undef, undef, undef, undef, undef, undef, undef, undef, undef, undef, undef, undef, undef, undef, undef, undef, undef, undef, undef, undef, undef, undef, undef, undef, undef, undef, undef, undef, undef, undef, undef, undef, undef, undef, undef, undef, undef, undef, undef, undef, undef, undef, undef, undef, undef, undef, undef, undef, undef, undef, undef, undef, undef, undef, undef, undef, undef, undef, undef, undef, undef, undef, undef, undef, undef, undef, undef, undef, undef, undef, undef, undef, undef, undef, undef, undef, undef, undef, undef, undef, undef, undef, undef, undef, undef, undef, undef, undef, undef, undef, undef, undef, undef, undef, undef, undef, undef, undef, undef, undef, undef, undef, undef, undef, undef, undef, undef, undef, undef, undef, undef, undef, x 25, undef], []⟩,
   fun x => ⟨#[undef, undef, undef, undef, undef, undef, .pointer (some ⟨w1.heap.size, 0, none⟩), undef, undef, undef, undef, undef, undef, undef, undef, undef, undef, undef, undef, undef, undef, undef, undef, undef, undef, undef, undef, undef, undef, undef, undef, undef, undef, undef, undef, undef, undef, undef, undef, undef, undef, undef, undef, undef, undef, undef, undef, undef, undef, undef, undef, undef, undef, undef, undef, undef, undef, undef, undef, undef, undef, undef, undef, undef, undef, undef, undef, undef, undef, undef, undef, undef, undef, undef, undef, undef, undef, undef, undef, undef, undef, undef, undef, undef, undef, undef, undef, undef, undef, undef, undef, undef, undef, undef, undef, undef, undef, undef, undef, undef, undef, undef, undef, undef, undef, undef, undef, undef, undef, undef, undef, undef, undef, undef, undef, undef, undef, undef, undef, undef, x 26, undef], []⟩,
   fun x => ⟨#[undef, undef, undef, undef, undef, undef, undef, undef, undef, undef, undef, undef, undef, undef, undef, undef, undef, undef, undef, undef, undef, undef, undef, undef, undef, undef, undef, undef, undef, undef, undef, undef, undef, undef, undef, undef, undef, undef, undef, undef, undef, undef, undef, undef, undef, undef, undef, undef, undef, undef, undef, undef, undef, undef, undef, undef, undef, undef, undef, undef, undef, undef, undef, undef, undef, undef, undef, undef, undef, undef, undef, undef, undef, undef, undef, undef, undef, undef, undef, undef, undef, undef, undef, undef, undef, undef, undef, undef, undef, undef, undef, undef, undef, undef, undef, undef, undef, undef, undef, undef, undef, undef, undef, undef, undef, undef, undef, undef, undef, undef, undef, undef, undef, undef, undef, undef, undef, undef, undef, undef, x 26, x 27, undef], []⟩,
   fun x => ⟨#[undef, undef, undef, undef, undef, undef, undef, undef, undef, undef, undef, undef, undef, undef, undef, undef, undef, undef, undef, undef, undef, undef, undef, undef, undef, undef, undef, undef, undef, undef, undef, undef, undef, undef, undef, undef, undef, undef, undef, undef, undef, undef, undef, undef, undef, undef, undef, undef, undef, undef, undef, undef, undef, undef, undef, undef, undef, undef, undef, undef, undef, undef, undef, undef, undef, undef, undef, undef, undef, undef, undef, undef, undef, undef, undef, undef, undef, undef, undef, undef, undef, undef, undef, undef, undef, undef, undef, undef, undef, undef, undef, undef, undef, undef, undef, undef, undef, undef, undef, undef, undef, undef, undef, undef, undef, undef, undef, undef, undef, undef, undef, undef, undef, undef, undef, undef, undef, undef, undef, undef, x 26, undef, x 28, undef], []⟩,
   fun x => ⟨#[undef, undef, undef, undef, undef, undef, undef, undef, undef, undef, undef, undef, undef, undef, undef, undef, undef, undef, undef, undef, undef, undef, undef, undef, undef, undef, undef, undef, undef, undef, undef, undef, undef, undef, undef, undef, undef, undef, undef, undef, undef, undef, undef, undef, undef, undef, undef, undef, undef, undef, undef, undef, undef, undef, undef, undef, undef, undef, undef, undef, undef, undef, undef, undef, undef, undef, undef, undef, undef, undef, undef, undef, undef, undef, undef, undef, undef, undef, undef, undef, undef, undef, undef, undef, undef, undef, undef, undef, undef, undef, undef, undef, undef, undef, undef, undef, undef, undef, undef, undef, undef, undef, undef, undef, undef, undef, undef, undef, undef, undef, undef, undef, undef, undef, undef, undef, undef, undef, undef, undef, x 26, undef, undef, x 29, undef], []⟩,
   fun x => ⟨#[undef, undef, undef, undef, undef, undef, undef, undef, undef, undef, undef, undef, undef, undef, undef, undef, undef, undef, undef, undef, undef, undef, undef, undef, undef, undef, undef, undef, undef, undef, undef, undef, undef, undef, undef, undef, undef, undef, undef, undef, undef, undef, undef, undef, undef, undef, undef, undef, undef, undef, undef, undef, undef, undef, undef, undef, undef, undef, undef, undef, undef, undef, undef, undef, undef, undef, undef, undef, undef, undef, undef, undef, undef, undef, undef, undef, undef, undef, undef, undef, undef, undef, undef, undef, undef, undef, undef, undef, undef, undef, undef, undef, undef, undef, undef, undef, undef, undef, undef, undef, undef, undef, undef, undef, undef, undef, undef, undef, undef, undef, undef, undef, undef, undef, undef, undef, undef, undef, undef, undef, x 26, undef, undef, undef, x 30, undef], []⟩,
   fun x => ⟨#[undef, undef, undef, undef, undef, undef, undef, undef, undef, undef, undef, undef, undef, undef, undef, undef, undef, undef, undef, undef, undef, undef, undef, undef, undef, undef, undef, undef, undef, undef, undef, undef, undef, undef, undef, undef, undef, undef, undef, undef, undef, undef, undef, undef, undef, undef, undef, undef, undef, undef, undef, undef, undef, undef, undef, undef, undef, undef, undef, undef, undef, undef, undef, undef, undef, undef, undef, undef, undef, undef, undef, undef, undef, undef, undef, undef, undef, undef, undef, undef, undef, undef, undef, undef, undef, undef, undef, undef, undef, undef, undef, undef, undef, undef, undef, undef, undef, undef, undef, undef, undef, undef, undef, undef, undef, undef, undef, undef, undef, undef, undef, undef, undef, undef, undef, undef, undef, undef, undef, undef, x 26, undef, undef, undef, undef, x 31, undef], []⟩,
   fun x => ⟨#[undef, undef, undef, undef, undef, undef, .pointer (some ⟨w1.heap.size, 0, none⟩), undef, undef, undef, undef, undef, undef, undef, undef, undef, undef, undef, undef, undef, undef, undef, undef, undef, undef, undef, undef, undef, undef, undef, undef, undef, undef, undef, undef, undef, undef, undef, undef, undef, undef, undef, undef, undef, undef, undef, undef, undef, undef, undef, undef, undef, undef, undef, undef, undef, undef, undef, undef, undef, undef, undef, undef, undef, undef, undef, undef, undef, undef, undef, undef, undef, undef, undef, undef, undef, undef, undef, undef, undef, undef, undef, undef, undef, undef, undef, undef, undef, undef, undef, undef, undef, undef, undef, undef, undef, undef, undef, undef, undef, undef, undef, undef, undef, undef, undef, undef, undef, undef, undef, undef, undef, undef, undef, undef, undef, undef, undef, undef, undef, x 26, undef, undef, undef, undef, undef, undef, undef], []⟩,
   fun x => ⟨#[undef, undef, undef, undef, undef, undef, undef, undef, undef, undef, undef, undef, undef, undef, undef, undef, undef, undef, undef, undef, undef, undef, undef, undef, undef, undef, undef, undef, undef, undef, undef, undef, undef, undef, undef, undef, undef, undef, undef, undef, undef, undef, undef, undef, undef, undef, undef, undef, undef, undef, undef, undef, undef, undef, undef, undef, undef, undef, undef, undef, undef, undef, undef, undef, undef, undef, undef, undef, undef, undef, undef, undef, undef, undef, undef, undef, undef, undef, undef, undef, undef, undef, undef, undef, undef, undef, undef, undef, undef, undef, undef, undef, undef, undef, undef, undef, undef, undef, undef, undef, undef, undef, undef, undef, undef, undef, undef, undef, undef, undef, undef, undef, undef, undef, undef, undef, undef, undef, undef, undef, x 26, undef, undef, undef, undef, undef, undef, x 33, undef], []⟩,
   fun x => ⟨#[undef, undef, undef, undef, undef, undef, undef, undef, undef, undef, undef, undef, undef, undef, undef, undef, undef, undef, undef, undef, undef, undef, undef, undef, undef, undef, undef, undef, undef, undef, undef, undef, undef, undef, undef, undef, undef, undef, undef, undef, undef, undef, undef, undef, undef, undef, undef, undef, undef, undef, undef, undef, undef, undef, undef, undef, undef, undef, undef, undef, undef, undef, undef, undef, undef, undef, undef, undef, undef, undef, undef, undef, undef, undef, undef, undef, undef, undef, undef, undef, undef, undef, undef, undef, undef, undef, undef, undef, undef, undef, undef, undef, undef, undef, undef, undef, undef, undef, undef, undef, undef, undef, undef, undef, undef, undef, undef, undef, undef, undef, undef, undef, undef, undef, undef, undef, undef, undef, undef, undef, x 26, undef, undef, undef, undef, undef, undef, undef, x 34, undef], []⟩,
   fun x => ⟨#[undef, undef, undef, undef, undef, undef, undef, undef, undef, undef, undef, undef, undef, undef, undef, undef, undef, undef, undef, undef, undef, undef, undef, undef, undef, undef, undef, undef, undef, undef, undef, undef, undef, undef, undef, undef, undef, undef, undef, undef, undef, undef, undef, undef, undef, undef, undef, undef, undef, undef, undef, undef, undef, undef, undef, undef, undef, undef, undef, undef, undef, undef, undef, undef, undef, undef, undef, undef, undef, undef, undef, undef, undef, undef, undef, undef, undef, undef, undef, undef, undef, undef, undef, undef, undef, undef, undef, undef, undef, undef, undef, undef, undef, undef, undef, undef, undef, undef, undef, undef, undef, undef, undef, undef, undef, undef, undef, undef, undef, undef, undef, undef, undef, undef, undef, undef, undef, undef, undef, undef, x 26, undef, undef, undef, undef, undef, undef, undef, undef, x 35, undef], []⟩,
   fun x => ⟨#[undef, undef, undef, undef, undef, undef, undef, undef, undef, undef, undef, undef, undef, undef, undef, undef, undef, undef, undef, undef, undef, undef, undef, undef, undef, undef, undef, undef, undef, undef, undef, undef, undef, undef, undef, undef, undef, undef, undef, undef, undef, undef, undef, undef, undef, undef, undef, undef, undef, undef, undef, undef, undef, undef, undef, undef, undef, undef, undef, undef, undef, undef, undef, undef, undef, undef, undef, undef, undef, undef, undef, undef, undef, undef, undef, undef, undef, undef, undef, undef, undef, undef, undef, undef, undef, undef, undef, undef, undef, undef, undef, undef, undef, undef, undef, undef, undef, undef, undef, undef, undef, undef, undef, undef, undef, undef, undef, undef, undef, undef, undef, undef, undef, undef, undef, undef, undef, undef, undef, undef, x 26, undef, undef, undef, undef, undef, undef, undef, undef, undef, x 36, undef], []⟩,
   fun x => ⟨#[undef, undef, undef, undef, undef, undef, undef, undef, undef, undef, undef, undef, undef, undef, undef, undef, undef, undef, undef, undef, undef, undef, undef, undef, undef, undef, undef, undef, undef, undef, undef, undef, undef, undef, undef, undef, undef, undef, undef, undef, undef, undef, undef, undef, undef, undef, undef, undef, undef, undef, undef, undef, undef, undef, undef, undef, undef, undef, undef, undef, undef, undef, undef, undef, undef, undef, undef, undef, undef, undef, undef, undef, undef, undef, undef, undef, undef, undef, undef, undef, undef, undef, undef, undef, undef, undef, undef, undef, undef, undef, undef, undef, undef, undef, undef, undef, undef, undef, undef, undef, undef, undef, undef, undef, undef, undef, undef, undef, undef, undef, undef, undef, undef, undef, undef, undef, undef, undef, undef, undef, x 26, undef, undef, undef, undef, undef, undef, undef, undef, undef, undef, x 37, undef], []⟩,
   fun x => ⟨#[undef, undef, undef, undef, undef, undef, undef, undef, undef, undef, undef, undef, undef, undef, undef, undef, undef, undef, undef, undef, undef, undef, undef, undef, undef, undef, undef, undef, undef, undef, undef, undef, undef, undef, undef, undef, undef, undef, undef, undef, undef, undef, undef, undef, undef, undef, undef, undef, undef, undef, undef, undef, undef, undef, undef, undef, undef, undef, undef, undef, undef, undef, undef, undef, undef, undef, undef, undef, undef, undef, undef, undef, undef, undef, undef, undef, undef, undef, undef, undef, undef, undef, undef, undef, undef, undef, undef, undef, undef, undef, undef, undef, undef, undef, undef, undef, undef, undef, undef, undef, undef, undef, undef, undef, undef, undef, undef, undef, undef, undef, undef, undef, undef, undef, undef, undef, undef, undef, undef, undef, x 26, undef, undef, undef, undef, undef, x 32, undef, undef, undef, undef, undef, x 38, undef], []⟩,
   fun x => ⟨#[undef, undef, undef, undef, undef, undef, undef, undef, undef, undef, undef, undef, undef, undef, undef, undef, undef, undef, undef, undef, undef, undef, undef, undef, undef, undef, undef, undef, undef, undef, undef, undef, undef, undef, undef, undef, undef, undef, undef, undef, undef, undef, undef, undef, undef, undef, undef, undef, undef, undef, undef, undef, undef, undef, undef, undef, undef, undef, undef, undef, undef, undef, undef, undef, undef, undef, undef, undef, undef, undef, undef, undef, undef, undef, undef, undef, undef, undef, undef, undef, undef, undef, undef, undef, undef, undef, undef, undef, undef, undef, undef, undef, undef, undef, undef, undef, undef, undef, undef, undef, undef, undef, undef, undef, undef, undef, undef, undef, undef, undef, undef, undef, undef, undef, undef, undef, undef, undef, undef, undef, x 26, undef, undef, undef, undef, undef, undef, undef, undef, undef, undef, undef, undef, x 39, undef], []⟩,
   fun x => ⟨#[undef, undef, undef, undef, undef, undef, undef, undef, undef, undef, undef, undef, undef, undef, undef, undef, undef, undef, undef, undef, undef, undef, undef, undef, undef, undef, undef, undef, undef, undef, undef, undef, undef, undef, undef, undef, undef, undef, undef, undef, undef, undef, undef, undef, undef, undef, undef, undef, undef, undef, undef, undef, undef, undef, undef, undef, undef, undef, undef, undef, undef, undef, undef, undef, undef, undef, undef, undef, undef, undef, undef, undef, undef, undef, undef, undef, undef, undef, undef, undef, undef, undef, undef, undef, undef, undef, undef, undef, undef, undef, undef, undef, undef, undef, undef, undef, undef, undef, undef, undef, undef, undef, undef, undef, undef, undef, undef, undef, undef, undef, undef, undef, undef, undef, undef, undef, undef, undef, undef, undef, undef, undef, undef, undef, undef, undef, undef, undef, undef, undef, undef, undef, undef, undef, x 40, undef], []⟩,
   fun x => ⟨#[undef, undef, undef, undef, undef, undef, .pointer (some ⟨w1.heap.size, 0, none⟩), undef, undef, undef, undef, undef, undef, undef, undef, undef, undef, undef, undef, undef, undef, undef, undef, undef, undef, undef, undef, undef, undef, undef, undef, undef, undef, undef, undef, undef, undef, undef, undef, undef, undef, undef, undef, undef, undef, undef, undef, undef, undef, undef, undef, undef, undef, undef, undef, undef, undef, undef, undef, undef, undef, undef, undef, undef, undef, undef, undef, undef, undef, undef, undef, undef, undef, undef, undef, undef, undef, undef, undef, undef, undef, undef, undef, undef, undef, undef, undef, undef, undef, undef, undef, undef, undef, undef, undef, undef, undef, undef, undef, undef, undef, undef, undef, undef, undef, undef, undef, undef, undef, undef, undef, undef, undef, undef, undef, undef, undef, undef, undef, undef, undef, undef, undef, undef, undef, undef, undef, undef, undef, undef, undef, undef, undef, undef, undef, x 41, undef], []⟩,
   fun x => ⟨#[undef, undef, undef, undef, undef, undef, undef, undef, undef, undef, undef, undef, undef, undef, undef, undef, undef, undef, undef, undef, undef, undef, undef, undef, undef, undef, undef, undef, undef, undef, undef, undef, undef, undef, undef, undef, undef, undef, undef, undef, undef, undef, undef, undef, undef, undef, undef, undef, undef, undef, undef, undef, undef, undef, undef, undef, undef, undef, undef, undef, undef, undef, undef, undef, undef, undef, undef, undef, undef, undef, undef, undef, undef, undef, undef, undef, undef, undef, undef, undef, undef, undef, undef, undef, undef, undef, undef, undef, undef, undef, undef, undef, undef, undef, undef, undef, undef, undef, undef, undef, undef, undef, undef, undef, undef, undef, undef, undef, undef, undef, undef, undef, undef, undef, undef, undef, undef, undef, undef, undef, undef, undef, undef, undef, undef, undef, undef, undef, undef, undef, undef, undef, undef, undef, undef, x 41, x 42, undef], []⟩,
   fun x => ⟨#[undef, undef, undef, undef, undef, undef, undef, undef, undef, undef, undef, undef, undef, undef, undef, undef, undef, undef, undef, undef, undef, undef, undef, undef, undef, undef, undef, undef, undef, undef, undef, undef, undef, undef, undef, undef, undef, undef, undef, undef, undef, undef, undef, undef, undef, undef, undef, undef, undef, undef, undef, undef, undef, undef, undef, undef, undef, undef, undef, undef, undef, undef, undef, undef, undef, undef, undef, undef, undef, undef, undef, undef, undef, undef, undef, undef, undef, undef, undef, undef, undef, undef, undef, undef, undef, undef, undef, undef, undef, undef, undef, undef, undef, undef, undef, undef, undef, undef, undef, undef, undef, undef, undef, undef, undef, undef, undef, undef, undef, undef, undef, undef, undef, undef, undef, undef, undef, undef, undef, undef, undef, undef, undef, undef, undef, undef, undef, undef, undef, undef, undef, undef, undef, undef, undef, x 41, undef, x 43, undef], []⟩,
   fun x => ⟨#[undef, undef, undef, undef, undef, undef, undef, undef, undef, undef, undef, undef, undef, undef, undef, undef, undef, undef, undef, undef, undef, undef, undef, undef, undef, undef, undef, undef, undef, undef, undef, undef, undef, undef, undef, undef, undef, undef, undef, undef, undef, undef, undef, undef, undef, undef, undef, undef, undef, undef, undef, undef, undef, undef, undef, undef, undef, undef, undef, undef, undef, undef, undef, undef, undef, undef, undef, undef, undef, undef, undef, undef, undef, undef, undef, undef, undef, undef, undef, undef, undef, undef, undef, undef, undef, undef, undef, undef, undef, undef, undef, undef, undef, undef, undef, undef, undef, undef, undef, undef, undef, undef, undef, undef, undef, undef, undef, undef, undef, undef, undef, undef, undef, undef, undef, undef, undef, undef, undef, undef, undef, undef, undef, undef, undef, undef, undef, undef, undef, undef, undef, undef, undef, undef, undef, x 41, undef, undef, x 44, undef], []⟩,
   fun x => ⟨#[undef, undef, undef, undef, undef, undef, undef, undef, undef, undef, undef, undef, undef, undef, undef, undef, undef, undef, undef, undef, undef, undef, undef, undef, undef, undef, undef, undef, undef, undef, undef, undef, undef, undef, undef, undef, undef, undef, undef, undef, undef, undef, undef, undef, undef, undef, undef, undef, undef, undef, undef, undef, undef, undef, undef, undef, undef, undef, undef, undef, undef, undef, undef, undef, undef, undef, undef, undef, undef, undef, undef, undef, undef, undef, undef, undef, undef, undef, undef, undef, undef, undef, undef, undef, undef, undef, undef, undef, undef, undef, undef, undef, undef, undef, undef, undef, undef, undef, undef, undef, undef, undef, undef, undef, undef, undef, undef, undef, undef, undef, undef, undef, undef, undef, undef, undef, undef, undef, undef, undef, undef, undef, undef, undef, undef, undef, undef, undef, undef, undef, undef, undef, undef, undef, undef, x 41, undef, undef, undef, x 45, undef], []⟩,
   fun x => ⟨#[undef, undef, undef, undef, undef, undef, undef, undef, undef, undef, undef, undef, undef, undef, undef, undef, undef, undef, undef, undef, undef, undef, undef, undef, undef, undef, undef, undef, undef, undef, undef, undef, undef, undef, undef, undef, undef, undef, undef, undef, undef, undef, undef, undef, undef, undef, undef, undef, undef, undef, undef, undef, undef, undef, undef, undef, undef, undef, undef, undef, undef, undef, undef, undef, undef, undef, undef, undef, undef, undef, undef, undef, undef, undef, undef, undef, undef, undef, undef, undef, undef, undef, undef, undef, undef, undef, undef, undef, undef, undef, undef, undef, undef, undef, undef, undef, undef, undef, undef, undef, undef, undef, undef, undef, undef, undef, undef, undef, undef, undef, undef, undef, undef, undef, undef, undef, undef, undef, undef, undef, undef, undef, undef, undef, undef, undef, undef, undef, undef, undef, undef, undef, undef, undef, undef, x 41, undef, undef, undef, undef, x 46, undef], []⟩,
   fun x => ⟨#[undef, undef, undef, undef, undef, undef, undef, undef, undef, undef, undef, undef, undef, undef, undef, undef, undef, undef, undef, undef, undef, undef, undef, undef, undef, undef, undef, undef, undef, undef, undef, undef, undef, undef, undef, undef, undef, undef, undef, undef, undef, undef, undef, undef, undef, undef, undef, undef, undef, undef, undef, undef, undef, undef, undef, undef, undef, undef, undef, undef, undef, undef, undef, undef, undef, undef, undef, undef, undef, undef, undef, undef, undef, undef, undef, undef, undef, undef, undef, undef, undef, undef, undef, undef, undef, undef, undef, undef, undef, undef, undef, undef, undef, undef, undef, undef, undef, undef, undef, undef, undef, undef, undef, undef, undef, undef, undef, undef, undef, undef, undef, undef, undef, undef, undef, undef, undef, undef, undef, undef, undef, undef, undef, undef, undef, undef, undef, undef, undef, undef, undef, undef, undef, undef, undef, x 41, undef, undef, undef, undef, undef, x 47, undef], []⟩,
   fun x => ⟨#[undef, undef, undef, undef, undef, undef, undef, undef, undef, undef, undef, undef, undef, undef, undef, undef, undef, undef, undef, undef, undef, undef, undef, undef, undef, undef, undef, undef, undef, undef, undef, undef, undef, undef, undef, undef, undef, undef, undef, undef, undef, undef, undef, undef, undef, undef, undef, undef, undef, undef, undef, undef, undef, undef, undef, undef, undef, undef, undef, undef, undef, undef, undef, undef, undef, undef, undef, undef, undef, undef, undef, undef, undef, undef, undef, undef, undef, undef, undef, undef, undef, undef, undef, undef, undef, undef, undef, undef, undef, undef, undef, undef, undef, undef, undef, undef, undef, undef, undef, undef, undef, undef, undef, undef, undef, undef, undef, undef, undef, undef, undef, undef, undef, undef, undef, undef, undef, undef, undef, undef, undef, undef, undef, undef, undef, undef, undef, undef, undef, undef, undef, undef, undef, undef, undef, x 41, undef, undef, undef, undef, undef, undef, x 48, undef], []⟩,
   fun x => ⟨#[undef, undef, undef, undef, undef, undef, undef, undef, undef, undef, undef, undef, undef, undef, undef, undef, undef, undef, undef, undef, undef, undef, undef, undef, undef, undef, undef, undef, undef, undef, undef, undef, undef, undef, undef, undef, undef, undef, undef, undef, undef, undef, undef, undef, undef, undef, undef, undef, undef, undef, undef, undef, undef, undef, undef, undef, undef, undef, undef, undef, undef, undef, undef, undef, undef, undef, undef, undef, undef, undef, undef, undef, undef, undef, undef, undef, undef, undef, undef, undef, undef, undef, undef, undef, undef, undef, undef, undef, undef, undef, undef, undef, undef, undef, undef, undef, undef, undef, undef, undef, undef, undef, undef, undef, undef, undef, undef, undef, undef, undef, undef, undef, undef, undef, undef, undef, undef, undef, undef, undef, undef, undef, undef, undef, undef, undef, undef, undef, undef, undef, undef, undef, undef, undef, undef, undef, undef, undef, undef, undef, undef, undef, undef, x 49, undef], []⟩,
   fun x => ⟨#[undef, undef, undef, undef, undef, undef, undef, undef, undef, undef, undef, undef, undef, undef, undef, undef, undef, undef, undef, undef, undef, undef, undef, undef, undef, undef, undef, undef, undef, undef, undef, undef, undef, undef, undef, undef, undef, undef, undef, undef, undef, undef, undef, undef, undef, undef, undef, undef, undef, undef, undef, undef, undef, undef, undef, undef, undef, undef, undef, undef, undef, undef, undef, undef, undef, undef, undef, undef, undef, undef, undef, undef, undef, undef, undef, undef, undef, undef, undef, undef, undef, undef, undef, undef, undef, undef, undef, undef, undef, undef, undef, undef, undef, undef, undef, undef, undef, undef, undef, undef, undef, undef, undef, undef, undef, undef, undef, undef, undef, undef, undef, undef, undef, undef, undef, undef, undef, undef, undef, undef, undef, undef, undef, undef, undef, undef, undef, undef, undef, undef, undef, undef, undef, undef, undef, undef, undef, undef, undef, undef, undef, undef, undef, undef, x 50, undef], []⟩,
   fun x => ⟨#[undef, undef, undef, undef, undef, undef, undef, undef, undef, undef, undef, undef, undef, undef, undef, undef, undef, undef, undef, undef, undef, undef, undef, undef, undef, undef, undef, undef, undef, undef, undef, undef, undef, undef, undef, undef, undef, undef, undef, undef, undef, undef, undef, undef, undef, undef, undef, undef, undef, undef, undef, undef, undef, undef, undef, undef, undef, undef, undef, undef, undef, undef, undef, undef, undef, undef, undef, undef, undef, undef, undef, undef, undef, undef, undef, undef, undef, undef, undef, undef, undef, undef, undef, undef, undef, undef, undef, undef, undef, undef, undef, undef, undef, undef, undef, undef, undef, undef, undef, undef, undef, undef, undef, undef, undef, undef, undef, undef, undef, undef, undef, undef, undef, undef, undef, undef, undef, undef, undef, undef, undef, undef, undef, undef, undef, undef, undef, undef, undef, undef, undef, undef, undef, undef, undef, undef, undef, undef, undef, undef, undef, undef, undef, undef, x 50, x 51, undef], []⟩,
   fun x => ⟨#[undef, undef, undef, undef, undef, undef, undef, undef, undef, undef, undef, undef, undef, undef, undef, undef, undef, undef, undef, undef, undef, undef, undef, undef, undef, undef, undef, undef, undef, undef, undef, undef, undef, undef, undef, undef, undef, undef, undef, undef, undef, undef, undef, undef, undef, undef, undef, undef, undef, undef, undef, undef, undef, undef, undef, undef, undef, undef, undef, undef, undef, undef, undef, undef, undef, undef, undef, undef, undef, undef, undef, undef, undef, undef, undef, undef, undef, undef, undef, undef, undef, undef, undef, undef, undef, undef, undef, undef, undef, undef, undef, undef, undef, undef, undef, undef, undef, undef, undef, undef, undef, undef, undef, undef, undef, undef, undef, undef, undef, undef, undef, undef, undef, undef, undef, undef, undef, undef, undef, undef, undef, undef, undef, undef, undef, undef, undef, undef, undef, undef, undef, undef, undef, undef, undef, undef, undef, undef, undef, undef, undef, undef, undef, undef, x 50, undef, x 52, undef], []⟩,
   fun x => ⟨#[undef, undef, undef, undef, undef, undef, undef, undef, undef, undef, undef, undef, undef, undef, undef, undef, undef, undef, undef, undef, undef, undef, undef, undef, undef, undef, undef, undef, undef, undef, undef, undef, undef, undef, undef, undef, undef, undef, undef, undef, undef, undef, undef, undef, undef, undef, undef, undef, undef, undef, undef, undef, undef, undef, undef, undef, undef, undef, undef, undef, undef, undef, undef, undef, undef, undef, undef, undef, undef, undef, undef, undef, undef, undef, undef, undef, undef, undef, undef, undef, undef, undef, undef, undef, undef, undef, undef, undef, undef, undef, undef, undef, undef, undef, undef, undef, undef, undef, undef, undef, undef, undef, undef, undef, undef, undef, undef, undef, undef, undef, undef, undef, undef, undef, undef, undef, undef, undef, undef, undef, undef, undef, undef, undef, undef, undef, undef, undef, undef, undef, undef, undef, undef, undef, undef, undef, undef, undef, undef, undef, undef, undef, undef, undef, x 50, undef, undef, x 53, undef], []⟩,
   fun x => ⟨#[undef, undef, undef, undef, undef, undef, undef, undef, undef, undef, undef, undef, undef, undef, undef, undef, undef, undef, undef, undef, undef, undef, undef, undef, undef, undef, undef, undef, undef, undef, undef, undef, undef, undef, undef, undef, undef, undef, undef, undef, undef, undef, undef, undef, undef, undef, undef, undef, undef, undef, undef, undef, undef, undef, undef, undef, undef, undef, undef, undef, undef, undef, undef, undef, undef, undef, undef, undef, undef, undef, undef, undef, undef, undef, undef, undef, undef, undef, undef, undef, undef, undef, undef, undef, undef, undef, undef, undef, undef, undef, undef, undef, undef, undef, undef, undef, undef, undef, undef, undef, undef, undef, undef, undef, undef, undef, undef, undef, undef, undef, undef, undef, undef, undef, undef, undef, undef, undef, undef, undef, undef, undef, undef, undef, undef, undef, undef, undef, undef, undef, undef, undef, undef, undef, undef, undef, undef, undef, undef, undef, undef, undef, undef, undef, undef, undef, undef, undef, x 54], []⟩]
              ?hF ?mono ?h0 ?step [0, 1, 2, 3, 4, 5, 6, 7, 8, 9, 10, 11, 12, 13, 14, 15, 16, 17, 18, 19, 20, 21, 22, 23, 24, 25, 26, 27, 28, 29, 30, 31, 32, 33, 34, 35, 36, 37, 38, 39, 40, 41, 42, 43, 44, 45, 46, 47, 48, 49, 50, 51, 52, 53, 54, 55] (by kernel_rfl) ?fin
            case hF =>
              exact ⟨fun x => ⟨by kernel_rfl, by kernel_rfl⟩, fun x => ⟨by kernel_rfl, by kernel_rfl⟩, fun x => ⟨by kernel_rfl, by kernel_rfl⟩, fun x => ⟨by kernel_rfl, by kernel_rfl⟩, fun x => ⟨by kernel_rfl, by kernel_rfl⟩, fun x => ⟨by kernel_rfl, by kernel_rfl⟩, fun x => ⟨by kernel_rfl, by kernel_rfl⟩, fun x => ⟨by kernel_rfl, by kernel_rfl⟩, fun x => ⟨by kernel_rfl, by kernel_rfl⟩, fun x => ⟨by kernel_rfl, by kernel_rfl⟩, fun x => ⟨by kernel_rfl, by kernel_rfl⟩, fun x => ⟨by kernel_rfl, by kernel_rfl⟩, fun x => ⟨by kernel_rfl, by kernel_rfl⟩, fun x => ⟨by kernel_rfl, by kernel_rfl⟩, fun x => ⟨by kernel_rfl, by kernel_rfl⟩, fun x => ⟨by kernel_rfl, by kernel_rfl⟩, fun x => ⟨by kernel_rfl, by kernel_rfl⟩, fun x => ⟨by kernel_rfl, by kernel_rfl⟩, fun x => ⟨by kernel_rfl, by kernel_rfl⟩, fun x => ⟨by kernel_rfl, by kernel_rfl⟩, fun x => ⟨by kernel_rfl, by kernel_rfl⟩, fun x => ⟨by kernel_rfl, by kernel_rfl⟩, fun x => ⟨by kernel_rfl, by kernel_rfl⟩, fun x => ⟨by kernel_rfl, by kernel_rfl⟩, fun x => ⟨by kernel_rfl, by kernel_rfl⟩, fun x => ⟨by kernel_rfl, by kernel_rfl⟩, fun x => ⟨by kernel_rfl, by kernel_rfl⟩, fun x => ⟨by kernel_rfl, by kernel_rfl⟩, fun x => ⟨by kernel_rfl, by kernel_rfl⟩, fun x => ⟨by kernel_rfl, by kernel_rfl⟩, fun x => ⟨by kernel_rfl, by kernel_rfl⟩, fun x => ⟨by kernel_rfl, by kernel_rfl⟩, fun x => ⟨by kernel_rfl, by kernel_rfl⟩, fun x => ⟨by kernel_rfl, by kernel_rfl⟩, fun x => ⟨by kernel_rfl, by kernel_rfl⟩, fun x => ⟨by kernel_rfl, by kernel_rfl⟩, fun x => ⟨by kernel_rfl, by kernel_rfl⟩, fun x => ⟨by kernel_rfl, by kernel_rfl⟩, fun x => ⟨by kernel_rfl, by kernel_rfl⟩, fun x => ⟨by kernel_rfl, by kernel_rfl⟩, fun x => ⟨by kernel_rfl, by kernel_rfl⟩, fun x => ⟨by kernel_rfl, by kernel_rfl⟩, fun x => ⟨by kernel_rfl, by kernel_rfl⟩, fun x => ⟨by kernel_rfl, by kernel_rfl⟩, fun x => ⟨by kernel_rfl, by kernel_rfl⟩, fun x => ⟨by kernel_rfl, by kernel_rfl⟩, fun x => ⟨by kernel_rfl, by kernel_rfl⟩, fun x => ⟨by kernel_rfl, by kernel_rfl⟩, fun x => ⟨by kernel_rfl, by kernel_rfl⟩, fun x => ⟨by kernel_rfl, by kernel_rfl⟩, fun x => ⟨by kernel_rfl, by kernel_rfl⟩, fun x => ⟨by kernel_rfl, by kernel_rfl⟩, fun x => ⟨by kernel_rfl, by kernel_rfl⟩, fun x => ⟨by kernel_rfl, by kernel_rfl⟩, fun x => ⟨by kernel_rfl, by kernel_rfl⟩, fun x => ⟨by kernel_rfl, by kernel_rfl⟩, trivial⟩
            case mono =>
              intro i j hi hj hne hna hnk v W W' hE hv
              rw [HV.out] at hv ⊢
              simp only [List.length_cons, List.length_nil] at hi hj
              match i, hi with
              | 0, _ | 1, _ | 2, _ | 3, _ | 4, _ | 5, _ | 6, _ | 7, _ | 8, _ | 9, _ | 10, _ | 11, _ | 12, _ | 13, _ | 14, _ | 15, _ | 16, _ | 17, _ | 18, _ | 19, _ | 20, _ | 21, _ | 22, _ | 23, _ | 24, _ | 25, _ | 26, _ | 27, _ | 28, _ | 29, _ | 30, _ | 31, _ | 32, _ | 33, _ | 34, _ | 35, _ | 36, _ | 37, _ | 38, _ | 39, _ | 40, _ | 41, _ | 42, _ | 43, _ | 44, _ | 45, _ | 46, _ | 47, _ | 48, _ | 49, _ | 50, _ | 51, _ | 52, _ | 53, _ | 54, _ | 55, _ => exact hv
              | m + 56, h => exact absurd h (by omega)
            case h0 => intro x; exact toI HIp (Below.refl _ _).drew
            case step =>
              refine ⟨?_, ?_, ?_, ?_, ?_, ?_, ?_, ?_, ?_, ?_, ?_, ?_, ?_, ?_, ?_, ?_, ?_, ?_, ?_, ?_, ?_, ?_, ?_, ?_, ?_, ?_, ?_, ?_, ?_, ?_, ?_, ?_, ?_, ?_, ?_, ?_, ?_, ?_, ?_, ?_, ?_, ?_, ?_, ?_, ?_, ?_, ?_, ?_, ?_, ?_, ?_, ?_, ?_, ?_, ?_, ?_, trivial⟩
              all_goals
                intro x W L hI hL hV
                replace hI : (Below w5.heap.size w5 W) := ofI HIp hI
                rw [HV.out] at hV
                simp only [AllV, and_true] at hV
              · clear hV
                (try dsimp only)
                have HI := Lib.hid hI
                clear hI
                go_wp2_with fail
                refine step3_done rfl ?_ ?_ ?_
                · exact (toI HIp HI.out)
                · exact (Below.refl _ _)
                · exact (toV HV rfl)
              · have u0 := hV
                clear hV
                simp only [u0]
                clear u0
                have HI := Lib.hid hI
                clear hI
                go_wp2_with fail
                refine step3_done rfl ?_ ?_ ?_
                · exact (toI HIp HI.out)
                · exact (Below.refl _ _)
                · exact (toV HV rfl)
              · have u1 := hV
                clear hV
                simp only [u1]
                clear u1
                have HI := Lib.hid hI
                clear hI
                go_wp2_with fail
                refine step3_done rfl ?_ ?_ ?_
                · exact (toI HIp HI.out)
                · exact (Below.refl _ _)
                · exact (toV HV rfl)
              · have u2 := hV
                clear hV
                simp only [u2]
                clear u2
                have HI := Lib.hid hI
                clear hI
                go_wp2_with fail
                refine step3_done rfl ?_ ?_ ?_
                · exact (toI HIp HI.out)
                · exact (Below.refl _ _)
                · exact (toV HV rfl)
              · have u3 := hV
                clear hV
                simp only [u3]
                clear u3
                obtain ⟨k0, k1, k2, k3, k4, k5, k6, k7, k8, k9⟩ := blk10_cells (BX'.out.go hI)
                have HI := Lib.hid hI
                clear hI
                go_wp2_with fail
                refine step3_done rfl ?_ ?_ ?_
                · exact (toI HIp HI.out)
                · exact (Below.refl _ _)
                · exact (toV HV rfl)
              · clear hV
                (try dsimp only)
                have HI := Lib.hid hI
                clear hI
                go_wp2_with fail
                refine step3_done rfl ?_ ?_ ?_
                · exact (toI HIp HI.out)
                · exact (Below.refl _ _)
                · exact (toV HV rfl)
              · have u5 := hV
                clear hV
                simp only [u5]
                clear u5
                have HI := Lib.hid hI
                clear hI
                go_wp2_with fail
                refine step3_done rfl ?_ ?_ ?_
                · exact (toI HIp HI.out)
                · exact (Below.refl _ _)
                · exact (toV HV rfl)
              · have u6 := hV
                clear hV
                simp only [u6]
                clear u6
                have HI := Lib.hid hI
                clear hI
                go_wp2_with fail
                refine step3_done rfl ?_ ?_ ?_
                · exact (toI HIp HI.out)
                · exact (Below.refl _ _)
                · exact (toV HV rfl)
              · have u7 := hV
                clear hV
                simp only [u7]
                clear u7
                have HI := Lib.hid hI
                clear hI
                go_wp2_with fail
                refine step3_done rfl ?_ ?_ ?_
                · exact (toI HIp HI.out)
                · exact (Below.refl _ _)
                · exact (toV HV rfl)
              · have u8 := hV
                clear hV
                simp only [u8]
                clear u8
                obtain ⟨k0, k1, k2, k3, k4, k5, k6, k7, k8, k9⟩ := blk10_cells (BX'.out.go hI)
                have HI := Lib.hid hI
                clear hI
                go_wp2_with fail
                refine step3_done rfl ?_ ?_ ?_
                · exact (toI HIp HI.out)
                · exact (Below.refl _ _)
                · exact (toV HV rfl)
              · obtain ⟨u4, u9⟩ := hV
                simp only [u4, u9]
                clear u4 u9
                have HI := Lib.hid hI
                clear hI
                go_wp2_with fail
                refine step3_done rfl ?_ ?_ ?_
                · exact (toI HIp HI.out)
                · exact (Below.refl _ _)
                · exact (toV HV rfl)
              · have u10 := hV
                clear hV
                simp only [u10]
                clear u10
                have HI := Lib.hid hI
                clear hI
                go_wp2_with fail
                refine step3_done rfl ?_ ?_ ?_
                · exact (toI HIp HI.out)
                · exact (Below.refl _ _)
                · exact (toV HV rfl)
              · have u11 := hV
                clear hV
                simp only [u11]
                clear u11
                have HI := Lib.hid hI
                clear hI
                go_wp2_with fail
                refine step3_done rfl ?_ ?_ ?_
                · exact (toI HIp HI.out)
                · exact (Below.refl _ _)
                · exact (toV HV rfl)
              · obtain ⟨u11, u12⟩ := hV
                simp only [u11, u12]
                clear u11 u12
                have HI := Lib.hid hI
                clear hI
                go_wp2_with fail
                refine step3_done rfl ?_ ?_ ?_
                · exact (toI HIp HI.out)
                · exact (Below.refl _ _)
                · exact (toV HV rfl)
              · obtain ⟨u11, u13⟩ := hV
                simp only [u11, u13]
                clear u11 u13
                have HI := Lib.hid hI
                clear hI
                go_wp2_with fail
                refine step3_done rfl ?_ ?_ ?_
                · exact (toI HIp HI.out)
                · exact (Below.refl _ _)
                · exact (toV HV rfl)
              · obtain ⟨u11, u14⟩ := hV
                simp only [u11, u14]
                clear u11 u14
                have HI := Lib.hid hI
                clear hI
                go_wp2_with fail
                refine step3_done rfl ?_ ?_ ?_
                · exact (toI HIp HI.out)
                · exact (Below.refl _ _)
                · exact (toV HV rfl)
              · obtain ⟨u11, u15⟩ := hV
                simp only [u11, u15]
                clear u11 u15
                have HI := Lib.hid hI
                clear hI
                go_wp2_with fail
                refine step3_done rfl ?_ ?_ ?_
                · exact (toI HIp HI.out)
                · exact (Below.refl _ _)
                · exact (toV HV rfl)
              · obtain ⟨u11, u16⟩ := hV
                simp only [u11, u16]
                clear u11 u16
                obtain ⟨k0, k1, k2, k3, k4, k5, k6, k7, k8, k9⟩ := blk10_cells (BX'.out.go hI)
                have HI := Lib.hid hI
                clear hI
                go_wp2_with fail
                refine step3_done rfl ?_ ?_ ?_
                · exact (toI HIp HI.out)
                · exact (Below.refl _ _)
                · exact (toV HV rfl)
              · have u11 := hV
                clear hV
                simp only [u11]
                clear u11
                have HI := Lib.hid hI
                clear hI
                go_wp2_with fail
                refine step3_done rfl ?_ ?_ ?_
                · exact (toI HIp HI.out)
                · exact (Below.refl _ _)
                · exact (toV HV rfl)
              · obtain ⟨u11, u18⟩ := hV
                simp only [u11, u18]
                clear u11 u18
                have HI := Lib.hid hI
                clear hI
                go_wp2_with fail
                refine step3_done rfl ?_ ?_ ?_
                · exact (toI HIp HI.out)
                · exact (Below.refl _ _)
                · exact (toV HV rfl)
              · obtain ⟨u11, u19⟩ := hV
                simp only [u11, u19]
                clear u11 u19
                have HI := Lib.hid hI
                clear hI
                go_wp2_with fail
                refine step3_done rfl ?_ ?_ ?_
                · exact (toI HIp HI.out)
                · exact (Below.refl _ _)
                · exact (toV HV rfl)
              · obtain ⟨u11, u20⟩ := hV
                simp only [u11, u20]
                clear u11 u20
                have HI := Lib.hid hI
                clear hI
                go_wp2_with fail
                refine step3_done rfl ?_ ?_ ?_
                · exact (toI HIp HI.out)
                · exact (Below.refl _ _)
                · exact (toV HV rfl)
              · obtain ⟨u11, u21⟩ := hV
                simp only [u11, u21]
                clear u11 u21
                have HI := Lib.hid hI
                clear hI
                go_wp2_with fail
                refine step3_done rfl ?_ ?_ ?_
                · exact (toI HIp HI.out)
                · exact (Below.refl _ _)
                · exact (toV HV rfl)
              · obtain ⟨u11, u22⟩ := hV
                simp only [u11, u22]
                clear u11 u22
                obtain ⟨k0, k1, k2, k3, k4, k5, k6, k7, k8, k9⟩ := blk10_cells (BX'.out.go hI)
                have HI := Lib.hid hI
                clear hI
                go_wp2_with fail
                refine step3_done rfl ?_ ?_ ?_
                · exact (toI HIp HI.out)
                · exact (Below.refl _ _)
                · exact (toV HV rfl)
              · obtain ⟨u11, u17, u23⟩ := hV
                simp only [u11, u17, u23]
                clear u11 u17 u23
                have HI := Lib.hid hI
                clear hI
                go_wp2_with fail
                refine step3_done rfl ?_ ?_ ?_
                · exact (toI HIp HI.out)
                · exact (Below.refl _ _)
                · exact (toV HV rfl)
              · obtain ⟨u11, u24⟩ := hV
                simp only [u11, u24]
                clear u11 u24
                have HI := Lib.hid hI
                clear hI
                go_wp2_with fail
                refine step3_done rfl ?_ ?_ ?_
                · exact (toI HIp HI.out)
                · exact (Below.refl _ _)
                · exact (toV HV rfl)
              · have u25 := hV
                clear hV
                simp only [u25]
                clear u25
                have HI := Lib.hid hI
                clear hI
                go_wp2_with fail
                refine step3_done rfl ?_ ?_ ?_
                · exact (toI HIp HI.out)
                · exact (Below.refl _ _)
                · exact (toV HV rfl)
              · have u26 := hV
                clear hV
                simp only [u26]
                clear u26
                have HI := Lib.hid hI
                clear hI
                go_wp2_with fail
                refine step3_done rfl ?_ ?_ ?_
                · exact (toI HIp HI.out)
                · exact (Below.refl _ _)
                · exact (toV HV rfl)
              · obtain ⟨u26, u27⟩ := hV
                simp only [u26, u27]
                clear u26 u27
                have HI := Lib.hid hI
                clear hI
                go_wp2_with fail
                refine step3_done rfl ?_ ?_ ?_
                · exact (toI HIp HI.out)
                · exact (Below.refl _ _)
                · exact (toV HV rfl)
              · obtain ⟨u26, u28⟩ := hV
                simp only [u26, u28]
                clear u26 u28
                have HI := Lib.hid hI
                clear hI
                go_wp2_with fail
                refine step3_done rfl ?_ ?_ ?_
                · exact (toI HIp HI.out)
                · exact (Below.refl _ _)
                · exact (toV HV rfl)
              · obtain ⟨u26, u29⟩ := hV
                simp only [u26, u29]
                clear u26 u29
                have HI := Lib.hid hI
                clear hI
                go_wp2_with fail
                refine step3_done rfl ?_ ?_ ?_
                · exact (toI HIp HI.out)
                · exact (Below.refl _ _)
                · exact (toV HV rfl)
              · obtain ⟨u26, u30⟩ := hV
                simp only [u26, u30]
                clear u26 u30
                have HI := Lib.hid hI
                clear hI
                go_wp2_with fail
                refine step3_done rfl ?_ ?_ ?_
                · exact (toI HIp HI.out)
                · exact (Below.refl _ _)
                · exact (toV HV rfl)
              · obtain ⟨u26, u31⟩ := hV
                simp only [u26, u31]
                clear u26 u31
                obtain ⟨k0, k1, k2, k3, k4, k5, k6, k7, k8, k9⟩ := blk10_cells (BX'.out.go hI)
                have HI := Lib.hid hI
                clear hI
                go_wp2_with fail
                refine step3_done rfl ?_ ?_ ?_
                · exact (toI HIp HI.out)
                · exact (Below.refl _ _)
                · exact (toV HV rfl)
              · have u26 := hV
                clear hV
                simp only [u26]
                clear u26
                have HI := Lib.hid hI
                clear hI
                go_wp2_with fail
                refine step3_done rfl ?_ ?_ ?_
                · exact (toI HIp HI.out)
                · exact (Below.refl _ _)
                · exact (toV HV rfl)
              · obtain ⟨u26, u33⟩ := hV
                simp only [u26, u33]
                clear u26 u33
                have HI := Lib.hid hI
                clear hI
                go_wp2_with fail
                refine step3_done rfl ?_ ?_ ?_
                · exact (toI HIp HI.out)
                · exact (Below.refl _ _)
                · exact (toV HV rfl)
              · obtain ⟨u26, u34⟩ := hV
                simp only [u26, u34]
                clear u26 u34
                have HI := Lib.hid hI
                clear hI
                go_wp2_with fail
                refine step3_done rfl ?_ ?_ ?_
                · exact (toI HIp HI.out)
                · exact (Below.refl _ _)
                · exact (toV HV rfl)
              · obtain ⟨u26, u35⟩ := hV
                simp only [u26, u35]
                clear u26 u35
                have HI := Lib.hid hI
                clear hI
                go_wp2_with fail
                refine step3_done rfl ?_ ?_ ?_
                · exact (toI HIp HI.out)
                · exact (Below.refl _ _)
                · exact (toV HV rfl)
              · obtain ⟨u26, u36⟩ := hV
                simp only [u26, u36]
                clear u26 u36
                have HI := Lib.hid hI
                clear hI
                go_wp2_with fail
                refine step3_done rfl ?_ ?_ ?_
                · exact (toI HIp HI.out)
                · exact (Below.refl _ _)
                · exact (toV HV rfl)
              · obtain ⟨u26, u37⟩ := hV
                simp only [u26, u37]
                clear u26 u37
                obtain ⟨k0, k1, k2, k3, k4, k5, k6, k7, k8, k9⟩ := blk10_cells (BX'.out.go hI)
                have HI := Lib.hid hI
                clear hI
                go_wp2_with fail
                refine step3_done rfl ?_ ?_ ?_
                · exact (toI HIp HI.out)
                · exact (Below.refl _ _)
                · exact (toV HV rfl)
              · obtain ⟨u26, u32, u38⟩ := hV
                simp only [u26, u32, u38]
                clear u26 u32 u38
                have HI := Lib.hid hI
                clear hI
                go_wp2_with fail
                refine step3_done rfl ?_ ?_ ?_
                · exact (toI HIp HI.out)
                · exact (Below.refl _ _)
                · exact (toV HV rfl)
              · obtain ⟨u26, u39⟩ := hV
                simp only [u26, u39]
                clear u26 u39
                have HI := Lib.hid hI
                clear hI
                go_wp2_with fail
                refine step3_done rfl ?_ ?_ ?_
                · exact (toI HIp HI.out)
                · exact (Below.refl _ _)
                · exact (toV HV rfl)
              · have u40 := hV
                clear hV
                simp only [u40]
                clear u40
                have HI := Lib.hid hI
                clear hI
                go_wp2_with fail
                refine step3_done rfl ?_ ?_ ?_
                · exact (toI HIp HI.out)
                · exact (Below.refl _ _)
                · exact (toV HV rfl)
              · have u41 := hV
                clear hV
                simp only [u41]
                clear u41
                have HI := Lib.hid hI
                clear hI
                go_wp2_with fail
                refine step3_done rfl ?_ ?_ ?_
                · exact (toI HIp HI.out)
                · exact (Below.refl _ _)
                · exact (toV HV rfl)
              · obtain ⟨u41, u42⟩ := hV
                simp only [u41, u42]
                clear u41 u42
                have HI := Lib.hid hI
                clear hI
                go_wp2_with fail
                refine step3_done rfl ?_ ?_ ?_
                · exact (toI HIp HI.out)
                · exact (Below.refl _ _)
                · exact (toV HV rfl)
              · obtain ⟨u41, u43⟩ := hV
                simp only [u41, u43]
                clear u41 u43
                have HI := Lib.hid hI
                clear hI
                go_wp2_with fail
                refine step3_done rfl ?_ ?_ ?_
                · exact (toI HIp HI.out)
                · exact (Below.refl _ _)
                · exact (toV HV rfl)
              · obtain ⟨u41, u44⟩ := hV
                simp only [u41, u44]
                clear u41 u44
                have HI := Lib.hid hI
                clear hI
                go_wp2_with fail
                refine step3_done rfl ?_ ?_ ?_
                · exact (toI HIp HI.out)
                · exact (Below.refl _ _)
                · exact (toV HV rfl)
              · obtain ⟨u41, u45⟩ := hV
                simp only [u41, u45]
                clear u41 u45
                obtain ⟨k0, k1, k2, k3, k4, k5, k6, k7, k8, k9⟩ := blk10_cells (BX'.out.go hI)
                have HI := Lib.hid hI
                clear hI
                go_wp2_with fail
                refine step3_done rfl ?_ ?_ ?_
                · exact (toI HIp HI.out)
                · exact (Below.refl _ _)
                · exact (toV HV rfl)
              · obtain ⟨u41, u46⟩ := hV
                simp only [u41, u46]
                clear u41 u46
                have HI := Lib.hid hI
                clear hI
                go_wp2_with fail
                refine (HC1.out _ (Hg.out.below' (up B5'.out HI.out)) (RX'.out.go HI.out)).mono ?_
                rintro e W' ⟨rfl, hb⟩
                go_wp2_with fail
                refine step3_done rfl ?_ ?_ ?_
                · exact (toI HIp (up HI.out hb))
                · exact hb
                · exact (toV HV rfl)
              · obtain ⟨u41, u47⟩ := hV
                simp only [u41, u47]
                clear u41 u47
                have HI := Lib.hid hI
                clear hI
                go_wp2_with fail
                refine step3_done rfl ?_ ?_ ?_
                · exact (toI HIp HI.out)
                · exact (Below.refl _ _)
                · exact (toV HV rfl)
              · obtain ⟨u41, u48⟩ := hV
                simp only [u41, u48]
                clear u41 u48
                have HI := Lib.hid hI
                clear hI
                go_wp2_with fail
                refine step3_done rfl ?_ ?_ ?_
                · exact (toI HIp HI.out)
                · exact (Below.refl _ _)
                · exact (toV HV rfl)
              · have u49 := hV
                clear hV
                simp only [u49]
                clear u49
                have HI := Lib.hid hI
                clear hI
                go_wp2_with fail
                refine step3_done rfl ?_ ?_ ?_
                · exact (toI HIp HI.out)
                · exact (Below.refl _ _)
                · exact (toV HV rfl)
              · have u50 := hV
                clear hV
                simp only [u50]
                clear u50
                have HI := Lib.hid hI
                clear hI
                go_wp2_with fail
                refine step3_done rfl ?_ ?_ ?_
                · exact (toI HIp HI.out)
                · exact (Below.refl _ _)
                · exact (toV HV rfl)
              · obtain ⟨u50, u51⟩ := hV
                simp only [u50, u51]
                clear u50 u51
                have HI := Lib.hid hI
                clear hI
                go_wp2_with fail
                refine (HC2.out _ (Hg.out.below' (up B5'.out HI.out))).mono ?_
                rintro e W' ⟨rfl, hb⟩
                go_wp2_with fail
                refine step3_done rfl ?_ ?_ ?_
                · exact (toI HIp (up HI.out hb))
                · exact hb
                · exact (toV HV rfl)
              · obtain ⟨u50, u52⟩ := hV
                simp only [u50, u52]
                clear u50 u52
                have HI := Lib.hid hI
                clear hI
                go_wp2_with fail
                refine step3_done rfl ?_ ?_ ?_
                · exact (toI HIp HI.out)
                · exact (Below.refl _ _)
                · exact (toV HV rfl)
              · obtain ⟨u50, u53⟩ := hV
                simp only [u50, u53]
                clear u50 u53
                have HI := Lib.hid hI
                clear hI
                go_wp2_with fail
                refine step3_done rfl ?_ ?_ ?_
                · exact (toI HIp HI.out)
                · exact (Below.refl _ _)
                · exact (toV HV rfl)
              · have u54 := hV
                clear hV
                simp only [u54]
                clear u54
                have HI := Lib.hid hI
                clear hI
                go_wp2_with fail
                refine step3_done rfl ?_ ?_ ?_
                · exact (toI HIp HI.out)
                · exact (Below.refl _ _)
                · exact (toV HV rfl)
            case fin =>
              intro x W L hL hI hV
              replace hI : (Below w5.heap.size w5 W) := ofI HIp hI
              rw [HV.out] at hV
              simp only [AllV, and_true] at hV
              obtain ⟨u0, u1, u2, u3, u4, u5, u6, u7, u8, u9, u10, u11, u12, u13, u14, u15, u16, u17, u18, u19, u20, u21, u22, u23, u24, u25, u26, u27, u28, u29, u30, u31, u32, u33, u34, u35, u36, u37, u38, u39, u40, u41, u42, u43, u44, u45, u46, u47, u48, u49, u50, u51, u52, u53, u54, u55⟩ := hV
              simp only [getsD, List.getD_cons_succ, List.getD_cons_zero, List.length_cons, List.length_nil, List.range, List.range.loop, u0, u1, u2, u3, u4, u5, u6, u7, u8, u9, u10, u11, u12, u13, u14, u15, u16, u17, u18, u19, u20, u21, u22, u23, u24, u25, u26, u27, u28, u29, u30, u31, u32, u33, u34, u35, u36, u37, u38, u39, u40, u41, u42, u43, u44, u45, u46, u47, u48, u49, u50, u51, u52, u53, u54, u55, Act.put, List.setIfInBounds_toArray, List.set_cons_succ, List.set_cons_zero]
              clear u0 u1 u2 u3 u4 u5 u6 u7 u8 u9 u10 u11 u12 u13 u14 u15 u16 u17 u18 u19 u20 u21 u22 u23 u24 u25 u26 u27 u28 u29 u30 u31 u32 u33 u34 u35 u36 u37 u38 u39 u40 u41 u42 u43 u44 u45 u46 u47 u48 u49 u50 u51 u52 u53 u54 u55
              have HF := Lib.hid (up B5'.out hI)
              clear hI
              go_wp2_with fail
              go_ret
              exact ⟨rfl, HF.out⟩
end Go.Proofs.YtkhacogeffidoaaDoor
