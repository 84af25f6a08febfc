/- The walks of (*pair).hear where something is on the way (printed by gen_pair.py). -/
import Derived.Test.YtkhacogeffidoaaDoorFirst
set_option linter.unusedVariables false
set_option linter.unusedSimpArgs false
namespace Go.Proofs.YtkhacogeffidoaaDoor
open Go.RowKit

set_option maxRecDepth 100000 in
set_option maxHeartbeats 8000000 in
theorem pair_hear0 (base g : Nat) (x y : Sd) (vx vy : Value) (f : Fr) (F : List Fr) (w : World) (hg : Good w) (h : PairM base g x y vx vy w) (hf : y.f = f :: F) (hT : x.t.size ≤ 70368744177664) (hc : edgeCheck x.s x.h x.l = 0) (hE : ehE x.s x.h x.l f.op f.heard true = 0) (hA : applyE x.t (foldO true (ehD x.s x.l f.heard) f.op) = 0) :
    Calls Tryd.prog 38 #[.pointer (some ⟨g, 0, none⟩), .int .i64 0] w fun e w' => e = .returned (.bool true) ∧ (∃ v', PairM base g (Sd.mk (applyS x.t (foldO true (ehD x.s x.l f.heard) f.op)) x.s (x.h + 1) (foldL true (ehD x.s x.l f.heard) f.op) x.f) (Sd.mk y.t y.s y.h y.l F) vx v' w') ∧ Below base w w' := by
  obtain ⟨s0, s1, h0, h1, -, -⟩ := edgeCheck_all hc
  have HHr := Lib.hid (fun al cl fa fc W hg h1 h2 => eh_T x.s x.h x.l f.op f.heard true al fa x.l.length cl f.op.length fc W hg h1 h2 (by unfold I64; omega) (by unfold I64; omega) hE)
  have HAp := Lib.hid (fun oa on oc W hg hr => apply_any x.t (foldO true (ehD x.s x.l f.heard) f.op) oa on oc W hg hr hT)
  rw [hA] at HAp
  generalize hOPN : foldO true (ehD x.s x.l f.heard) f.op = opn at *
  generalize hLST : foldL true (ehD x.s x.l f.heard) f.op = lst at *
  generalize hTN : applyS x.t opn = Tn at *
  obtain ⟨xt, xs, xh, xl, xf⟩ := x
  obtain ⟨yt, ys, yh, yl, yf⟩ := y
  simp only at *
  subst hf
  have Hg := Lib.hid hg
  have HM := Lib.hid h
  have hgb := h.gb
  have hgw := h.lt
  obtain ⟨qa, qc, hqv, hqr⟩ := h.fy.rd (A := fun z => z < w.heap.size ∧ z ≠ g) (fun b hb hx => ⟨hb, fun e => hx (.inr (.inl e))⟩) (fun k hk => ⟨(h.fy.rowlt k hk).2, h.ny k hk⟩)
  obtain ⟨qg, qo, rfl, hqA, hqb, hqe⟩ := hqr.2.2.2.2 (by simp)
  obtain ⟨fcs, ⟨fa, fn, fc, rfl, hfr, -⟩, hfc⟩ := hqe 0 f rfl
  have hfn := hfr.1
  subst hfn
  have k1 : w.cell? ⟨qg, qo + 1, none⟩ = some (.int .i64 f.heard) := by have := hfc 1 _ rfl; simpa using this
  have k3 : w.cell? ⟨qg, qo + 3, none⟩ = some (.slice fa f.op.length fc) := by have := hfc 3 _ rfl; simpa using this
  have HFr := Lib.hid (hfr.wide fun z hz => hz.1)
  have hqc := hqr.2.1
  have hqm := hqr.2.2.1
  subst hqv
  simp only [List.length_cons] at hqc ⊢ HM
  have hqn : ((F.length + 1 : Nat) : Int) ≠ 0 := by omega
  obtain ⟨q2, qc2, hq2⟩ : ∃ q2 qc2 : Nat, (1 < qc ∧ q2 = qo + 5 ∧ qc2 = qc - 1) ∨ (qc = 1 ∧ F.length = 0 ∧ q2 = qo ∧ qc2 = 0) := by
    by_cases hq : 1 < qc
    · exact ⟨_, _, .inl ⟨hq, rfl, rfl⟩⟩
    · exact ⟨_, _, .inr ⟨by omega, by omega, rfl, rfl⟩⟩
  have HQ2 := Lib.hid hq2
  have hFl := Lib.hid (rfl : F.length = F.length)
  obtain ⟨nF, hnF⟩ : ∃ nF, nF = F.length := ⟨_, rfl⟩
  rw [← hnF] at hqc hqn HM HQ2
  have HnF := Lib.hid hnF
  clear hg h hT hc hE hA hqr hqe hfc hfr hq2 hnF
  have hqb0 : ((nF : Int) + 1 == 0) = false := by simp; omega
  have hnFi : (nF : Int) + 1 ≤ (qc : Int) := by omega
  have hqm2 : (qc : Int) ≤ 9223372036854775807 := by unfold maxLen at hqm; omega
  clear hqm
  obtain ⟨ax, cx, ay, cy, bx, rx, ry⟩ := HM.out.box
  have RM := Lib.hid (rx.mono fun z hz => ⟨hz.2.1, rfl⟩ : RdS (· < w.heap.size) w xl ax xl.length cx)
  obtain ⟨c0, c1, c2, c3, c4, c5, c6, c7, c8, c9⟩ := blk10_cells bx
  have BX := Lib.hid bx
  clear bx rx ry
  go_enter Tryd.func38, Tryd.ntmps38
  go_wp2_with fail
  clear c0 c1 c2 c3 c4 c5 c6 c7 c8 c9
  obtain ⟨Vp, HV⟩ : ∃ Vp : Nat → Value → World → Prop, Hid (Vp = fun i v W => match i with
      | 0 => v = .pointer (some ⟨g, 0, none⟩)
      | 1 => v = .int .i64 0
      | 2 => v = .pointer (some ⟨g, 0, none⟩)
      | 3 => v = .pointer (some ⟨g, 2, none⟩)
      | 4 => v = .pointer (some ⟨g, 2, none⟩)
      | 5 => v = .agg #[.int .i64 xs, .int .i64 xh, .slice ax xl.length cx]
      | 6 => v = .slice (some ⟨qg, qo, none⟩) (nF + 1) qc
      | 7 => v = .pointer (some ⟨qg, qo, none⟩)
      | 8 => v = .pointer (some ⟨qg, qo + 3, none⟩)
      | 9 => v = .slice fa f.op.length fc
      | 10 => v = .slice (some ⟨qg, qo, none⟩) (nF + 1) qc
      | 11 => v = .pointer (some ⟨qg, qo, none⟩)
      | 12 => v = .pointer (some ⟨qg, qo + 1, none⟩)
      | 13 => v = .int .i64 f.heard
      | 14 => v = .int .i64 0
      | 15 => v = .bool true
      | 16 => ∃ a c b d, v = .tuple #[.agg #[.int .i64 xs, .int .i64 (xh + 1), .slice a lst.length c], .slice b opn.length d, .int .i64 0] ∧ EdL w.heap.size lst a c W ∧ RdS (fun z => w.heap.size ≤ z ∧ z < W.heap.size) W opn b opn.length d
      | 17 => ∃ a c b d, v = .tuple #[.agg #[.int .i64 xs, .int .i64 (xh + 1), .slice a lst.length c], .slice b opn.length d, .int .i64 0] ∧ EdL w.heap.size lst a c W ∧ RdS (fun z => w.heap.size ≤ z ∧ z < W.heap.size) W opn b opn.length d
      | 18 => ∃ a c, v = .agg #[.int .i64 xs, .int .i64 (xh + 1), .slice a lst.length c] ∧ EdL w.heap.size lst a c W
      | 19 => ∃ b d, v = .slice b opn.length d ∧ RdS (fun z => w.heap.size ≤ z ∧ z < W.heap.size) W opn b opn.length d
      | 20 => v = .int .i64 0
      | 21 => ∃ gE, v = .pointer (some ⟨gE, 0, none⟩) ∧ w.heap.size ≤ gE ∧ Blk gE (.cells zeroEd 71 (0, 0)) W
      | 22 => v = undef
      | 23 => ∃ b d, v = .slice b opn.length d ∧ RdS (fun z => w.heap.size ≤ z ∧ z < W.heap.size) W opn b opn.length d
      | _ => v = .int .i64 0) := ⟨_, rfl⟩
  obtain ⟨Ip, HIp⟩ : ∃ Ip : (Nat → Bool) → (Nat → Value) → World → Prop, Hid (Ip = fun L x W => (Below w.heap.size w W ∧ (L 22 = true → ∃ gE a c, x 21 = .pointer (some ⟨gE, 0, none⟩) ∧ w.heap.size ≤ gE ∧ Blk gE (.cells #[.int .i64 xs, .int .i64 (xh + 1), .slice a lst.length c] 71 (0, 0)) W ∧ EdL w.heap.size lst a c W))) := ⟨_, rfl⟩
  refine region_lit3 (by kernel_rfl) (by kernel_rfl) (by kernel_rfl) [[], [], [0], [0, 2], [0, 1, 2, 3], [0, 1, 2, 3, 4], [], [6], [6, 7], [6, 7, 8], [], [10], [10, 11], [10, 11, 12], [], [14], [0, 1, 2, 3, 4, 5, 6, 7, 8, 9, 10, 11, 12, 13, 14, 15], [0, 1, 2, 3, 4, 5, 6, 7, 8, 9, 10, 11, 12, 13, 14, 15, 16], [0, 1, 2, 3, 4, 5, 6, 7, 8, 9, 10, 11, 12, 13, 14, 15, 16, 17], [0, 1, 2, 3, 4, 5, 6, 7, 8, 9, 10, 11, 12, 13, 14, 15, 16, 17], [0, 1, 2, 3, 4, 5, 6, 7, 8, 9, 10, 11, 12, 13, 14, 15, 16, 17], [], [0, 1, 2, 3, 4, 5, 6, 7, 8, 9, 10, 11, 12, 13, 14, 15, 16, 17, 18, 21], [0, 1, 2, 3, 4, 5, 6, 7, 8, 9, 10, 11, 12, 13, 14, 15, 16, 17, 19], [0, 1, 2, 3, 4, 5, 6, 7, 8, 9, 10, 11, 12, 13, 14, 15, 16, 17, 20]] (by kernel_rfl) [some 22, some 23, some 24, some 25, some 26, some 27, some 28, some 29, some 30, some 31, some 32, some 33, some 34, some 35, some 36, some 37, some 38, some 21, some 39, some 40, some 41, some 6, none, some 7, some 8] (by kernel_rfl) [[0, 2, 3, 4, 5, 16, 17, 18, 19, 20, 22, 23, 24], [1, 4, 5, 16, 17, 18, 19, 20, 22, 23, 24], [2, 3, 4, 5, 16, 17, 18, 19, 20, 22, 23, 24], [3, 4, 5, 16, 17, 18, 19, 20, 22, 23, 24], [4, 5, 16, 17, 18, 19, 20, 22, 23, 24], [5, 16, 17, 18, 19, 20, 22, 23, 24], [6, 7, 8, 9, 16, 17, 18, 19, 20, 22, 23, 24], [7, 8, 9, 16, 17, 18, 19, 20, 22, 23, 24], [8, 9, 16, 17, 18, 19, 20, 22, 23, 24], [9, 16, 17, 18, 19, 20, 22, 23, 24], [10, 11, 12, 13, 16, 17, 18, 19, 20, 22, 23, 24], [11, 12, 13, 16, 17, 18, 19, 20, 22, 23, 24], [12, 13, 16, 17, 18, 19, 20, 22, 23, 24], [13, 16, 17, 18, 19, 20, 22, 23, 24], [14, 15, 16, 17, 18, 19, 20, 22, 23, 24], [15, 16, 17, 18, 19, 20, 22, 23, 24], [16, 17, 18, 19, 20, 22, 23, 24], [17, 18, 19, 20, 22, 23, 24], [18, 22], [19, 23], [20, 24], [21, 22], [22], [23], [24]] (by kernel_rfl) [[], [], [], [], [], [], [], [], [], [], [], [], [], [], [], [], [], [], [22], [], [], [22], [], [], []] [[], [], [0], [2], [1, 3], [4], [], [6], [7], [8], [], [10], [11], [12], [], [14], [5, 9, 13, 15], [16], [17], [17], [17], [], [18, 21], [19], [20]] (by kernel_rfl)
    Ip
    Vp
    (fun j W W' => match j with
      | 22 => ∃ gE, Blk gE (.cells zeroEd 71 (0, 0)) W ∧ Touch (fun z => z = gE) W W' ∧ w.heap.size ≤ gE
      | _ => Below W.heap.size W W')
    [fun x => ⟨#[.pointer (some ⟨g, 0, none⟩), undef, undef, undef, undef, undef, undef, undef, undef, undef, undef, undef, undef, undef, undef, undef, undef, undef, undef, undef, undef, undef, undef], []⟩,
   fun x => ⟨#[undef, .int .i64 0, undef, undef, undef, undef, undef, undef, undef, undef, undef, undef, undef, undef, undef, undef, undef, undef, undef, undef, undef, undef, undef, undef], []⟩,
   fun x => ⟨#[undef, undef, undef, undef, undef, undef, undef, undef, undef, undef, undef, undef, undef, undef, undef, undef, undef, undef, undef, undef, undef, undef, x 0, undef, undef], []⟩,
   fun x => ⟨#[undef, undef, undef, undef, undef, undef, undef, undef, undef, undef, undef, undef, undef, undef, undef, undef, undef, undef, undef, undef, undef, undef, undef, undef, x 2, undef], []⟩,
   fun x => ⟨#[undef, undef, undef, undef, undef, undef, undef, undef, undef, undef, undef, undef, undef, undef, undef, undef, undef, undef, undef, undef, undef, undef, undef, x 1, undef, x 3, undef], []⟩,
   fun x => ⟨#[undef, undef, undef, undef, undef, undef, undef, undef, undef, undef, undef, undef, undef, undef, undef, undef, undef, undef, undef, undef, undef, undef, undef, undef, undef, undef, x 4, undef], []⟩,
   fun x => ⟨#[undef, undef, undef, undef, undef, .slice (some ⟨qg, qo, none⟩) (nF + 1) qc, undef, undef, undef, undef, undef, undef, undef, undef, undef, undef, undef, undef, undef, undef, undef, undef, undef, undef, undef, undef, undef, undef, undef], []⟩,
   fun x => ⟨#[undef, undef, undef, undef, undef, undef, undef, undef, undef, undef, undef, undef, undef, undef, undef, undef, undef, undef, undef, undef, undef, undef, undef, undef, undef, undef, undef, undef, x 6, undef], []⟩,
   fun x => ⟨#[undef, undef, undef, undef, undef, undef, undef, undef, undef, undef, undef, undef, undef, undef, undef, undef, undef, undef, undef, undef, undef, undef, undef, undef, undef, undef, undef, undef, undef, x 7, undef], []⟩,
   fun x => ⟨#[undef, undef, undef, undef, undef, undef, undef, undef, undef, undef, undef, undef, undef, undef, undef, undef, undef, undef, undef, undef, undef, undef, undef, undef, undef, undef, undef, undef, undef, undef, x 8, undef], []⟩,
   fun x => ⟨#[undef, undef, undef, undef, undef, .slice (some ⟨qg, qo, none⟩) (nF + 1) qc, undef, undef, undef, undef, undef, undef, undef, undef, undef, undef, undef, undef, undef, undef, undef, undef, undef, undef, undef, undef, undef, undef, undef, undef, undef, undef, undef], []⟩,
   fun x => ⟨#[undef, undef, undef, undef, undef, undef, undef, undef, undef, undef, undef, undef, undef, undef, undef, undef, undef, undef, undef, undef, undef, undef, undef, undef, undef, undef, undef, undef, undef, undef, undef, undef, x 10, undef], []⟩,
   fun x => ⟨#[undef, undef, undef, undef, undef, undef, undef, undef, undef, undef, undef, undef, undef, undef, undef, undef, undef, undef, undef, undef, undef, undef, undef, undef, undef, undef, undef, undef, undef, undef, undef, undef, undef, x 11, undef], []⟩,
   fun x => ⟨#[undef, undef, undef, undef, undef, undef, undef, undef, undef, undef, undef, undef, undef, undef, undef, undef, undef, undef, undef, undef, undef, undef, undef, undef, undef, undef, undef, undef, undef, undef, undef, undef, undef, undef, x 12, undef], []⟩,
   fun x => ⟨#[undef, .int .i64 0, undef, undef, undef, undef, undef, undef, undef, undef, undef, undef, undef, undef, undef, undef, undef, undef, undef, undef, undef, undef, undef, undef, undef, undef, undef, undef, undef, undef, undef, undef, undef, undef, undef, undef, undef], []⟩,
   fun x => ⟨#[undef, undef, undef, undef, undef, undef, undef, undef, undef, undef, undef, undef, undef, undef, undef, undef, undef, undef, undef, undef, undef, undef, undef, undef, undef, undef, undef, undef, undef, undef, undef, undef, undef, undef, undef, undef, x 14, undef], []⟩,
   fun x => ⟨#[undef, undef, undef, undef, undef, undef, undef, undef, undef, undef, undef, undef, undef, undef, undef, undef, undef, undef, undef, undef, undef, undef, undef, undef, undef, undef, undef, x 5, undef, undef, undef, x 9, undef, undef, undef, x 13, undef, x 15, undef], []⟩,
   fun x => ⟨#[undef, undef, undef, undef, undef, undef, undef, undef, undef, undef, undef, undef, undef, undef, undef, undef, undef, undef, undef, undef, undef, undef, undef, undef, undef, undef, undef, undef, undef, undef, undef, undef, undef, undef, undef, undef, undef, undef, x 16], []⟩,
   fun x => ⟨#[undef, undef, undef, undef, undef, undef, undef, undef, undef, undef, undef, undef, undef, undef, undef, undef, undef, undef, undef, undef, undef, x 17, undef, undef, undef, undef, undef, undef, undef, undef, undef, undef, undef, undef, undef, undef, undef, undef, undef, undef], []⟩,
   fun x => ⟨#[undef, undef, undef, undef, undef, undef, undef, undef, undef, undef, undef, undef, undef, undef, undef, undef, undef, undef, undef, undef, undef, x 17, undef, undef, undef, undef, undef, undef, undef, undef, undef, undef, undef, undef, undef, undef, undef, undef, undef, undef, undef], []⟩,
   fun x => ⟨#[undef, undef, undef, undef, undef, undef, undef, undef, undef, undef, undef, undef, undef, undef, undef, undef, undef, undef, undef, undef, undef, x 17, undef, undef, undef, undef, undef, undef, undef, undef, undef, undef, undef, undef, undef, undef, undef, undef, undef, undef, undef, undef], []⟩,
   fun x => ⟨#[undef, undef, undef, undef, undef, undef, undef], []⟩,
   fun x => ⟨#[undef, undef, undef, undef, undef, undef, x 21, undef, undef, undef, undef, undef, undef, undef, undef, undef, undef, undef, undef, undef, undef, undef, undef, undef, undef, undef, undef, undef, undef, undef, undef, undef, undef, undef, undef, undef, undef, undef, undef, x 18], []⟩,
   fun x => ⟨#[undef, undef, undef, undef, undef, undef, undef, undef, undef, undef, undef, undef, undef, undef, undef, undef, undef, undef, undef, undef, undef, undef, undef, undef, undef, undef, undef, undef, undef, undef, undef, undef, undef, undef, undef, undef, undef, undef, undef, undef, x 19], []⟩,
   fun x => ⟨#[undef, undef, undef, undef, undef, undef, undef, undef, undef, undef, undef, undef, undef, undef, undef, undef, undef, undef, undef, undef, undef, undef, undef, undef, undef, undef, undef, undef, undef, undef, undef, undef, undef, undef, undef, undef, undef, undef, undef, undef, undef, x 20], []⟩]
    ?hF ?mono ?h0 ?step [0, 1, 2, 3, 4, 5, 6, 7, 8, 9, 10, 11, 12, 13, 14, 15, 16, 17, 19, 20, 22, 23, 24] (by kernel_rfl) ?fin
  case hF =>
    exact ⟨fun x => ⟨by kernel_rfl, by kernel_rfl⟩, fun x => ⟨by kernel_rfl, by kernel_rfl⟩, fun x => ⟨by kernel_rfl, by kernel_rfl⟩, fun x => ⟨by kernel_rfl, by kernel_rfl⟩, fun x => ⟨by kernel_rfl, by kernel_rfl⟩, fun x => ⟨by kernel_rfl, by kernel_rfl⟩, fun x => ⟨by kernel_rfl, by kernel_rfl⟩, fun x => ⟨by kernel_rfl, by kernel_rfl⟩, fun x => ⟨by kernel_rfl, by kernel_rfl⟩, fun x => ⟨by kernel_rfl, by kernel_rfl⟩, fun x => ⟨by kernel_rfl, by kernel_rfl⟩, fun x => ⟨by kernel_rfl, by kernel_rfl⟩, fun x => ⟨by kernel_rfl, by kernel_rfl⟩, fun x => ⟨by kernel_rfl, by kernel_rfl⟩, fun x => ⟨by kernel_rfl, by kernel_rfl⟩, fun x => ⟨by kernel_rfl, by kernel_rfl⟩, fun x => ⟨by kernel_rfl, by kernel_rfl⟩, fun x => ⟨by kernel_rfl, by kernel_rfl⟩, fun x => ⟨by kernel_rfl, by kernel_rfl⟩, fun x => ⟨by kernel_rfl, by kernel_rfl⟩, fun x => ⟨by kernel_rfl, by kernel_rfl⟩, fun x => ⟨by kernel_rfl, by kernel_rfl⟩, fun x => ⟨by kernel_rfl, by kernel_rfl⟩, fun x => ⟨by kernel_rfl, by kernel_rfl⟩, fun x => ⟨by kernel_rfl, by kernel_rfl⟩, trivial⟩
  case mono =>
    intro i j hi hj hne hna hnk v W W' hE hv
    rw [HV.out] at hv ⊢
    simp only [List.length_cons, List.length_nil] at hi hj
    match i, hi with
    | 0, _ | 1, _ | 2, _ | 3, _ | 4, _ | 5, _ | 6, _ | 7, _ | 8, _ | 9, _ | 10, _ | 11, _ | 12, _ | 13, _ | 14, _ | 15, _ | 20, _ | 22, _ | 24, _ => exact hv
    | 16, _ =>
      match j, hj with
      | 16, _ => exact absurd rfl hne
      | 0, _ => exact absurd (by simp) hna
      | 1, _ => exact absurd (by simp) hna
      | 2, _ => exact absurd (by simp) hna
      | 3, _ => exact absurd (by simp) hna
      | 4, _ => exact absurd (by simp) hna
      | 5, _ => exact absurd (by simp) hna
      | 6, _ => exact absurd (by simp) hna
      | 7, _ => exact absurd (by simp) hna
      | 8, _ => exact absurd (by simp) hna
      | 9, _ => exact absurd (by simp) hna
      | 10, _ => exact absurd (by simp) hna
      | 11, _ => exact absurd (by simp) hna
      | 12, _ => exact absurd (by simp) hna
      | 13, _ => exact absurd (by simp) hna
      | 14, _ => exact absurd (by simp) hna
      | 15, _ => exact absurd (by simp) hna
      | 17, _ => exact (by obtain ⟨a, c, b, d, e, h1, h2⟩ := hv; exact ⟨a, c, b, d, e, h1.go hE, h2.freshB hE⟩)
      | 18, _ => exact (by obtain ⟨a, c, b, d, e, h1, h2⟩ := hv; exact ⟨a, c, b, d, e, h1.go hE, h2.freshB hE⟩)
      | 19, _ => exact (by obtain ⟨a, c, b, d, e, h1, h2⟩ := hv; exact ⟨a, c, b, d, e, h1.go hE, h2.freshB hE⟩)
      | 20, _ => exact (by obtain ⟨a, c, b, d, e, h1, h2⟩ := hv; exact ⟨a, c, b, d, e, h1.go hE, h2.freshB hE⟩)
      | 21, _ => exact (by obtain ⟨a, c, b, d, e, h1, h2⟩ := hv; exact ⟨a, c, b, d, e, h1.go hE, h2.freshB hE⟩)
      | 22, _ => exact (by obtain ⟨a, c, b, d, e, h1, h2⟩ := hv; obtain ⟨gE, hz, ht, -⟩ := hE; exact ⟨a, c, b, d, e, h1.offE hz ht, h2.offEf hz ht⟩)
      | 23, _ => exact (by obtain ⟨a, c, b, d, e, h1, h2⟩ := hv; exact ⟨a, c, b, d, e, h1.go hE, h2.freshB hE⟩)
      | 24, _ => exact (by obtain ⟨a, c, b, d, e, h1, h2⟩ := hv; exact ⟨a, c, b, d, e, h1.go hE, h2.freshB hE⟩)
      | m + 25, h => exact absurd h (by omega)
    | 17, _ =>
      match j, hj with
      | 17, _ => exact absurd rfl hne
      | 0, _ => exact absurd (by simp) hna
      | 1, _ => exact absurd (by simp) hna
      | 2, _ => exact absurd (by simp) hna
      | 3, _ => exact absurd (by simp) hna
      | 4, _ => exact absurd (by simp) hna
      | 5, _ => exact absurd (by simp) hna
      | 6, _ => exact absurd (by simp) hna
      | 7, _ => exact absurd (by simp) hna
      | 8, _ => exact absurd (by simp) hna
      | 9, _ => exact absurd (by simp) hna
      | 10, _ => exact absurd (by simp) hna
      | 11, _ => exact absurd (by simp) hna
      | 12, _ => exact absurd (by simp) hna
      | 13, _ => exact absurd (by simp) hna
      | 14, _ => exact absurd (by simp) hna
      | 15, _ => exact absurd (by simp) hna
      | 16, _ => exact absurd (by simp) hna
      | 18, _ => exact (by obtain ⟨a, c, b, d, e, h1, h2⟩ := hv; exact ⟨a, c, b, d, e, h1.go hE, h2.freshB hE⟩)
      | 19, _ => exact (by obtain ⟨a, c, b, d, e, h1, h2⟩ := hv; exact ⟨a, c, b, d, e, h1.go hE, h2.freshB hE⟩)
      | 20, _ => exact (by obtain ⟨a, c, b, d, e, h1, h2⟩ := hv; exact ⟨a, c, b, d, e, h1.go hE, h2.freshB hE⟩)
      | 21, _ => exact (by obtain ⟨a, c, b, d, e, h1, h2⟩ := hv; exact ⟨a, c, b, d, e, h1.go hE, h2.freshB hE⟩)
      | 22, _ => exact (by obtain ⟨a, c, b, d, e, h1, h2⟩ := hv; obtain ⟨gE, hz, ht, -⟩ := hE; exact ⟨a, c, b, d, e, h1.offE hz ht, h2.offEf hz ht⟩)
      | 23, _ => exact (by obtain ⟨a, c, b, d, e, h1, h2⟩ := hv; exact ⟨a, c, b, d, e, h1.go hE, h2.freshB hE⟩)
      | 24, _ => exact (by obtain ⟨a, c, b, d, e, h1, h2⟩ := hv; exact ⟨a, c, b, d, e, h1.go hE, h2.freshB hE⟩)
      | m + 25, h => exact absurd h (by omega)
    | 18, _ =>
      match j, hj with
      | 18, _ => exact absurd rfl hne
      | 0, _ => exact absurd (by simp) hna
      | 1, _ => exact absurd (by simp) hna
      | 2, _ => exact absurd (by simp) hna
      | 3, _ => exact absurd (by simp) hna
      | 4, _ => exact absurd (by simp) hna
      | 5, _ => exact absurd (by simp) hna
      | 6, _ => exact absurd (by simp) hna
      | 7, _ => exact absurd (by simp) hna
      | 8, _ => exact absurd (by simp) hna
      | 9, _ => exact absurd (by simp) hna
      | 10, _ => exact absurd (by simp) hna
      | 11, _ => exact absurd (by simp) hna
      | 12, _ => exact absurd (by simp) hna
      | 13, _ => exact absurd (by simp) hna
      | 14, _ => exact absurd (by simp) hna
      | 15, _ => exact absurd (by simp) hna
      | 16, _ => exact absurd (by simp) hna
      | 17, _ => exact absurd (by simp) hna
      | 22, _ => exact absurd (by simp) hnk
      | 19, _ => exact (by obtain ⟨a, c, e, h1⟩ := hv; exact ⟨a, c, e, h1.go hE⟩)
      | 20, _ => exact (by obtain ⟨a, c, e, h1⟩ := hv; exact ⟨a, c, e, h1.go hE⟩)
      | 21, _ => exact (by obtain ⟨a, c, e, h1⟩ := hv; exact ⟨a, c, e, h1.go hE⟩)
      | 23, _ => exact (by obtain ⟨a, c, e, h1⟩ := hv; exact ⟨a, c, e, h1.go hE⟩)
      | 24, _ => exact (by obtain ⟨a, c, e, h1⟩ := hv; exact ⟨a, c, e, h1.go hE⟩)
      | m + 25, h => exact absurd h (by omega)
    | 19, _ =>
      match j, hj with
      | 19, _ => exact absurd rfl hne
      | 0, _ => exact absurd (by simp) hna
      | 1, _ => exact absurd (by simp) hna
      | 2, _ => exact absurd (by simp) hna
      | 3, _ => exact absurd (by simp) hna
      | 4, _ => exact absurd (by simp) hna
      | 5, _ => exact absurd (by simp) hna
      | 6, _ => exact absurd (by simp) hna
      | 7, _ => exact absurd (by simp) hna
      | 8, _ => exact absurd (by simp) hna
      | 9, _ => exact absurd (by simp) hna
      | 10, _ => exact absurd (by simp) hna
      | 11, _ => exact absurd (by simp) hna
      | 12, _ => exact absurd (by simp) hna
      | 13, _ => exact absurd (by simp) hna
      | 14, _ => exact absurd (by simp) hna
      | 15, _ => exact absurd (by simp) hna
      | 16, _ => exact absurd (by simp) hna
      | 17, _ => exact absurd (by simp) hna
      | 18, _ => exact (by obtain ⟨b, d, e, h2⟩ := hv; exact ⟨b, d, e, h2.freshB hE⟩)
      | 20, _ => exact (by obtain ⟨b, d, e, h2⟩ := hv; exact ⟨b, d, e, h2.freshB hE⟩)
      | 21, _ => exact (by obtain ⟨b, d, e, h2⟩ := hv; exact ⟨b, d, e, h2.freshB hE⟩)
      | 22, _ => exact (by obtain ⟨b, d, e, h2⟩ := hv; obtain ⟨gE, hz, ht, -⟩ := hE; exact ⟨b, d, e, h2.offEf hz ht⟩)
      | 23, _ => exact (by obtain ⟨b, d, e, h2⟩ := hv; exact ⟨b, d, e, h2.freshB hE⟩)
      | 24, _ => exact (by obtain ⟨b, d, e, h2⟩ := hv; exact ⟨b, d, e, h2.freshB hE⟩)
      | m + 25, h => exact absurd h (by omega)
    | 21, _ =>
      match j, hj with
      | 21, _ => exact absurd rfl hne
      | 22, _ => exact absurd (by simp) hnk
      | 0, _ => exact (by obtain ⟨gE, h1, h2, h3⟩ := hv; exact ⟨gE, h1, h2, h3.go hE⟩)
      | 1, _ => exact (by obtain ⟨gE, h1, h2, h3⟩ := hv; exact ⟨gE, h1, h2, h3.go hE⟩)
      | 2, _ => exact (by obtain ⟨gE, h1, h2, h3⟩ := hv; exact ⟨gE, h1, h2, h3.go hE⟩)
      | 3, _ => exact (by obtain ⟨gE, h1, h2, h3⟩ := hv; exact ⟨gE, h1, h2, h3.go hE⟩)
      | 4, _ => exact (by obtain ⟨gE, h1, h2, h3⟩ := hv; exact ⟨gE, h1, h2, h3.go hE⟩)
      | 5, _ => exact (by obtain ⟨gE, h1, h2, h3⟩ := hv; exact ⟨gE, h1, h2, h3.go hE⟩)
      | 6, _ => exact (by obtain ⟨gE, h1, h2, h3⟩ := hv; exact ⟨gE, h1, h2, h3.go hE⟩)
      | 7, _ => exact (by obtain ⟨gE, h1, h2, h3⟩ := hv; exact ⟨gE, h1, h2, h3.go hE⟩)
      | 8, _ => exact (by obtain ⟨gE, h1, h2, h3⟩ := hv; exact ⟨gE, h1, h2, h3.go hE⟩)
      | 9, _ => exact (by obtain ⟨gE, h1, h2, h3⟩ := hv; exact ⟨gE, h1, h2, h3.go hE⟩)
      | 10, _ => exact (by obtain ⟨gE, h1, h2, h3⟩ := hv; exact ⟨gE, h1, h2, h3.go hE⟩)
      | 11, _ => exact (by obtain ⟨gE, h1, h2, h3⟩ := hv; exact ⟨gE, h1, h2, h3.go hE⟩)
      | 12, _ => exact (by obtain ⟨gE, h1, h2, h3⟩ := hv; exact ⟨gE, h1, h2, h3.go hE⟩)
      | 13, _ => exact (by obtain ⟨gE, h1, h2, h3⟩ := hv; exact ⟨gE, h1, h2, h3.go hE⟩)
      | 14, _ => exact (by obtain ⟨gE, h1, h2, h3⟩ := hv; exact ⟨gE, h1, h2, h3.go hE⟩)
      | 15, _ => exact (by obtain ⟨gE, h1, h2, h3⟩ := hv; exact ⟨gE, h1, h2, h3.go hE⟩)
      | 16, _ => exact (by obtain ⟨gE, h1, h2, h3⟩ := hv; exact ⟨gE, h1, h2, h3.go hE⟩)
      | 17, _ => exact (by obtain ⟨gE, h1, h2, h3⟩ := hv; exact ⟨gE, h1, h2, h3.go hE⟩)
      | 18, _ => exact (by obtain ⟨gE, h1, h2, h3⟩ := hv; exact ⟨gE, h1, h2, h3.go hE⟩)
      | 19, _ => exact (by obtain ⟨gE, h1, h2, h3⟩ := hv; exact ⟨gE, h1, h2, h3.go hE⟩)
      | 20, _ => exact (by obtain ⟨gE, h1, h2, h3⟩ := hv; exact ⟨gE, h1, h2, h3.go hE⟩)
      | 23, _ => exact (by obtain ⟨gE, h1, h2, h3⟩ := hv; exact ⟨gE, h1, h2, h3.go hE⟩)
      | 24, _ => exact (by obtain ⟨gE, h1, h2, h3⟩ := hv; exact ⟨gE, h1, h2, h3.go hE⟩)
      | m + 25, h => exact absurd h (by omega)
    | 23, _ =>
      match j, hj with
      | 23, _ => exact absurd rfl hne
      | 0, _ => exact absurd (by simp) hna
      | 1, _ => exact absurd (by simp) hna
      | 2, _ => exact absurd (by simp) hna
      | 3, _ => exact absurd (by simp) hna
      | 4, _ => exact absurd (by simp) hna
      | 5, _ => exact absurd (by simp) hna
      | 6, _ => exact absurd (by simp) hna
      | 7, _ => exact absurd (by simp) hna
      | 8, _ => exact absurd (by simp) hna
      | 9, _ => exact absurd (by simp) hna
      | 10, _ => exact absurd (by simp) hna
      | 11, _ => exact absurd (by simp) hna
      | 12, _ => exact absurd (by simp) hna
      | 13, _ => exact absurd (by simp) hna
      | 14, _ => exact absurd (by simp) hna
      | 15, _ => exact absurd (by simp) hna
      | 16, _ => exact absurd (by simp) hna
      | 17, _ => exact absurd (by simp) hna
      | 19, _ => exact absurd (by simp) hna
      | 18, _ => exact (by obtain ⟨b, d, e, h2⟩ := hv; exact ⟨b, d, e, h2.freshB hE⟩)
      | 20, _ => exact (by obtain ⟨b, d, e, h2⟩ := hv; exact ⟨b, d, e, h2.freshB hE⟩)
      | 21, _ => exact (by obtain ⟨b, d, e, h2⟩ := hv; exact ⟨b, d, e, h2.freshB hE⟩)
      | 22, _ => exact (by obtain ⟨b, d, e, h2⟩ := hv; obtain ⟨gE, hz, ht, -⟩ := hE; exact ⟨b, d, e, h2.offEf hz ht⟩)
      | 24, _ => exact (by obtain ⟨b, d, e, h2⟩ := hv; exact ⟨b, d, e, h2.freshB hE⟩)
      | m + 25, h => exact absurd h (by omega)
    | m + 25, h => exact absurd h (by omega)
  case h0 => intro x; exact toI HIp ⟨(Below.refl _ _).drew, (fun h => by cases h)⟩
  case step =>
    refine ⟨?_, ?_, ?_, ?_, ?_, ?_, ?_, ?_, ?_, ?_, ?_, ?_, ?_, ?_, ?_, ?_, ?_, ?_, ?_, ?_, ?_, ?_, ?_, ?_, ?_, trivial⟩
    all_goals
      intro x W L hI hL hV
      replace hI : (Below w.heap.size w W ∧ (L 22 = true → ∃ gE a c, x 21 = .pointer (some ⟨gE, 0, none⟩) ∧ w.heap.size ≤ gE ∧ Blk gE (.cells #[.int .i64 xs, .int .i64 (xh + 1), .slice a lst.length c] 71 (0, 0)) W ∧ EdL w.heap.size lst a c W)) := ofI HIp hI
      rw [HV.out] at hV
      simp only [AllV, and_true] at hV
    · clear hV
      (try dsimp only)
      have HI := Lib.hid hI
      clear hI
      go_wp2_with fail
      refine step3_done rfl ?_ ?_ ?_
      · exact (toI HIp HI.out)
      · exact (Below.refl _ _)
      · exact (toV HV rfl)
    · clear hV
      (try dsimp only)
      have HI := Lib.hid hI
      clear hI
      go_wp2_with fail
      refine step3_done rfl ?_ ?_ ?_
      · exact (toI HIp HI.out)
      · exact (Below.refl _ _)
      · exact (toV HV rfl)
    · have u0 := hV
      clear hV
      simp only [u0]
      clear u0
      have HI := Lib.hid hI
      clear hI
      go_wp2_with fail
      refine step3_done rfl ?_ ?_ ?_
      · exact (toI HIp HI.out)
      · exact (Below.refl _ _)
      · exact (toV HV rfl)
    · have u2 := hV
      clear hV
      simp only [u2]
      clear u2
      have HI := Lib.hid hI
      clear hI
      go_wp2_with fail
      refine step3_done rfl ?_ ?_ ?_
      · exact (toI HIp HI.out)
      · exact (Below.refl _ _)
      · exact (toV HV rfl)
    · obtain ⟨u1, u3⟩ := hV
      simp only [u1, u3]
      clear u1 u3
      have HI := Lib.hid hI
      clear hI
      go_wp2_with fail
      refine step3_done rfl ?_ ?_ ?_
      · exact (toI HIp HI.out)
      · exact (Below.refl _ _)
      · exact (toV HV rfl)
    · have u4 := hV
      clear hV
      simp only [u4]
      clear u4
      obtain ⟨q0, q1, q2', q3, q4, q5, q6, q7, q8, q9⟩ := blk10_cells (BX.out.go hI.1)
      have HI := Lib.hid hI
      clear hI
      go_wp2_with fail
      refine step3_done rfl ?_ ?_ ?_
      · exact (toI HIp HI.out)
      · exact (Below.refl _ _)
      · exact (toV HV rfl)
    · clear hV
      (try dsimp only)
      have HI := Lib.hid hI
      clear hI
      go_wp2_with fail
      refine step3_done rfl ?_ ?_ ?_
      · exact (toI HIp HI.out)
      · exact (Below.refl _ _)
      · exact (toV HV rfl)
    · have u6 := hV
      clear hV
      simp only [u6]
      clear u6
      have HI := Lib.hid hI
      clear hI
      go_wp2_with fail
      refine step3_done rfl ?_ ?_ ?_
      · exact (toI HIp HI.out)
      · exact (Below.refl _ _)
      · exact (toV HV rfl)
    · have u7 := hV
      clear hV
      simp only [u7]
      clear u7
      have HI := Lib.hid hI
      clear hI
      go_wp2_with fail
      refine step3_done rfl ?_ ?_ ?_
      · exact (toI HIp HI.out)
      · exact (Below.refl _ _)
      · exact (toV HV rfl)
    · have u8 := hV
      clear hV
      simp only [u8]
      clear u8
      have kk := (hI.1.cell (p := ⟨qg, qo + 3, none⟩) hqb).trans k3
      have HI := Lib.hid hI
      clear hI
      go_wp2_with fail
      refine step3_done rfl ?_ ?_ ?_
      · exact (toI HIp HI.out)
      · exact (Below.refl _ _)
      · exact (toV HV rfl)
    · clear hV
      (try dsimp only)
      have HI := Lib.hid hI
      clear hI
      go_wp2_with fail
      refine step3_done rfl ?_ ?_ ?_
      · exact (toI HIp HI.out)
      · exact (Below.refl _ _)
      · exact (toV HV rfl)
    · have u10 := hV
      clear hV
      simp only [u10]
      clear u10
      have HI := Lib.hid hI
      clear hI
      go_wp2_with fail
      refine step3_done rfl ?_ ?_ ?_
      · exact (toI HIp HI.out)
      · exact (Below.refl _ _)
      · exact (toV HV rfl)
    · have u11 := hV
      clear hV
      simp only [u11]
      clear u11
      have HI := Lib.hid hI
      clear hI
      go_wp2_with fail
      refine step3_done rfl ?_ ?_ ?_
      · exact (toI HIp HI.out)
      · exact (Below.refl _ _)
      · exact (toV HV rfl)
    · have u12 := hV
      clear hV
      simp only [u12]
      clear u12
      have kk := (hI.1.cell (p := ⟨qg, qo + 1, none⟩) hqb).trans k1
      have HI := Lib.hid hI
      clear hI
      go_wp2_with fail
      refine step3_done rfl ?_ ?_ ?_
      · exact (toI HIp HI.out)
      · exact (Below.refl _ _)
      · exact (toV HV rfl)
    · clear hV
      (try dsimp only)
      have HI := Lib.hid hI
      clear hI
      go_wp2_with fail
      refine step3_done rfl ?_ ?_ ?_
      · exact (toI HIp HI.out)
      · exact (Below.refl _ _)
      · exact (toV HV rfl)
    · have u14 := hV
      clear hV
      simp only [u14]
      clear u14
      have HI := Lib.hid hI
      clear hI
      go_wp2_with fail
      refine step3_done rfl ?_ ?_ ?_
      · exact (toI HIp HI.out)
      · exact (Below.refl _ _)
      · exact (toV HV rfl)
    · obtain ⟨u5, u9, u13, u15⟩ := hV
      simp only [u5, u9, u13, u15]
      clear u5 u9 u13 u15
      have HL := Lib.hid hL
      have HI := Lib.hid hI
      have hzW := hI.1.size
      clear hI hL
      go_wp2_with fail
      refine (HHr.out _ _ _ _ _ (Hg.out.below' HI.out.1) (RM.out.go HI.out.1) (HFr.out.go HI.out.1)).mono ?_
      rintro e W' ⟨a', c', b', d', rfl, hl, hr, hb⟩
      go_wp2_with fail
      refine step3_done rfl ?_ ?_ ?_
      · exact (toI HIp ⟨up HI.out.1 hb, fun h => absurd ((HL.out.2 22 (by simp)).symm.trans h) (by simp)⟩)
      · exact hb
      · exact (toV HV ⟨_, _, _, _, rfl, ⟨hl.1.mono fun z hz => ⟨⟨Nat.le_trans hzW hz.1, hz.2⟩, rfl⟩, hl.2⟩, hr.mono fun z hz => ⟨⟨Nat.le_trans hzW hz.1, hz.2⟩, rfl⟩⟩)
    · obtain ⟨a16, c16, b16, d16, u16, l16, r16⟩ := hV
      simp only [u16]
      have U16 := Lib.hid u16
      clear u16
      have HI := Lib.hid hI
      clear hI
      go_wp2_with fail
      refine step3_done rfl ?_ ?_ ?_
      · exact (toI HIp HI.out)
      · exact (Below.refl _ _)
      · exact (toV HV ⟨_, _, _, _, rfl, l16, r16⟩)
    · obtain ⟨a17, c17, b17, d17, u17, l17, r17⟩ := hV
      simp only [u17]
      have U17 := Lib.hid u17
      clear u17
      have HI := Lib.hid hI
      clear hI
      go_wp2_with fail
      refine step3_done rfl ?_ ?_ ?_
      · exact (toI HIp HI.out)
      · exact (Below.refl _ _)
      · exact (toV HV ⟨_, _, rfl, l17⟩)
    · obtain ⟨a17, c17, b17, d17, u17, l17, r17⟩ := hV
      simp only [u17]
      have U17 := Lib.hid u17
      clear u17
      have HI := Lib.hid hI
      clear hI
      go_wp2_with fail
      refine step3_done rfl ?_ ?_ ?_
      · exact (toI HIp HI.out)
      · exact (Below.refl _ _)
      · exact (toV HV ⟨_, _, rfl, r17⟩)
    · obtain ⟨a17, c17, b17, d17, u17, l17, r17⟩ := hV
      simp only [u17]
      have U17 := Lib.hid u17
      clear u17
      have HI := Lib.hid hI
      clear hI
      go_wp2_with fail
      refine step3_done rfl ?_ ?_ ?_
      · exact (toI HIp HI.out)
      · exact (Below.refl _ _)
      · exact (toV HV rfl)
    · clear hV
      (try dsimp only)
      have HL := Lib.hid hL
      have HI := Lib.hid hI
      have hzW := hI.1.size
      clear hI hL
      go_wp2_with fail
      have uW : ∀ o, Below W.heap.size W (W.alloc o) := fun o => (Below.refl _ _).alloc (Nat.le_refl _) o
      refine step3_done rfl ?_ ?_ ?_
      · exact (toI HIp ⟨up HI.out.1 (uW _), fun h => absurd ((HL.out.2 22 (by simp)).symm.trans h) (by simp)⟩)
      · exact (uW _)
      · exact (toV HV ⟨_, rfl, hzW, Blk.new _ _⟩)
    · obtain ⟨⟨a18, c18, u18, l18⟩, ⟨g21, u21, l21, b21⟩⟩ := hV
      simp only [u21, u18]
      have U18 := Lib.hid u18
      have U21 := Lib.hid u21
      clear u18 u21
      obtain ⟨q0, q1, q2'⟩ := blk3_cells b21
      have fW := b21.frozen
      have hg9 := b21.lt
      have HT := Lib.hid (touch3 (g := g21) (w := W) (.int .i64 xs) (.int .i64 (xh + 1)) (.slice a18 lst.length c18))
      have HN := Lib.hid (b21.set3 (.int .i64 xs) (.int .i64 (xh + 1)) (.slice a18 lst.length c18))
      have HL2 := Lib.hid (l18.offE b21 HT.out)
      have HI := Lib.hid hI
      have HB9 := Lib.hid b21
      clear hI b21 l18
      go_wp2_with fail
      refine step3_done (v := undef) rfl ?_ ?_ ?_
      · exact (toI HIp ⟨HI.out.1.trans (HT.out.toBelow HI.out.1.size (fun k hk => by omega)), fun _ => ⟨g21, a18, c18, U21.out, l21, HN.out, HL2.out⟩⟩)
      · exact ⟨g21, HB9.out, HT.out, l21⟩
      · exact (toV HV rfl)
    · obtain ⟨b19, d19, u19, r19⟩ := hV
      simp only [u19]
      have U19 := Lib.hid u19
      clear u19
      have HI := Lib.hid hI
      clear hI
      go_wp2_with fail
      refine step3_done rfl ?_ ?_ ?_
      · exact (toI HIp HI.out)
      · exact (Below.refl _ _)
      · exact (toV HV ⟨_, _, rfl, r19⟩)
    · have u20 := hV
      clear hV
      simp only [u20]
      clear u20
      have HI := Lib.hid hI
      clear hI
      go_wp2_with fail
      refine step3_done rfl ?_ ?_ ?_
      · exact (toI HIp HI.out)
      · exact (Below.refl _ _)
      · exact (toV HV rfl)
  case fin =>
    intro x W L hL hI hV
    replace hI : (Below w.heap.size w W ∧ (L 22 = true → ∃ gE a c, x 21 = .pointer (some ⟨gE, 0, none⟩) ∧ w.heap.size ≤ gE ∧ Blk gE (.cells #[.int .i64 xs, .int .i64 (xh + 1), .slice a lst.length c] 71 (0, 0)) W ∧ EdL w.heap.size lst a c W)) := ofI HIp hI
    rw [HV.out] at hV
    simp only [AllV, and_true] at hV
    obtain ⟨u0, u1, u2, u3, u4, u5, u6, u7, u8, u9, u10, u11, u12, u13, u14, u15, ⟨a16, c16, b16, d16, u16, l16, r16⟩, ⟨a17, c17, b17, d17, u17, l17, r17⟩, ⟨b19, d19, u19, r19⟩, u20, u22, ⟨b23, d23, u23, r23⟩, u24⟩ := hV
    simp only [getsD, List.getD_cons_succ, List.getD_cons_zero, List.length_cons, List.length_nil, List.range, List.range.loop, u0, u1, u2, u3, u4, u5, u6, u7, u8, u9, u10, u11, u12, u13, u14, u15, u16, u17, u19, u20, u22, u23, u24, Act.put, List.setIfInBounds_toArray, List.set_cons_succ, List.set_cons_zero]
    clear u0 u1 u2 u3 u4 u5 u6 u7 u8 u9 u10 u11 u12 u13 u14 u15 u16 u17 u19 u20 u22 u23 u24
    obtain ⟨gE, aE, cE, hxE, hlE, bE, lE⟩ := hI.2 (hL 22 (by simp))
    have hb := hI.1
    simp only [hxE]
    obtain ⟨w1, rfl⟩ : ∃ x : World, x = W := ⟨_, rfl⟩
    have B1 := Lib.hid hb
    have XE1 := Lib.hid bE
    have LE1 := Lib.hid lE
    have RO1 := Lib.hid r23
    obtain ⟨c0, c1, c2, c3, c4, c5, c6, c7, c8, c9⟩ := blk10_cells (BX.out.go hb)
    clear hI hL hb bE lE r23 HHr HFr RM k1 k3
    go_wp2_with fail
    refine (HAp.out _ _ _ _ (Hg.out.below' B1.out) (RO1.out.wide fun z hz => hz.2)).mono ?_
    rintro e w2 ⟨rfl, b2⟩
    have B2 := Lib.hid (up B1.out b2)
    have XE2 := Lib.hid (XE1.out.go b2)
    have LE2 := Lib.hid (LE1.out.go b2)
    have M2 := Lib.hid (HM.out.go B2.out)
    have BX2 := Lib.hid (BX.out.go B2.out)
    have hz2 := B2.out.size
    clear b2 B1 XE1 LE1 RO1 BX HAp c0 c1 c2 c3 c4 c5 c6 c7 c8 c9
    go_wp2_with fail
    obtain ⟨Vp, HV⟩ : ∃ Vp : Nat → Value → World → Prop, Hid (Vp = fun i v W => match i with
        | 0 => v = .pointer (some ⟨g, 0, none⟩)
        | 1 => v = .int .i64 0
        | 2 => v = .pointer (some ⟨g, 0, none⟩)
        | 3 => v = .int .i64 0
        | 4 => v = .pointer (some ⟨g, 0, none⟩)
        | 5 => v = .int .i64 0
        | 6 => v = .int .i64 1
        | 7 => v = .string Tn
        | 8 => v = .agg #[.int .i64 xs, .int .i64 (xh + 1), .slice aE lst.length cE]
        | 9 => v = .slice (some ⟨qg, qo, none⟩) (nF + 1) qc
        | 10 => v = .slice (some ⟨qg, q2, none⟩) nF qc2
        | 11 => v = .pointer (some ⟨g, 0, none⟩)
        | 12 => v = .pointer (some ⟨g, 0, none⟩)
        | 13 => v = .pointer (some ⟨g, 0, none⟩)
        | 14 => v = undef
        | 15 => v = .pointer (some ⟨g, 0, none⟩)
        | 16 => v = .pointer (some ⟨g, 2, none⟩)
        | 17 => v = .pointer (some ⟨g, 2, none⟩)
        | 18 => v = undef
        | 19 => v = .pointer (some ⟨g, 0, none⟩)
        | 20 => v = .pointer (some ⟨g, 8, none⟩)
        | 21 => v = .pointer (some ⟨g, 9, none⟩)
        | _ => v = undef) := ⟨_, rfl⟩
    obtain ⟨Ip, HIp⟩ : ∃ Ip : (Nat → Bool) → (Nat → Value) → World → Prop, Hid (Ip = fun L x W => (Touch (fun z => z = g) w2 W ∧ Blk g (.cells #[cond (L 14) (.string Tn) (.string xt), .string yt, cond (L 18) (.int .i64 xs) (.int .i64 xs), cond (L 18) (.int .i64 (xh + 1)) (.int .i64 xh), cond (L 18) (.slice aE lst.length cE) (.slice ax xl.length cx), .int .i64 ys, .int .i64 yh, .slice ay yl.length cy, vx, cond (L 22) (.slice (some ⟨qg, q2, none⟩) nF qc2) (.slice (some ⟨qg, qo, none⟩) (nF + 1) qc)] 86 (0, 0)) W)) := ⟨_, rfl⟩
    refine region_lit3 (by kernel_rfl) (by kernel_rfl) (by kernel_rfl) [[], [], [], [], [], [], [5], [], [], [], [9], [0], [0, 11], [0, 1, 11, 12], [0, 1, 7, 11, 12, 13], [2], [2, 15], [2, 3, 15, 16], [2, 3, 8, 15, 16, 17], [4], [4, 19], [4, 5, 6, 19, 20], [4, 5, 6, 9, 10, 19, 20, 21]] (by kernel_rfl) [some 53, some 54, some 55, some 56, some 57, some 58, some 59, some 60, some 61, some 62, some 63, some 64, some 65, some 66, none, some 67, some 68, some 69, none, some 70, some 71, some 72, none] (by kernel_rfl) [[0, 11, 12, 13, 14], [1, 13, 14], [2, 15, 16, 17, 18], [3, 17, 18], [4, 19, 20, 21, 22], [5, 6, 21, 22], [6, 21, 22], [7, 14], [8, 18], [9, 10, 22], [10, 22], [11, 12, 13, 14], [12, 13, 14], [13, 14], [14], [15, 16, 17, 18], [16, 17, 18], [17, 18], [18], [19, 20, 21, 22], [20, 21, 22], [21, 22], [22]] (by kernel_rfl) [[], [], [], [], [], [], [], [], [], [], [], [], [], [], [], [], [], [], [], [], [], [], []] [[], [], [], [], [], [], [5], [], [], [], [9], [0], [11], [1, 12], [7, 13], [2], [15], [3, 16], [8, 17], [4], [19], [6, 20], [10, 21]] (by kernel_rfl)
      Ip
      Vp
      (fun j W W' => match j with
        | 14 => Touch (fun z => z = g) W W'
        | 18 => Touch (fun z => z = g) W W'
        | 22 => Touch (fun z => z = g) W W'
        | _ => Below W.heap.size W W')
      [fun x => ⟨#[.pointer (some ⟨g, 0, none⟩), undef, undef, undef, undef, undef, undef, undef, undef, undef, undef, undef, undef, undef, undef, undef, undef, undef, undef, undef, undef, undef, undef, undef, undef, undef, undef, undef, undef, undef, undef, undef, undef, undef, undef, undef, undef, undef, undef, undef, undef, undef, undef, undef, undef, undef, undef, undef, undef, undef, undef, undef, undef, undef], []⟩,
   fun x => ⟨#[undef, .int .i64 0, undef, undef, undef, undef, undef, undef, undef, undef, undef, undef, undef, undef, undef, undef, undef, undef, undef, undef, undef, undef, undef, undef, undef, undef, undef, undef, undef, undef, undef, undef, undef, undef, undef, undef, undef, undef, undef, undef, undef, undef, undef, undef, undef, undef, undef, undef, undef, undef, undef, undef, undef, undef, undef], []⟩,
   fun x => ⟨#[.pointer (some ⟨g, 0, none⟩), undef, undef, undef, undef, undef, undef, undef, undef, undef, undef, undef, undef, undef, undef, undef, undef, undef, undef, undef, undef, undef, undef, undef, undef, undef, undef, undef, undef, undef, undef, undef, undef, undef, undef, undef, undef, undef, undef, undef, undef, undef, undef, undef, undef, undef, undef, undef, undef, undef, undef, undef, undef, undef, undef, undef], []⟩,
   fun x => ⟨#[undef, .int .i64 0, undef, undef, undef, undef, undef, undef, undef, undef, undef, undef, undef, undef, undef, undef, undef, undef, undef, undef, undef, undef, undef, undef, undef, undef, undef, undef, undef, undef, undef, undef, undef, undef, undef, undef, undef, undef, undef, undef, undef, undef, undef, undef, undef, undef, undef, undef, undef, undef, undef, undef, undef, undef, undef, undef, undef], []⟩,
   fun x => ⟨#[.pointer (some ⟨g, 0, none⟩), undef, undef, undef, undef, undef, undef, undef, undef, undef, undef, undef, undef, undef, undef, undef, undef, undef, undef, undef, undef, undef, undef, undef, undef, undef, undef, undef, undef, undef, undef, undef, undef, undef, undef, undef, undef, undef, undef, undef, undef, undef, undef, undef, undef, undef, undef, undef, undef, undef, undef, undef, undef, undef, undef, undef, undef, undef], []⟩,
   fun x => ⟨#[undef, .int .i64 0, undef, undef, undef, undef, undef, undef, undef, undef, undef, undef, undef, undef, undef, undef, undef, undef, undef, undef, undef, undef, undef, undef, undef, undef, undef, undef, undef, undef, undef, undef, undef, undef, undef, undef, undef, undef, undef, undef, undef, undef, undef, undef, undef, undef, undef, undef, undef, undef, undef, undef, undef, undef, undef, undef, undef, undef, undef], []⟩,
   fun x => ⟨#[undef, undef, undef, undef, undef, undef, undef, undef, undef, undef, undef, undef, undef, undef, undef, undef, undef, undef, undef, undef, undef, undef, undef, undef, undef, undef, undef, undef, undef, undef, undef, undef, undef, undef, undef, undef, undef, undef, undef, undef, undef, undef, undef, undef, undef, undef, undef, undef, undef, undef, undef, undef, undef, undef, undef, undef, undef, undef, x 5, undef], []⟩,
   fun x => ⟨#[undef, undef, undef, undef, undef, undef, undef, undef, undef, .string Tn, undef, undef, undef, undef, undef, undef, undef, undef, undef, undef, undef, undef, undef, undef, undef, undef, undef, undef, undef, undef, undef, undef, undef, undef, undef, undef, undef, undef, undef, undef, undef, undef, undef, undef, undef, undef, undef, undef, undef, undef, undef, undef, undef, undef, undef, undef, undef, undef, undef, undef, undef], []⟩,
   fun x => ⟨#[undef, undef, undef, undef, undef, undef, .pointer (some ⟨gE, 0, none⟩), undef, undef, undef, undef, undef, undef, undef, undef, undef, undef, undef, undef, undef, undef, undef, undef, undef, undef, undef, undef, undef, undef, undef, undef, undef, undef, undef, undef, undef, undef, undef, undef, undef, undef, undef, undef, undef, undef, undef, undef, undef, undef, undef, undef, undef, undef, undef, undef, undef, undef, undef, undef, undef, undef, undef], []⟩,
   fun x => ⟨#[undef, undef, undef, undef, undef, .slice (some ⟨qg, qo, none⟩) (nF + 1) qc, undef, undef, undef, undef, undef, undef, undef, undef, undef, undef, undef, undef, undef, undef, undef, undef, undef, undef, undef, undef, undef, undef, undef, undef, undef, undef, undef, undef, undef, undef, undef, undef, undef, undef, undef, undef, undef, undef, undef, undef, undef, undef, undef, undef, undef, undef, undef, undef, undef, undef, undef, undef, undef, undef, undef, undef, undef], []⟩,
   fun x => ⟨#[undef, undef, undef, undef, undef, undef, undef, undef, undef, undef, undef, undef, undef, undef, undef, undef, undef, undef, undef, undef, undef, undef, undef, undef, undef, undef, undef, undef, undef, undef, undef, undef, undef, undef, undef, undef, undef, undef, undef, undef, undef, undef, undef, undef, undef, undef, undef, undef, undef, undef, undef, undef, undef, undef, undef, undef, undef, undef, undef, undef, undef, undef, x 9, undef], []⟩,
   fun x => ⟨#[undef, undef, undef, undef, undef, undef, undef, undef, undef, undef, undef, undef, undef, undef, undef, undef, undef, undef, undef, undef, undef, undef, undef, undef, undef, undef, undef, undef, undef, undef, undef, undef, undef, undef, undef, undef, undef, undef, undef, undef, undef, undef, undef, undef, undef, undef, undef, undef, undef, undef, undef, undef, undef, x 0, undef, undef, undef, undef, undef, undef, undef, undef, undef, undef, undef], []⟩,
   fun x => ⟨#[undef, undef, undef, undef, undef, undef, undef, undef, undef, undef, undef, undef, undef, undef, undef, undef, undef, undef, undef, undef, undef, undef, undef, undef, undef, undef, undef, undef, undef, undef, undef, undef, undef, undef, undef, undef, undef, undef, undef, undef, undef, undef, undef, undef, undef, undef, undef, undef, undef, undef, undef, undef, undef, undef, undef, undef, undef, undef, undef, undef, undef, undef, undef, undef, x 11, undef], []⟩,
   fun x => ⟨#[undef, undef, undef, undef, undef, undef, undef, undef, undef, undef, undef, undef, undef, undef, undef, undef, undef, undef, undef, undef, undef, undef, undef, undef, undef, undef, undef, undef, undef, undef, undef, undef, undef, undef, undef, undef, undef, undef, undef, undef, undef, undef, undef, undef, undef, undef, undef, undef, undef, undef, undef, undef, undef, undef, x 1, undef, undef, undef, undef, undef, undef, undef, undef, undef, undef, x 12, undef], []⟩,
   fun x => ⟨#[undef, undef, undef, undef, undef, undef, undef, undef, undef, undef, undef, undef, undef, undef, undef, undef, undef, undef, undef, undef, undef, undef, undef, undef, undef, undef, undef, undef, undef, undef, undef, undef, undef, undef, undef, undef, undef, undef, undef, undef, undef, undef, undef, undef, undef, undef, undef, undef, undef, undef, undef, undef, undef, undef, undef, undef, undef, undef, undef, undef, x 7, undef, undef, undef, undef, undef, x 13], []⟩,
   fun x => ⟨#[undef, undef, undef, undef, undef, undef, undef, undef, undef, undef, undef, undef, undef, undef, undef, undef, undef, undef, undef, undef, undef, undef, undef, undef, undef, undef, undef, undef, undef, undef, undef, undef, undef, undef, undef, undef, undef, undef, undef, undef, undef, undef, undef, undef, undef, undef, undef, undef, undef, undef, undef, undef, undef, undef, undef, x 2, undef, undef, undef, undef, undef, undef, undef, undef, undef, undef, undef, undef], []⟩,
   fun x => ⟨#[undef, undef, undef, undef, undef, undef, undef, undef, undef, undef, undef, undef, undef, undef, undef, undef, undef, undef, undef, undef, undef, undef, undef, undef, undef, undef, undef, undef, undef, undef, undef, undef, undef, undef, undef, undef, undef, undef, undef, undef, undef, undef, undef, undef, undef, undef, undef, undef, undef, undef, undef, undef, undef, undef, undef, undef, undef, undef, undef, undef, undef, undef, undef, undef, undef, undef, undef, x 15, undef], []⟩,
   fun x => ⟨#[undef, undef, undef, undef, undef, undef, undef, undef, undef, undef, undef, undef, undef, undef, undef, undef, undef, undef, undef, undef, undef, undef, undef, undef, undef, undef, undef, undef, undef, undef, undef, undef, undef, undef, undef, undef, undef, undef, undef, undef, undef, undef, undef, undef, undef, undef, undef, undef, undef, undef, undef, undef, undef, undef, undef, undef, x 3, undef, undef, undef, undef, undef, undef, undef, undef, undef, undef, undef, x 16, undef], []⟩,
   fun x => ⟨#[undef, undef, undef, undef, undef, undef, undef, undef, undef, undef, undef, undef, undef, undef, undef, undef, undef, undef, undef, undef, undef, undef, undef, undef, undef, undef, undef, undef, undef, undef, undef, undef, undef, undef, undef, undef, undef, undef, undef, undef, undef, undef, undef, undef, undef, undef, undef, undef, undef, undef, undef, undef, undef, undef, undef, undef, undef, undef, undef, undef, undef, x 8, undef, undef, undef, undef, undef, undef, undef, x 17], []⟩,
   fun x => ⟨#[undef, undef, undef, undef, undef, undef, undef, undef, undef, undef, undef, undef, undef, undef, undef, undef, undef, undef, undef, undef, undef, undef, undef, undef, undef, undef, undef, undef, undef, undef, undef, undef, undef, undef, undef, undef, undef, undef, undef, undef, undef, undef, undef, undef, undef, undef, undef, undef, undef, undef, undef, undef, undef, undef, undef, undef, undef, x 4, undef, undef, undef, undef, undef, undef, undef, undef, undef, undef, undef, undef, undef], []⟩,
   fun x => ⟨#[undef, undef, undef, undef, undef, undef, undef, undef, undef, undef, undef, undef, undef, undef, undef, undef, undef, undef, undef, undef, undef, undef, undef, undef, undef, undef, undef, undef, undef, undef, undef, undef, undef, undef, undef, undef, undef, undef, undef, undef, undef, undef, undef, undef, undef, undef, undef, undef, undef, undef, undef, undef, undef, undef, undef, undef, undef, undef, undef, undef, undef, undef, undef, undef, undef, undef, undef, undef, undef, undef, x 19, undef], []⟩,
   fun x => ⟨#[undef, undef, undef, undef, undef, undef, undef, undef, undef, undef, undef, undef, undef, undef, undef, undef, undef, undef, undef, undef, undef, undef, undef, undef, undef, undef, undef, undef, undef, undef, undef, undef, undef, undef, undef, undef, undef, undef, undef, undef, undef, undef, undef, undef, undef, undef, undef, undef, undef, undef, undef, undef, undef, undef, undef, undef, undef, undef, undef, x 6, undef, undef, undef, undef, undef, undef, undef, undef, undef, undef, undef, x 20, undef], []⟩,
   fun x => ⟨#[undef, undef, undef, undef, undef, undef, undef, undef, undef, undef, undef, undef, undef, undef, undef, undef, undef, undef, undef, undef, undef, undef, undef, undef, undef, undef, undef, undef, undef, undef, undef, undef, undef, undef, undef, undef, undef, undef, undef, undef, undef, undef, undef, undef, undef, undef, undef, undef, undef, undef, undef, undef, undef, undef, undef, undef, undef, undef, undef, undef, undef, undef, undef, x 10, undef, undef, undef, undef, undef, undef, undef, undef, x 21], []⟩]
      ?hF ?mono ?h0 ?step [0, 1, 2, 3, 4, 5, 6, 7, 8, 9, 10, 11, 12, 13, 14, 15, 16, 17, 18, 19, 20, 21, 22] (by kernel_rfl) ?fin
    case hF =>
      exact ⟨fun x => ⟨by kernel_rfl, by kernel_rfl⟩, fun x => ⟨by kernel_rfl, by kernel_rfl⟩, fun x => ⟨by kernel_rfl, by kernel_rfl⟩, fun x => ⟨by kernel_rfl, by kernel_rfl⟩, fun x => ⟨by kernel_rfl, by kernel_rfl⟩, fun x => ⟨by kernel_rfl, by kernel_rfl⟩, fun x => ⟨by kernel_rfl, by kernel_rfl⟩, fun x => ⟨by kernel_rfl, by kernel_rfl⟩, fun x => ⟨by kernel_rfl, by kernel_rfl⟩, fun x => ⟨by kernel_rfl, by kernel_rfl⟩, fun x => ⟨by kernel_rfl, by kernel_rfl⟩, fun x => ⟨by kernel_rfl, by kernel_rfl⟩, fun x => ⟨by kernel_rfl, by kernel_rfl⟩, fun x => ⟨by kernel_rfl, by kernel_rfl⟩, fun x => ⟨by kernel_rfl, by kernel_rfl⟩, fun x => ⟨by kernel_rfl, by kernel_rfl⟩, fun x => ⟨by kernel_rfl, by kernel_rfl⟩, fun x => ⟨by kernel_rfl, by kernel_rfl⟩, fun x => ⟨by kernel_rfl, by kernel_rfl⟩, fun x => ⟨by kernel_rfl, by kernel_rfl⟩, fun x => ⟨by kernel_rfl, by kernel_rfl⟩, fun x => ⟨by kernel_rfl, by kernel_rfl⟩, fun x => ⟨by kernel_rfl, by kernel_rfl⟩, trivial⟩
    case mono =>
      intro i j hi hj hne hna hnk v W W' hE hv
      rw [HV.out] at hv ⊢
      simp only [List.length_cons, List.length_nil] at hi hj
      match i, hi with
      | 0, _ | 1, _ | 2, _ | 3, _ | 4, _ | 5, _ | 6, _ | 7, _ | 8, _ | 9, _ | 10, _ | 11, _ | 12, _ | 13, _ | 14, _ | 15, _ | 16, _ | 17, _ | 18, _ | 19, _ | 20, _ | 21, _ | 22, _ => exact hv
      | m + 23, h => exact absurd h (by omega)
    case h0 => intro x; exact toI HIp ⟨(Touch.refl _ _).drew, BX2.out⟩
    case step =>
      refine ⟨?_, ?_, ?_, ?_, ?_, ?_, ?_, ?_, ?_, ?_, ?_, ?_, ?_, ?_, ?_, ?_, ?_, ?_, ?_, ?_, ?_, ?_, ?_, trivial⟩
      all_goals
        intro x W L hI hL hV
        replace hI : (Touch (fun z => z = g) w2 W ∧ Blk g (.cells #[cond (L 14) (.string Tn) (.string xt), .string yt, cond (L 18) (.int .i64 xs) (.int .i64 xs), cond (L 18) (.int .i64 (xh + 1)) (.int .i64 xh), cond (L 18) (.slice aE lst.length cE) (.slice ax xl.length cx), .int .i64 ys, .int .i64 yh, .slice ay yl.length cy, vx, cond (L 22) (.slice (some ⟨qg, q2, none⟩) nF qc2) (.slice (some ⟨qg, qo, none⟩) (nF + 1) qc)] 86 (0, 0)) W) := ofI HIp hI
        rw [HV.out] at hV
        simp only [AllV, and_true] at hV
      · clear hV
        (try dsimp only)
        have HI := Lib.hid hI
        clear hI
        go_wp2_with fail
        refine step3_done rfl ?_ ?_ ?_
        · exact (toI HIp HI.out)
        · exact (Below.refl _ _)
        · exact (toV HV rfl)
      · clear hV
        (try dsimp only)
        have HI := Lib.hid hI
        clear hI
        go_wp2_with fail
        refine step3_done rfl ?_ ?_ ?_
        · exact (toI HIp HI.out)
        · exact (Below.refl _ _)
        · exact (toV HV rfl)
      · clear hV
        (try dsimp only)
        have HI := Lib.hid hI
        clear hI
        go_wp2_with fail
        refine step3_done rfl ?_ ?_ ?_
        · exact (toI HIp HI.out)
        · exact (Below.refl _ _)
        · exact (toV HV rfl)
      · clear hV
        (try dsimp only)
        have HI := Lib.hid hI
        clear hI
        go_wp2_with fail
        refine step3_done rfl ?_ ?_ ?_
        · exact (toI HIp HI.out)
        · exact (Below.refl _ _)
        · exact (toV HV rfl)
      · clear hV
        (try dsimp only)
        have HI := Lib.hid hI
        clear hI
        go_wp2_with fail
        refine step3_done rfl ?_ ?_ ?_
        · exact (toI HIp HI.out)
        · exact (Below.refl _ _)
        · exact (toV HV rfl)
      · clear hV
        (try dsimp only)
        have HI := Lib.hid hI
        clear hI
        go_wp2_with fail
        refine step3_done rfl ?_ ?_ ?_
        · exact (toI HIp HI.out)
        · exact (Below.refl _ _)
        · exact (toV HV rfl)
      · have u5 := hV
        clear hV
        simp only [u5]
        clear u5
        have HI := Lib.hid hI
        clear hI
        go_wp2_with fail
        refine step3_done rfl ?_ ?_ ?_
        · exact (toI HIp HI.out)
        · exact (Below.refl _ _)
        · exact (toV HV rfl)
      · clear hV
        (try dsimp only)
        have HI := Lib.hid hI
        clear hI
        go_wp2_with fail
        refine step3_done rfl ?_ ?_ ?_
        · exact (toI HIp HI.out)
        · exact (Below.refl _ _)
        · exact (toV HV rfl)
      · clear hV
        (try dsimp only)
        obtain ⟨q0, q1, q2'⟩ := blk3_cells (XE2.out.touch hI.1 (by omega))
        have HI := Lib.hid hI
        clear hI
        go_wp2_with fail
        refine step3_done rfl ?_ ?_ ?_
        · exact (toI HIp HI.out)
        · exact (Below.refl _ _)
        · exact (toV HV rfl)
      · clear hV
        (try dsimp only)
        have HI := Lib.hid hI
        clear hI
        go_wp2_with fail
        refine step3_done rfl ?_ ?_ ?_
        · exact (toI HIp HI.out)
        · exact (Below.refl _ _)
        · exact (toV HV rfl)
      · have u9 := hV
        clear hV
        simp only [u9]
        clear u9
        have HI := Lib.hid hI
        clear hI
        have h1n : (1 : Int) ≤ (nF : Int) + 1 := by omega
        rcases HQ2.out with ⟨e1, e2, e3⟩ | ⟨e1, e2, e3, e4⟩
        · have HE := Lib.hid (And.intro e2 e3)
          clear e2 e3
          go_wp2_with fail
          have hv : (Value.slice (some ⟨qg, qo + 5, none⟩) nF (qc - 1)) = .slice (some ⟨qg, q2, none⟩) nF qc2 := by rw [HE.out.1, HE.out.2]
          refine step3_done rfl ?_ ?_ ?_
          · exact (toI HIp HI.out)
          · exact (Below.refl _ _)
          · exact (toV HV hv)
        · have HE := Lib.hid (And.intro e3 e4)
          clear e3 e4
          subst e1
          have hz : nF = 0 := by have := HnF.out; omega
          subst hz
          go_wp2_with fail
          have hv : (Value.slice (some ⟨qg, qo, none⟩) 0 0) = .slice (some ⟨qg, q2, none⟩) 0 qc2 := by rw [HE.out.1, HE.out.2]
          refine step3_done rfl ?_ ?_ ?_
          · exact (toI HIp HI.out)
          · exact (Below.refl _ _)
          · exact (toV HV hv)
      · have u0 := hV
        clear hV
        simp only [u0]
        clear u0
        have HI := Lib.hid hI
        clear hI
        go_wp2_with fail
        refine step3_done rfl ?_ ?_ ?_
        · exact (toI HIp HI.out)
        · exact (Below.refl _ _)
        · exact (toV HV rfl)
      · have u11 := hV
        clear hV
        simp only [u11]
        clear u11
        have HI := Lib.hid hI
        clear hI
        go_wp2_with fail
        refine step3_done rfl ?_ ?_ ?_
        · exact (toI HIp HI.out)
        · exact (Below.refl _ _)
        · exact (toV HV rfl)
      · obtain ⟨u1, u12⟩ := hV
        simp only [u1, u12]
        clear u1 u12
        have HI := Lib.hid hI
        clear hI
        go_wp2_with fail
        refine step3_done rfl ?_ ?_ ?_
        · exact (toI HIp HI.out)
        · exact (Below.refl _ _)
        · exact (toV HV rfl)
      · obtain ⟨u7, u13⟩ := hV
        simp only [u7, u13]
        clear u7 u13
        obtain ⟨q0, q1, q2', q3, q4, q5, q6, q7, q8, q9⟩ := blk10_cells hI.2
        have fW := hI.2.frozen
        have hl := hI.2.lt
        have HI := Lib.hid hI
        clear hI
        go_wp2_with fail
        have ht := touch1 (w := W) (g := g) (i := 0) (.string Tn)
        refine step3_done (v := undef) rfl ?_ ?_ ?_
        · exact (toI HIp ⟨HI.out.1.trans ht, HI.out.2.set 0 (.string Tn)⟩)
        · exact ht
        · exact (toV HV rfl)
      · have u2 := hV
        clear hV
        simp only [u2]
        clear u2
        have HI := Lib.hid hI
        clear hI
        go_wp2_with fail
        refine step3_done rfl ?_ ?_ ?_
        · exact (toI HIp HI.out)
        · exact (Below.refl _ _)
        · exact (toV HV rfl)
      · have u15 := hV
        clear hV
        simp only [u15]
        clear u15
        have HI := Lib.hid hI
        clear hI
        go_wp2_with fail
        refine step3_done rfl ?_ ?_ ?_
        · exact (toI HIp HI.out)
        · exact (Below.refl _ _)
        · exact (toV HV rfl)
      · obtain ⟨u3, u16⟩ := hV
        simp only [u3, u16]
        clear u3 u16
        have HI := Lib.hid hI
        clear hI
        go_wp2_with fail
        refine step3_done rfl ?_ ?_ ?_
        · exact (toI HIp HI.out)
        · exact (Below.refl _ _)
        · exact (toV HV rfl)
      · obtain ⟨u8, u17⟩ := hV
        simp only [u8, u17]
        clear u8 u17
        obtain ⟨q0, q1, q2', q3, q4, q5, q6, q7, q8, q9⟩ := blk10_cells hI.2
        have fW := hI.2.frozen
        have hl := hI.2.lt
        have HI := Lib.hid hI
        clear hI
        go_wp2_with fail
        have ht := ((touch1 (w := W) (g := g) (i := 2) (.int .i64 xs)).trans (touch1 (g := g) (i := 3) (.int .i64 (xh + 1)))).trans (touch1 (g := g) (i := 4) (.slice aE lst.length cE))
        refine step3_done (v := undef) rfl ?_ ?_ ?_
        · exact (toI HIp ⟨HI.out.1.trans ht, ((HI.out.2.set 2 (.int .i64 xs)).set 3 (.int .i64 (xh + 1))).set 4 (.slice aE lst.length cE)⟩)
        · exact ht
        · exact (toV HV rfl)
      · have u4 := hV
        clear hV
        simp only [u4]
        clear u4
        have HI := Lib.hid hI
        clear hI
        go_wp2_with fail
        refine step3_done rfl ?_ ?_ ?_
        · exact (toI HIp HI.out)
        · exact (Below.refl _ _)
        · exact (toV HV rfl)
      · have u19 := hV
        clear hV
        simp only [u19]
        clear u19
        have HI := Lib.hid hI
        clear hI
        go_wp2_with fail
        refine step3_done rfl ?_ ?_ ?_
        · exact (toI HIp HI.out)
        · exact (Below.refl _ _)
        · exact (toV HV rfl)
      · obtain ⟨u6, u20⟩ := hV
        simp only [u6, u20]
        clear u6 u20
        have HI := Lib.hid hI
        clear hI
        go_wp2_with fail
        refine step3_done rfl ?_ ?_ ?_
        · exact (toI HIp HI.out)
        · exact (Below.refl _ _)
        · exact (toV HV rfl)
      · obtain ⟨u10, u21⟩ := hV
        simp only [u10, u21]
        clear u10 u21
        obtain ⟨q0, q1, q2', q3, q4, q5, q6, q7, q8, q9⟩ := blk10_cells hI.2
        have fW := hI.2.frozen
        have hl := hI.2.lt
        have HI := Lib.hid hI
        clear hI
        go_wp2_with fail
        have ht := touch1 (w := W) (g := g) (i := 9) (.slice (some ⟨qg, q2, none⟩) nF qc2)
        refine step3_done (v := undef) rfl ?_ ?_ ?_
        · exact (toI HIp ⟨HI.out.1.trans ht, HI.out.2.set 9 (.slice (some ⟨qg, q2, none⟩) nF qc2)⟩)
        · exact ht
        · exact (toV HV rfl)
    case fin =>
      intro x W L hL hI hV
      replace hI : (Touch (fun z => z = g) w2 W ∧ Blk g (.cells #[cond (L 14) (.string Tn) (.string xt), .string yt, cond (L 18) (.int .i64 xs) (.int .i64 xs), cond (L 18) (.int .i64 (xh + 1)) (.int .i64 xh), cond (L 18) (.slice aE lst.length cE) (.slice ax xl.length cx), .int .i64 ys, .int .i64 yh, .slice ay yl.length cy, vx, cond (L 22) (.slice (some ⟨qg, q2, none⟩) nF qc2) (.slice (some ⟨qg, qo, none⟩) (nF + 1) qc)] 86 (0, 0)) W) := ofI HIp hI
      rw [HV.out] at hV
      simp only [AllV, and_true] at hV
      obtain ⟨u0, u1, u2, u3, u4, u5, u6, u7, u8, u9, u10, u11, u12, u13, u14, u15, u16, u17, u18, u19, u20, u21, u22⟩ := hV
      simp only [getsD, List.getD_cons_succ, List.getD_cons_zero, List.length_cons, List.length_nil, List.range, List.range.loop, u0, u1, u2, u3, u4, u5, u6, u7, u8, u9, u10, u11, u12, u13, u14, u15, u16, u17, u18, u19, u20, u21, u22, Act.put, List.setIfInBounds_toArray, List.set_cons_succ, List.set_cons_zero]
      clear u0 u1 u2 u3 u4 u5 u6 u7 u8 u9 u10 u11 u12 u13 u14 u15 u16 u17 u18 u19 u20 u21 u22
      have hT := hI.1
      have hB := hI.2
      have hl14 := hL 14 (by simp)
      have hl18 := hL 18 (by simp)
      have hl22 := hL 22 (by simp)
      rw [hl14, hl18, hl22] at hB
      simp only [cond_true] at hB
      obtain ⟨w3, rfl⟩ : ∃ x : World, x = W := ⟨_, rfl⟩
      have hz3 := hT.size
      obtain ⟨⟨ax', cx', ay', cy', bo, rx, ry⟩, o1, o2⟩ := M2.out.rest hT
      have eo := (bo.cell 7).symm.trans (BX2.out.cell 7)
      have eo' : Value.slice ay' yl.length cy' = .slice ay yl.length cy := Option.some.inj eo
      injection eo' with e1 e2 e3
      subst e1 e3
      have hgm := M2.out
      have hrow : (Value.slice (some ⟨qg, q2, none⟩) nF qc2).ownBlock = (.slice (some ⟨qg, qo, none⟩) (nF + 1) qc : Value).ownBlock := rfl
      have hdrop : OwnO (fun z => z < base ∨ z = g ∨ vx.ownBlock = some z) base (.slice (some ⟨qg, q2, none⟩) nF qc2) F w3 := by
        have hd := o2
        rcases HQ2.out with ⟨e1, e2, e3⟩ | ⟨e1, e2, e3, e4⟩
        · have := OwnO.drop_in (k := 1) hd (by omega) e1
          rw [e2, e3]
          exact this
        · have hF : F.length = 0 := by rw [← HnF.out]; exact e2
          have := OwnO.drop_all (k := 1) hd (by have := HnF.out; omega)
          have hz : nF = 0 := by have := HnF.out; omega
          rw [e3, e4, hz]
          exact this
      have hox : OwnO (fun z => z < base ∨ z = g ∨ (.slice (some ⟨qg, q2, none⟩) nF qc2 : Value).ownBlock = some z) base vx xf w3 := o1
      have RL : RdS (PC base g vx (.slice (some ⟨qg, q2, none⟩) nF qc2) w3) w3 lst aE lst.length cE := LE2.out.1.mono fun z hz => ⟨⟨by omega, by omega, by omega, fun e => by have := (HM.out.fx.rowlt z e).2; omega, fun e => by have := (HM.out.fy.rowlt z e).2; omega⟩, hT.block z hz.2 (by omega)⟩
      have B3 : Below base w w3 := ((Touch.of_below (S := fun _ => False) B2.out).toBelow (by omega) (fun k hk => hk.elim)).trans (hT.toBelow (by omega) (fun k hk => by omega))
      have G3 : Hid (PairM base g (Sd.mk Tn xs (xh + 1) lst xf) (Sd.mk yt ys yh yl F) vx (.slice (some ⟨qg, q2, none⟩) nF qc2) w3) := ⟨⟨aE, cE, ay', cy', hB, RL, ry⟩, hox, hdrop, hgm.gb, hgm.nx, hgm.ny⟩
      have HB3 := Lib.hid B3
      clear hI hL hT hB hl14 hl18 hl22 rx ry o1 o2 hgm RL B3 hox hdrop hrow bo eo e2
      go_wp2_with fail
      go_ret
      refine ⟨rfl, ⟨.slice (some ⟨qg, q2, none⟩) nF qc2, ?_⟩, HB3.out⟩
      exact G3.out
set_option maxRecDepth 100000 in
set_option maxHeartbeats 8000000 in
theorem pair_hear1 (base g : Nat) (x y : Sd) (vx vy : Value) (f : Fr) (F : List Fr) (w : World) (hg : Good w) (h : PairM base g x y vx vy w) (hf : x.f = f :: F) (hT : y.t.size ≤ 70368744177664) (hc : edgeCheck y.s y.h y.l = 0) (hE : ehE y.s y.h y.l f.op f.heard false = 0) (hA : applyE y.t (foldO false (ehD y.s y.l f.heard) f.op) = 0) :
    Calls Tryd.prog 38 #[.pointer (some ⟨g, 0, none⟩), .int .i64 1] w fun e w' => e = .returned (.bool true) ∧ (∃ v', PairM base g (Sd.mk x.t x.s x.h x.l F) (Sd.mk (applyS y.t (foldO false (ehD y.s y.l f.heard) f.op)) y.s (y.h + 1) (foldL false (ehD y.s y.l f.heard) f.op) y.f) v' vy w') ∧ Below base w w' := by
  obtain ⟨s0, s1, h0, h1, -, -⟩ := edgeCheck_all hc
  have HHr := Lib.hid (fun al cl fa fc W hg h1 h2 => eh_T y.s y.h y.l f.op f.heard false al fa y.l.length cl f.op.length fc W hg h1 h2 (by unfold I64; omega) (by unfold I64; omega) hE)
  have HAp := Lib.hid (fun oa on oc W hg hr => apply_any y.t (foldO false (ehD y.s y.l f.heard) f.op) oa on oc W hg hr hT)
  rw [hA] at HAp
  generalize hOPN : foldO false (ehD y.s y.l f.heard) f.op = opn at *
  generalize hLST : foldL false (ehD y.s y.l f.heard) f.op = lst at *
  generalize hTN : applyS y.t opn = Tn at *
  obtain ⟨xt, xs, xh, xl, xf⟩ := x
  obtain ⟨yt, ys, yh, yl, yf⟩ := y
  simp only at *
  subst hf
  have Hg := Lib.hid hg
  have HM := Lib.hid h
  have hgb := h.gb
  have hgw := h.lt
  obtain ⟨qa, qc, hqv, hqr⟩ := h.fx.rd (A := fun z => z < w.heap.size ∧ z ≠ g) (fun b hb hx => ⟨hb, fun e => hx (.inr (.inl e))⟩) (fun k hk => ⟨(h.fx.rowlt k hk).2, (h.nx k hk).1⟩)
  obtain ⟨qg, qo, rfl, hqA, hqb, hqe⟩ := hqr.2.2.2.2 (by simp)
  obtain ⟨fcs, ⟨fa, fn, fc, rfl, hfr, -⟩, hfc⟩ := hqe 0 f rfl
  have hfn := hfr.1
  subst hfn
  have k1 : w.cell? ⟨qg, qo + 1, none⟩ = some (.int .i64 f.heard) := by have := hfc 1 _ rfl; simpa using this
  have k3 : w.cell? ⟨qg, qo + 3, none⟩ = some (.slice fa f.op.length fc) := by have := hfc 3 _ rfl; simpa using this
  have HFr := Lib.hid (hfr.wide fun z hz => hz.1)
  have hqc := hqr.2.1
  have hqm := hqr.2.2.1
  subst hqv
  simp only [List.length_cons] at hqc ⊢ HM
  have hqn : ((F.length + 1 : Nat) : Int) ≠ 0 := by omega
  obtain ⟨q2, qc2, hq2⟩ : ∃ q2 qc2 : Nat, (1 < qc ∧ q2 = qo + 5 ∧ qc2 = qc - 1) ∨ (qc = 1 ∧ F.length = 0 ∧ q2 = qo ∧ qc2 = 0) := by
    by_cases hq : 1 < qc
    · exact ⟨_, _, .inl ⟨hq, rfl, rfl⟩⟩
    · exact ⟨_, _, .inr ⟨by omega, by omega, rfl, rfl⟩⟩
  have HQ2 := Lib.hid hq2
  have hFl := Lib.hid (rfl : F.length = F.length)
  obtain ⟨nF, hnF⟩ : ∃ nF, nF = F.length := ⟨_, rfl⟩
  rw [← hnF] at hqc hqn HM HQ2
  have HnF := Lib.hid hnF
  clear hg h hT hc hE hA hqr hqe hfc hfr hq2 hnF
  have hqb0 : ((nF : Int) + 1 == 0) = false := by simp; omega
  have hnFi : (nF : Int) + 1 ≤ (qc : Int) := by omega
  have hqm2 : (qc : Int) ≤ 9223372036854775807 := by unfold maxLen at hqm; omega
  clear hqm
  obtain ⟨ax, cx, ay, cy, bx, rx, ry⟩ := HM.out.box
  have RM := Lib.hid (ry.mono fun z hz => ⟨hz.2.1, rfl⟩ : RdS (· < w.heap.size) w yl ay yl.length cy)
  obtain ⟨c0, c1, c2, c3, c4, c5, c6, c7, c8, c9⟩ := blk10_cells bx
  have BX := Lib.hid bx
  clear bx rx ry
  go_enter Tryd.func38, Tryd.ntmps38
  go_wp2_with fail
  clear c0 c1 c2 c3 c4 c5 c6 c7 c8 c9
  obtain ⟨Vp, HV⟩ : ∃ Vp : Nat → Value → World → Prop, Hid (Vp = fun i v W => match i with
      | 0 => v = .pointer (some ⟨g, 0, none⟩)
      | 1 => v = .int .i64 1
      | 2 => v = .pointer (some ⟨g, 0, none⟩)
      | 3 => v = .pointer (some ⟨g, 2, none⟩)
      | 4 => v = .pointer (some ⟨g, 5, none⟩)
      | 5 => v = .agg #[.int .i64 ys, .int .i64 yh, .slice ay yl.length cy]
      | 6 => v = .slice (some ⟨qg, qo, none⟩) (nF + 1) qc
      | 7 => v = .pointer (some ⟨qg, qo, none⟩)
      | 8 => v = .pointer (some ⟨qg, qo + 3, none⟩)
      | 9 => v = .slice fa f.op.length fc
      | 10 => v = .slice (some ⟨qg, qo, none⟩) (nF + 1) qc
      | 11 => v = .pointer (some ⟨qg, qo, none⟩)
      | 12 => v = .pointer (some ⟨qg, qo + 1, none⟩)
      | 13 => v = .int .i64 f.heard
      | 14 => v = .int .i64 1
      | 15 => v = .bool false
      | 16 => ∃ a c b d, v = .tuple #[.agg #[.int .i64 ys, .int .i64 (yh + 1), .slice a lst.length c], .slice b opn.length d, .int .i64 0] ∧ EdL w.heap.size lst a c W ∧ RdS (fun z => w.heap.size ≤ z ∧ z < W.heap.size) W opn b opn.length d
      | 17 => ∃ a c b d, v = .tuple #[.agg #[.int .i64 ys, .int .i64 (yh + 1), .slice a lst.length c], .slice b opn.length d, .int .i64 0] ∧ EdL w.heap.size lst a c W ∧ RdS (fun z => w.heap.size ≤ z ∧ z < W.heap.size) W opn b opn.length d
      | 18 => ∃ a c, v = .agg #[.int .i64 ys, .int .i64 (yh + 1), .slice a lst.length c] ∧ EdL w.heap.size lst a c W
      | 19 => ∃ b d, v = .slice b opn.length d ∧ RdS (fun z => w.heap.size ≤ z ∧ z < W.heap.size) W opn b opn.length d
      | 20 => v = .int .i64 0
      | 21 => ∃ gE, v = .pointer (some ⟨gE, 0, none⟩) ∧ w.heap.size ≤ gE ∧ Blk gE (.cells zeroEd 71 (0, 0)) W
      | 22 => v = undef
      | 23 => ∃ b d, v = .slice b opn.length d ∧ RdS (fun z => w.heap.size ≤ z ∧ z < W.heap.size) W opn b opn.length d
      | _ => v = .int .i64 0) := ⟨_, rfl⟩
  obtain ⟨Ip, HIp⟩ : ∃ Ip : (Nat → Bool) → (Nat → Value) → World → Prop, Hid (Ip = fun L x W => (Below w.heap.size w W ∧ (L 22 = true → ∃ gE a c, x 21 = .pointer (some ⟨gE, 0, none⟩) ∧ w.heap.size ≤ gE ∧ Blk gE (.cells #[.int .i64 ys, .int .i64 (yh + 1), .slice a lst.length c] 71 (0, 0)) W ∧ EdL w.heap.size lst a c W))) := ⟨_, rfl⟩
  refine region_lit3 (by kernel_rfl) (by kernel_rfl) (by kernel_rfl) [[], [], [0], [0, 2], [0, 1, 2, 3], [0, 1, 2, 3, 4], [], [6], [6, 7], [6, 7, 8], [], [10], [10, 11], [10, 11, 12], [], [14], [0, 1, 2, 3, 4, 5, 6, 7, 8, 9, 10, 11, 12, 13, 14, 15], [0, 1, 2, 3, 4, 5, 6, 7, 8, 9, 10, 11, 12, 13, 14, 15, 16], [0, 1, 2, 3, 4, 5, 6, 7, 8, 9, 10, 11, 12, 13, 14, 15, 16, 17], [0, 1, 2, 3, 4, 5, 6, 7, 8, 9, 10, 11, 12, 13, 14, 15, 16, 17], [0, 1, 2, 3, 4, 5, 6, 7, 8, 9, 10, 11, 12, 13, 14, 15, 16, 17], [], [0, 1, 2, 3, 4, 5, 6, 7, 8, 9, 10, 11, 12, 13, 14, 15, 16, 17, 18, 21], [0, 1, 2, 3, 4, 5, 6, 7, 8, 9, 10, 11, 12, 13, 14, 15, 16, 17, 19], [0, 1, 2, 3, 4, 5, 6, 7, 8, 9, 10, 11, 12, 13, 14, 15, 16, 17, 20]] (by kernel_rfl) [some 22, some 23, some 24, some 25, some 26, some 27, some 28, some 29, some 30, some 31, some 32, some 33, some 34, some 35, some 36, some 37, some 38, some 21, some 39, some 40, some 41, some 6, none, some 7, some 8] (by kernel_rfl) [[0, 2, 3, 4, 5, 16, 17, 18, 19, 20, 22, 23, 24], [1, 4, 5, 16, 17, 18, 19, 20, 22, 23, 24], [2, 3, 4, 5, 16, 17, 18, 19, 20, 22, 23, 24], [3, 4, 5, 16, 17, 18, 19, 20, 22, 23, 24], [4, 5, 16, 17, 18, 19, 20, 22, 23, 24], [5, 16, 17, 18, 19, 20, 22, 23, 24], [6, 7, 8, 9, 16, 17, 18, 19, 20, 22, 23, 24], [7, 8, 9, 16, 17, 18, 19, 20, 22, 23, 24], [8, 9, 16, 17, 18, 19, 20, 22, 23, 24], [9, 16, 17, 18, 19, 20, 22, 23, 24], [10, 11, 12, 13, 16, 17, 18, 19, 20, 22, 23, 24], [11, 12, 13, 16, 17, 18, 19, 20, 22, 23, 24], [12, 13, 16, 17, 18, 19, 20, 22, 23, 24], [13, 16, 17, 18, 19, 20, 22, 23, 24], [14, 15, 16, 17, 18, 19, 20, 22, 23, 24], [15, 16, 17, 18, 19, 20, 22, 23, 24], [16, 17, 18, 19, 20, 22, 23, 24], [17, 18, 19, 20, 22, 23, 24], [18, 22], [19, 23], [20, 24], [21, 22], [22], [23], [24]] (by kernel_rfl) [[], [], [], [], [], [], [], [], [], [], [], [], [], [], [], [], [], [], [22], [], [], [22], [], [], []] [[], [], [0], [2], [1, 3], [4], [], [6], [7], [8], [], [10], [11], [12], [], [14], [5, 9, 13, 15], [16], [17], [17], [17], [], [18, 21], [19], [20]] (by kernel_rfl)
    Ip
    Vp
    (fun j W W' => match j with
      | 22 => ∃ gE, Blk gE (.cells zeroEd 71 (0, 0)) W ∧ Touch (fun z => z = gE) W W' ∧ w.heap.size ≤ gE
      | _ => Below W.heap.size W W')
    [fun x => ⟨#[.pointer (some ⟨g, 0, none⟩), undef, undef, undef, undef, undef, undef, undef, undef, undef, undef, undef, undef, undef, undef, undef, undef, undef, undef, undef, undef, undef, undef], []⟩,
   fun x => ⟨#[undef, .int .i64 1, undef, undef, undef, undef, undef, undef, undef, undef, undef, undef, undef, undef, undef, undef, undef, undef, undef, undef, undef, undef, undef, undef], []⟩,
   fun x => ⟨#[undef, undef, undef, undef, undef, undef, undef, undef, undef, undef, undef, undef, undef, undef, undef, undef, undef, undef, undef, undef, undef, undef, x 0, undef, undef], []⟩,
   fun x => ⟨#[undef, undef, undef, undef, undef, undef, undef, undef, undef, undef, undef, undef, undef, undef, undef, undef, undef, undef, undef, undef, undef, undef, undef, undef, x 2, undef], []⟩,
   fun x => ⟨#[undef, undef, undef, undef, undef, undef, undef, undef, undef, undef, undef, undef, undef, undef, undef, undef, undef, undef, undef, undef, undef, undef, undef, x 1, undef, x 3, undef], []⟩,
   fun x => ⟨#[undef, undef, undef, undef, undef, undef, undef, undef, undef, undef, undef, undef, undef, undef, undef, undef, undef, undef, undef, undef, undef, undef, undef, undef, undef, undef, x 4, undef], []⟩,
   fun x => ⟨#[undef, undef, undef, undef, undef, .slice (some ⟨qg, qo, none⟩) (nF + 1) qc, undef, undef, undef, undef, undef, undef, undef, undef, undef, undef, undef, undef, undef, undef, undef, undef, undef, undef, undef, undef, undef, undef, undef], []⟩,
   fun x => ⟨#[undef, undef, undef, undef, undef, undef, undef, undef, undef, undef, undef, undef, undef, undef, undef, undef, undef, undef, undef, undef, undef, undef, undef, undef, undef, undef, undef, undef, x 6, undef], []⟩,
   fun x => ⟨#[undef, undef, undef, undef, undef, undef, undef, undef, undef, undef, undef, undef, undef, undef, undef, undef, undef, undef, undef, undef, undef, undef, undef, undef, undef, undef, undef, undef, undef, x 7, undef], []⟩,
   fun x => ⟨#[undef, undef, undef, undef, undef, undef, undef, undef, undef, undef, undef, undef, undef, undef, undef, undef, undef, undef, undef, undef, undef, undef, undef, undef, undef, undef, undef, undef, undef, undef, x 8, undef], []⟩,
   fun x => ⟨#[undef, undef, undef, undef, undef, .slice (some ⟨qg, qo, none⟩) (nF + 1) qc, undef, undef, undef, undef, undef, undef, undef, undef, undef, undef, undef, undef, undef, undef, undef, undef, undef, undef, undef, undef, undef, undef, undef, undef, undef, undef, undef], []⟩,
   fun x => ⟨#[undef, undef, undef, undef, undef, undef, undef, undef, undef, undef, undef, undef, undef, undef, undef, undef, undef, undef, undef, undef, undef, undef, undef, undef, undef, undef, undef, undef, undef, undef, undef, undef, x 10, undef], []⟩,
   fun x => ⟨#[undef, undef, undef, undef, undef, undef, undef, undef, undef, undef, undef, undef, undef, undef, undef, undef, undef, undef, undef, undef, undef, undef, undef, undef, undef, undef, undef, undef, undef, undef, undef, undef, undef, x 11, undef], []⟩,
   fun x => ⟨#[undef, undef, undef, undef, undef, undef, undef, undef, undef, undef, undef, undef, undef, undef, undef, undef, undef, undef, undef, undef, undef, undef, undef, undef, undef, undef, undef, undef, undef, undef, undef, undef, undef, undef, x 12, undef], []⟩,
   fun x => ⟨#[undef, .int .i64 1, undef, undef, undef, undef, undef, undef, undef, undef, undef, undef, undef, undef, undef, undef, undef, undef, undef, undef, undef, undef, undef, undef, undef, undef, undef, undef, undef, undef, undef, undef, undef, undef, undef, undef, undef], []⟩,
   fun x => ⟨#[undef, undef, undef, undef, undef, undef, undef, undef, undef, undef, undef, undef, undef, undef, undef, undef, undef, undef, undef, undef, undef, undef, undef, undef, undef, undef, undef, undef, undef, undef, undef, undef, undef, undef, undef, undef, x 14, undef], []⟩,
   fun x => ⟨#[undef, undef, undef, undef, undef, undef, undef, undef, undef, undef, undef, undef, undef, undef, undef, undef, undef, undef, undef, undef, undef, undef, undef, undef, undef, undef, undef, x 5, undef, undef, undef, x 9, undef, undef, undef, x 13, undef, x 15, undef], []⟩,
   fun x => ⟨#[undef, undef, undef, undef, undef, undef, undef, undef, undef, undef, undef, undef, undef, undef, undef, undef, undef, undef, undef, undef, undef, undef, undef, undef, undef, undef, undef, undef, undef, undef, undef, undef, undef, undef, undef, undef, undef, undef, x 16], []⟩,
   fun x => ⟨#[undef, undef, undef, undef, undef, undef, undef, undef, undef, undef, undef, undef, undef, undef, undef, undef, undef, undef, undef, undef, undef, x 17, undef, undef, undef, undef, undef, undef, undef, undef, undef, undef, undef, undef, undef, undef, undef, undef, undef, undef], []⟩,
   fun x => ⟨#[undef, undef, undef, undef, undef, undef, undef, undef, undef, undef, undef, undef, undef, undef, undef, undef, undef, undef, undef, undef, undef, x 17, undef, undef, undef, undef, undef, undef, undef, undef, undef, undef, undef, undef, undef, undef, undef, undef, undef, undef, undef], []⟩,
   fun x => ⟨#[undef, undef, undef, undef, undef, undef, undef, undef, undef, undef, undef, undef, undef, undef, undef, undef, undef, undef, undef, undef, undef, x 17, undef, undef, undef, undef, undef, undef, undef, undef, undef, undef, undef, undef, undef, undef, undef, undef, undef, undef, undef, undef], []⟩,
   fun x => ⟨#[undef, undef, undef, undef, undef, undef, undef], []⟩,
   fun x => ⟨#[undef, undef, undef, undef, undef, undef, x 21, undef, undef, undef, undef, undef, undef, undef, undef, undef, undef, undef, undef, undef, undef, undef, undef, undef, undef, undef, undef, undef, undef, undef, undef, undef, undef, undef, undef, undef, undef, undef, undef, x 18], []⟩,
   fun x => ⟨#[undef, undef, undef, undef, undef, undef, undef, undef, undef, undef, undef, undef, undef, undef, undef, undef, undef, undef, undef, undef, undef, undef, undef, undef, undef, undef, undef, undef, undef, undef, undef, undef, undef, undef, undef, undef, undef, undef, undef, undef, x 19], []⟩,
   fun x => ⟨#[undef, undef, undef, undef, undef, undef, undef, undef, undef, undef, undef, undef, undef, undef, undef, undef, undef, undef, undef, undef, undef, undef, undef, undef, undef, undef, undef, undef, undef, undef, undef, undef, undef, undef, undef, undef, undef, undef, undef, undef, undef, x 20], []⟩]
    ?hF ?mono ?h0 ?step [0, 1, 2, 3, 4, 5, 6, 7, 8, 9, 10, 11, 12, 13, 14, 15, 16, 17, 19, 20, 22, 23, 24] (by kernel_rfl) ?fin
  case hF =>
    exact ⟨fun x => ⟨by kernel_rfl, by kernel_rfl⟩, fun x => ⟨by kernel_rfl, by kernel_rfl⟩, fun x => ⟨by kernel_rfl, by kernel_rfl⟩, fun x => ⟨by kernel_rfl, by kernel_rfl⟩, fun x => ⟨by kernel_rfl, by kernel_rfl⟩, fun x => ⟨by kernel_rfl, by kernel_rfl⟩, fun x => ⟨by kernel_rfl, by kernel_rfl⟩, fun x => ⟨by kernel_rfl, by kernel_rfl⟩, fun x => ⟨by kernel_rfl, by kernel_rfl⟩, fun x => ⟨by kernel_rfl, by kernel_rfl⟩, fun x => ⟨by kernel_rfl, by kernel_rfl⟩, fun x => ⟨by kernel_rfl, by kernel_rfl⟩, fun x => ⟨by kernel_rfl, by kernel_rfl⟩, fun x => ⟨by kernel_rfl, by kernel_rfl⟩, fun x => ⟨by kernel_rfl, by kernel_rfl⟩, fun x => ⟨by kernel_rfl, by kernel_rfl⟩, fun x => ⟨by kernel_rfl, by kernel_rfl⟩, fun x => ⟨by kernel_rfl, by kernel_rfl⟩, fun x => ⟨by kernel_rfl, by kernel_rfl⟩, fun x => ⟨by kernel_rfl, by kernel_rfl⟩, fun x => ⟨by kernel_rfl, by kernel_rfl⟩, fun x => ⟨by kernel_rfl, by kernel_rfl⟩, fun x => ⟨by kernel_rfl, by kernel_rfl⟩, fun x => ⟨by kernel_rfl, by kernel_rfl⟩, fun x => ⟨by kernel_rfl, by kernel_rfl⟩, trivial⟩
  case mono =>
    intro i j hi hj hne hna hnk v W W' hE hv
    rw [HV.out] at hv ⊢
    simp only [List.length_cons, List.length_nil] at hi hj
    match i, hi with
    | 0, _ | 1, _ | 2, _ | 3, _ | 4, _ | 5, _ | 6, _ | 7, _ | 8, _ | 9, _ | 10, _ | 11, _ | 12, _ | 13, _ | 14, _ | 15, _ | 20, _ | 22, _ | 24, _ => exact hv
    | 16, _ =>
      match j, hj with
      | 16, _ => exact absurd rfl hne
      | 0, _ => exact absurd (by simp) hna
      | 1, _ => exact absurd (by simp) hna
      | 2, _ => exact absurd (by simp) hna
      | 3, _ => exact absurd (by simp) hna
      | 4, _ => exact absurd (by simp) hna
      | 5, _ => exact absurd (by simp) hna
      | 6, _ => exact absurd (by simp) hna
      | 7, _ => exact absurd (by simp) hna
      | 8, _ => exact absurd (by simp) hna
      | 9, _ => exact absurd (by simp) hna
      | 10, _ => exact absurd (by simp) hna
      | 11, _ => exact absurd (by simp) hna
      | 12, _ => exact absurd (by simp) hna
      | 13, _ => exact absurd (by simp) hna
      | 14, _ => exact absurd (by simp) hna
      | 15, _ => exact absurd (by simp) hna
      | 17, _ => exact (by obtain ⟨a, c, b, d, e, h1, h2⟩ := hv; exact ⟨a, c, b, d, e, h1.go hE, h2.freshB hE⟩)
      | 18, _ => exact (by obtain ⟨a, c, b, d, e, h1, h2⟩ := hv; exact ⟨a, c, b, d, e, h1.go hE, h2.freshB hE⟩)
      | 19, _ => exact (by obtain ⟨a, c, b, d, e, h1, h2⟩ := hv; exact ⟨a, c, b, d, e, h1.go hE, h2.freshB hE⟩)
      | 20, _ => exact (by obtain ⟨a, c, b, d, e, h1, h2⟩ := hv; exact ⟨a, c, b, d, e, h1.go hE, h2.freshB hE⟩)
      | 21, _ => exact (by obtain ⟨a, c, b, d, e, h1, h2⟩ := hv; exact ⟨a, c, b, d, e, h1.go hE, h2.freshB hE⟩)
      | 22, _ => exact (by obtain ⟨a, c, b, d, e, h1, h2⟩ := hv; obtain ⟨gE, hz, ht, -⟩ := hE; exact ⟨a, c, b, d, e, h1.offE hz ht, h2.offEf hz ht⟩)
      | 23, _ => exact (by obtain ⟨a, c, b, d, e, h1, h2⟩ := hv; exact ⟨a, c, b, d, e, h1.go hE, h2.freshB hE⟩)
      | 24, _ => exact (by obtain ⟨a, c, b, d, e, h1, h2⟩ := hv; exact ⟨a, c, b, d, e, h1.go hE, h2.freshB hE⟩)
      | m + 25, h => exact absurd h (by omega)
    | 17, _ =>
      match j, hj with
      | 17, _ => exact absurd rfl hne
      | 0, _ => exact absurd (by simp) hna
      | 1, _ => exact absurd (by simp) hna
      | 2, _ => exact absurd (by simp) hna
      | 3, _ => exact absurd (by simp) hna
      | 4, _ => exact absurd (by simp) hna
      | 5, _ => exact absurd (by simp) hna
      | 6, _ => exact absurd (by simp) hna
      | 7, _ => exact absurd (by simp) hna
      | 8, _ => exact absurd (by simp) hna
      | 9, _ => exact absurd (by simp) hna
      | 10, _ => exact absurd (by simp) hna
      | 11, _ => exact absurd (by simp) hna
      | 12, _ => exact absurd (by simp) hna
      | 13, _ => exact absurd (by simp) hna
      | 14, _ => exact absurd (by simp) hna
      | 15, _ => exact absurd (by simp) hna
      | 16, _ => exact absurd (by simp) hna
      | 18, _ => exact (by obtain ⟨a, c, b, d, e, h1, h2⟩ := hv; exact ⟨a, c, b, d, e, h1.go hE, h2.freshB hE⟩)
      | 19, _ => exact (by obtain ⟨a, c, b, d, e, h1, h2⟩ := hv; exact ⟨a, c, b, d, e, h1.go hE, h2.freshB hE⟩)
      | 20, _ => exact (by obtain ⟨a, c, b, d, e, h1, h2⟩ := hv; exact ⟨a, c, b, d, e, h1.go hE, h2.freshB hE⟩)
      | 21, _ => exact (by obtain ⟨a, c, b, d, e, h1, h2⟩ := hv; exact ⟨a, c, b, d, e, h1.go hE, h2.freshB hE⟩)
      | 22, _ => exact (by obtain ⟨a, c, b, d, e, h1, h2⟩ := hv; obtain ⟨gE, hz, ht, -⟩ := hE; exact ⟨a, c, b, d, e, h1.offE hz ht, h2.offEf hz ht⟩)
      | 23, _ => exact (by obtain ⟨a, c, b, d, e, h1, h2⟩ := hv; exact ⟨a, c, b, d, e, h1.go hE, h2.freshB hE⟩)
      | 24, _ => exact (by obtain ⟨a, c, b, d, e, h1, h2⟩ := hv; exact ⟨a, c, b, d, e, h1.go hE, h2.freshB hE⟩)
      | m + 25, h => exact absurd h (by omega)
    | 18, _ =>
      match j, hj with
      | 18, _ => exact absurd rfl hne
      | 0, _ => exact absurd (by simp) hna
      | 1, _ => exact absurd (by simp) hna
      | 2, _ => exact absurd (by simp) hna
      | 3, _ => exact absurd (by simp) hna
      | 4, _ => exact absurd (by simp) hna
      | 5, _ => exact absurd (by simp) hna
      | 6, _ => exact absurd (by simp) hna
      | 7, _ => exact absurd (by simp) hna
      | 8, _ => exact absurd (by simp) hna
      | 9, _ => exact absurd (by simp) hna
      | 10, _ => exact absurd (by simp) hna
      | 11, _ => exact absurd (by simp) hna
      | 12, _ => exact absurd (by simp) hna
      | 13, _ => exact absurd (by simp) hna
      | 14, _ => exact absurd (by simp) hna
      | 15, _ => exact absurd (by simp) hna
      | 16, _ => exact absurd (by simp) hna
      | 17, _ => exact absurd (by simp) hna
      | 22, _ => exact absurd (by simp) hnk
      | 19, _ => exact (by obtain ⟨a, c, e, h1⟩ := hv; exact ⟨a, c, e, h1.go hE⟩)
      | 20, _ => exact (by obtain ⟨a, c, e, h1⟩ := hv; exact ⟨a, c, e, h1.go hE⟩)
      | 21, _ => exact (by obtain ⟨a, c, e, h1⟩ := hv; exact ⟨a, c, e, h1.go hE⟩)
      | 23, _ => exact (by obtain ⟨a, c, e, h1⟩ := hv; exact ⟨a, c, e, h1.go hE⟩)
      | 24, _ => exact (by obtain ⟨a, c, e, h1⟩ := hv; exact ⟨a, c, e, h1.go hE⟩)
      | m + 25, h => exact absurd h (by omega)
    | 19, _ =>
      match j, hj with
      | 19, _ => exact absurd rfl hne
      | 0, _ => exact absurd (by simp) hna
      | 1, _ => exact absurd (by simp) hna
      | 2, _ => exact absurd (by simp) hna
      | 3, _ => exact absurd (by simp) hna
      | 4, _ => exact absurd (by simp) hna
      | 5, _ => exact absurd (by simp) hna
      | 6, _ => exact absurd (by simp) hna
      | 7, _ => exact absurd (by simp) hna
      | 8, _ => exact absurd (by simp) hna
      | 9, _ => exact absurd (by simp) hna
      | 10, _ => exact absurd (by simp) hna
      | 11, _ => exact absurd (by simp) hna
      | 12, _ => exact absurd (by simp) hna
      | 13, _ => exact absurd (by simp) hna
      | 14, _ => exact absurd (by simp) hna
      | 15, _ => exact absurd (by simp) hna
      | 16, _ => exact absurd (by simp) hna
      | 17, _ => exact absurd (by simp) hna
      | 18, _ => exact (by obtain ⟨b, d, e, h2⟩ := hv; exact ⟨b, d, e, h2.freshB hE⟩)
      | 20, _ => exact (by obtain ⟨b, d, e, h2⟩ := hv; exact ⟨b, d, e, h2.freshB hE⟩)
      | 21, _ => exact (by obtain ⟨b, d, e, h2⟩ := hv; exact ⟨b, d, e, h2.freshB hE⟩)
      | 22, _ => exact (by obtain ⟨b, d, e, h2⟩ := hv; obtain ⟨gE, hz, ht, -⟩ := hE; exact ⟨b, d, e, h2.offEf hz ht⟩)
      | 23, _ => exact (by obtain ⟨b, d, e, h2⟩ := hv; exact ⟨b, d, e, h2.freshB hE⟩)
      | 24, _ => exact (by obtain ⟨b, d, e, h2⟩ := hv; exact ⟨b, d, e, h2.freshB hE⟩)
      | m + 25, h => exact absurd h (by omega)
    | 21, _ =>
      match j, hj with
      | 21, _ => exact absurd rfl hne
      | 22, _ => exact absurd (by simp) hnk
      | 0, _ => exact (by obtain ⟨gE, h1, h2, h3⟩ := hv; exact ⟨gE, h1, h2, h3.go hE⟩)
      | 1, _ => exact (by obtain ⟨gE, h1, h2, h3⟩ := hv; exact ⟨gE, h1, h2, h3.go hE⟩)
      | 2, _ => exact (by obtain ⟨gE, h1, h2, h3⟩ := hv; exact ⟨gE, h1, h2, h3.go hE⟩)
      | 3, _ => exact (by obtain ⟨gE, h1, h2, h3⟩ := hv; exact ⟨gE, h1, h2, h3.go hE⟩)
      | 4, _ => exact (by obtain ⟨gE, h1, h2, h3⟩ := hv; exact ⟨gE, h1, h2, h3.go hE⟩)
      | 5, _ => exact (by obtain ⟨gE, h1, h2, h3⟩ := hv; exact ⟨gE, h1, h2, h3.go hE⟩)
      | 6, _ => exact (by obtain ⟨gE, h1, h2, h3⟩ := hv; exact ⟨gE, h1, h2, h3.go hE⟩)
      | 7, _ => exact (by obtain ⟨gE, h1, h2, h3⟩ := hv; exact ⟨gE, h1, h2, h3.go hE⟩)
      | 8, _ => exact (by obtain ⟨gE, h1, h2, h3⟩ := hv; exact ⟨gE, h1, h2, h3.go hE⟩)
      | 9, _ => exact (by obtain ⟨gE, h1, h2, h3⟩ := hv; exact ⟨gE, h1, h2, h3.go hE⟩)
      | 10, _ => exact (by obtain ⟨gE, h1, h2, h3⟩ := hv; exact ⟨gE, h1, h2, h3.go hE⟩)
      | 11, _ => exact (by obtain ⟨gE, h1, h2, h3⟩ := hv; exact ⟨gE, h1, h2, h3.go hE⟩)
      | 12, _ => exact (by obtain ⟨gE, h1, h2, h3⟩ := hv; exact ⟨gE, h1, h2, h3.go hE⟩)
      | 13, _ => exact (by obtain ⟨gE, h1, h2, h3⟩ := hv; exact ⟨gE, h1, h2, h3.go hE⟩)
      | 14, _ => exact (by obtain ⟨gE, h1, h2, h3⟩ := hv; exact ⟨gE, h1, h2, h3.go hE⟩)
      | 15, _ => exact (by obtain ⟨gE, h1, h2, h3⟩ := hv; exact ⟨gE, h1, h2, h3.go hE⟩)
      | 16, _ => exact (by obtain ⟨gE, h1, h2, h3⟩ := hv; exact ⟨gE, h1, h2, h3.go hE⟩)
      | 17, _ => exact (by obtain ⟨gE, h1, h2, h3⟩ := hv; exact ⟨gE, h1, h2, h3.go hE⟩)
      | 18, _ => exact (by obtain ⟨gE, h1, h2, h3⟩ := hv; exact ⟨gE, h1, h2, h3.go hE⟩)
      | 19, _ => exact (by obtain ⟨gE, h1, h2, h3⟩ := hv; exact ⟨gE, h1, h2, h3.go hE⟩)
      | 20, _ => exact (by obtain ⟨gE, h1, h2, h3⟩ := hv; exact ⟨gE, h1, h2, h3.go hE⟩)
      | 23, _ => exact (by obtain ⟨gE, h1, h2, h3⟩ := hv; exact ⟨gE, h1, h2, h3.go hE⟩)
      | 24, _ => exact (by obtain ⟨gE, h1, h2, h3⟩ := hv; exact ⟨gE, h1, h2, h3.go hE⟩)
      | m + 25, h => exact absurd h (by omega)
    | 23, _ =>
      match j, hj with
      | 23, _ => exact absurd rfl hne
      | 0, _ => exact absurd (by simp) hna
      | 1, _ => exact absurd (by simp) hna
      | 2, _ => exact absurd (by simp) hna
      | 3, _ => exact absurd (by simp) hna
      | 4, _ => exact absurd (by simp) hna
      | 5, _ => exact absurd (by simp) hna
      | 6, _ => exact absurd (by simp) hna
      | 7, _ => exact absurd (by simp) hna
      | 8, _ => exact absurd (by simp) hna
      | 9, _ => exact absurd (by simp) hna
      | 10, _ => exact absurd (by simp) hna
      | 11, _ => exact absurd (by simp) hna
      | 12, _ => exact absurd (by simp) hna
      | 13, _ => exact absurd (by simp) hna
      | 14, _ => exact absurd (by simp) hna
      | 15, _ => exact absurd (by simp) hna
      | 16, _ => exact absurd (by simp) hna
      | 17, _ => exact absurd (by simp) hna
      | 19, _ => exact absurd (by simp) hna
      | 18, _ => exact (by obtain ⟨b, d, e, h2⟩ := hv; exact ⟨b, d, e, h2.freshB hE⟩)
      | 20, _ => exact (by obtain ⟨b, d, e, h2⟩ := hv; exact ⟨b, d, e, h2.freshB hE⟩)
      | 21, _ => exact (by obtain ⟨b, d, e, h2⟩ := hv; exact ⟨b, d, e, h2.freshB hE⟩)
      | 22, _ => exact (by obtain ⟨b, d, e, h2⟩ := hv; obtain ⟨gE, hz, ht, -⟩ := hE; exact ⟨b, d, e, h2.offEf hz ht⟩)
      | 24, _ => exact (by obtain ⟨b, d, e, h2⟩ := hv; exact ⟨b, d, e, h2.freshB hE⟩)
      | m + 25, h => exact absurd h (by omega)
    | m + 25, h => exact absurd h (by omega)
  case h0 => intro x; exact toI HIp ⟨(Below.refl _ _).drew, (fun h => by cases h)⟩
  case step =>
    refine ⟨?_, ?_, ?_, ?_, ?_, ?_, ?_, ?_, ?_, ?_, ?_, ?_, ?_, ?_, ?_, ?_, ?_, ?_, ?_, ?_, ?_, ?_, ?_, ?_, ?_, trivial⟩
    all_goals
      intro x W L hI hL hV
      replace hI : (Below w.heap.size w W ∧ (L 22 = true → ∃ gE a c, x 21 = .pointer (some ⟨gE, 0, none⟩) ∧ w.heap.size ≤ gE ∧ Blk gE (.cells #[.int .i64 ys, .int .i64 (yh + 1), .slice a lst.length c] 71 (0, 0)) W ∧ EdL w.heap.size lst a c W)) := ofI HIp hI
      rw [HV.out] at hV
      simp only [AllV, and_true] at hV
    · clear hV
      (try dsimp only)
      have HI := Lib.hid hI
      clear hI
      go_wp2_with fail
      refine step3_done rfl ?_ ?_ ?_
      · exact (toI HIp HI.out)
      · exact (Below.refl _ _)
      · exact (toV HV rfl)
    · clear hV
      (try dsimp only)
      have HI := Lib.hid hI
      clear hI
      go_wp2_with fail
      refine step3_done rfl ?_ ?_ ?_
      · exact (toI HIp HI.out)
      · exact (Below.refl _ _)
      · exact (toV HV rfl)
    · have u0 := hV
      clear hV
      simp only [u0]
      clear u0
      have HI := Lib.hid hI
      clear hI
      go_wp2_with fail
      refine step3_done rfl ?_ ?_ ?_
      · exact (toI HIp HI.out)
      · exact (Below.refl _ _)
      · exact (toV HV rfl)
    · have u2 := hV
      clear hV
      simp only [u2]
      clear u2
      have HI := Lib.hid hI
      clear hI
      go_wp2_with fail
      refine step3_done rfl ?_ ?_ ?_
      · exact (toI HIp HI.out)
      · exact (Below.refl _ _)
      · exact (toV HV rfl)
    · obtain ⟨u1, u3⟩ := hV
      simp only [u1, u3]
      clear u1 u3
      have HI := Lib.hid hI
      clear hI
      go_wp2_with fail
      refine step3_done rfl ?_ ?_ ?_
      · exact (toI HIp HI.out)
      · exact (Below.refl _ _)
      · exact (toV HV rfl)
    · have u4 := hV
      clear hV
      simp only [u4]
      clear u4
      obtain ⟨q0, q1, q2', q3, q4, q5, q6, q7, q8, q9⟩ := blk10_cells (BX.out.go hI.1)
      have HI := Lib.hid hI
      clear hI
      go_wp2_with fail
      refine step3_done rfl ?_ ?_ ?_
      · exact (toI HIp HI.out)
      · exact (Below.refl _ _)
      · exact (toV HV rfl)
    · clear hV
      (try dsimp only)
      have HI := Lib.hid hI
      clear hI
      go_wp2_with fail
      refine step3_done rfl ?_ ?_ ?_
      · exact (toI HIp HI.out)
      · exact (Below.refl _ _)
      · exact (toV HV rfl)
    · have u6 := hV
      clear hV
      simp only [u6]
      clear u6
      have HI := Lib.hid hI
      clear hI
      go_wp2_with fail
      refine step3_done rfl ?_ ?_ ?_
      · exact (toI HIp HI.out)
      · exact (Below.refl _ _)
      · exact (toV HV rfl)
    · have u7 := hV
      clear hV
      simp only [u7]
      clear u7
      have HI := Lib.hid hI
      clear hI
      go_wp2_with fail
      refine step3_done rfl ?_ ?_ ?_
      · exact (toI HIp HI.out)
      · exact (Below.refl _ _)
      · exact (toV HV rfl)
    · have u8 := hV
      clear hV
      simp only [u8]
      clear u8
      have kk := (hI.1.cell (p := ⟨qg, qo + 3, none⟩) hqb).trans k3
      have HI := Lib.hid hI
      clear hI
      go_wp2_with fail
      refine step3_done rfl ?_ ?_ ?_
      · exact (toI HIp HI.out)
      · exact (Below.refl _ _)
      · exact (toV HV rfl)
    · clear hV
      (try dsimp only)
      have HI := Lib.hid hI
      clear hI
      go_wp2_with fail
      refine step3_done rfl ?_ ?_ ?_
      · exact (toI HIp HI.out)
      · exact (Below.refl _ _)
      · exact (toV HV rfl)
    · have u10 := hV
      clear hV
      simp only [u10]
      clear u10
      have HI := Lib.hid hI
      clear hI
      go_wp2_with fail
      refine step3_done rfl ?_ ?_ ?_
      · exact (toI HIp HI.out)
      · exact (Below.refl _ _)
      · exact (toV HV rfl)
    · have u11 := hV
      clear hV
      simp only [u11]
      clear u11
      have HI := Lib.hid hI
      clear hI
      go_wp2_with fail
      refine step3_done rfl ?_ ?_ ?_
      · exact (toI HIp HI.out)
      · exact (Below.refl _ _)
      · exact (toV HV rfl)
    · have u12 := hV
      clear hV
      simp only [u12]
      clear u12
      have kk := (hI.1.cell (p := ⟨qg, qo + 1, none⟩) hqb).trans k1
      have HI := Lib.hid hI
      clear hI
      go_wp2_with fail
      refine step3_done rfl ?_ ?_ ?_
      · exact (toI HIp HI.out)
      · exact (Below.refl _ _)
      · exact (toV HV rfl)
    · clear hV
      (try dsimp only)
      have HI := Lib.hid hI
      clear hI
      go_wp2_with fail
      refine step3_done rfl ?_ ?_ ?_
      · exact (toI HIp HI.out)
      · exact (Below.refl _ _)
      · exact (toV HV rfl)
    · have u14 := hV
      clear hV
      simp only [u14]
      clear u14
      have HI := Lib.hid hI
      clear hI
      go_wp2_with fail
      refine step3_done rfl ?_ ?_ ?_
      · exact (toI HIp HI.out)
      · exact (Below.refl _ _)
      · exact (toV HV rfl)
    · obtain ⟨u5, u9, u13, u15⟩ := hV
      simp only [u5, u9, u13, u15]
      clear u5 u9 u13 u15
      have HL := Lib.hid hL
      have HI := Lib.hid hI
      have hzW := hI.1.size
      clear hI hL
      go_wp2_with fail
      refine (HHr.out _ _ _ _ _ (Hg.out.below' HI.out.1) (RM.out.go HI.out.1) (HFr.out.go HI.out.1)).mono ?_
      rintro e W' ⟨a', c', b', d', rfl, hl, hr, hb⟩
      go_wp2_with fail
      refine step3_done rfl ?_ ?_ ?_
      · exact (toI HIp ⟨up HI.out.1 hb, fun h => absurd ((HL.out.2 22 (by simp)).symm.trans h) (by simp)⟩)
      · exact hb
      · exact (toV HV ⟨_, _, _, _, rfl, ⟨hl.1.mono fun z hz => ⟨⟨Nat.le_trans hzW hz.1, hz.2⟩, rfl⟩, hl.2⟩, hr.mono fun z hz => ⟨⟨Nat.le_trans hzW hz.1, hz.2⟩, rfl⟩⟩)
    · obtain ⟨a16, c16, b16, d16, u16, l16, r16⟩ := hV
      simp only [u16]
      have U16 := Lib.hid u16
      clear u16
      have HI := Lib.hid hI
      clear hI
      go_wp2_with fail
      refine step3_done rfl ?_ ?_ ?_
      · exact (toI HIp HI.out)
      · exact (Below.refl _ _)
      · exact (toV HV ⟨_, _, _, _, rfl, l16, r16⟩)
    · obtain ⟨a17, c17, b17, d17, u17, l17, r17⟩ := hV
      simp only [u17]
      have U17 := Lib.hid u17
      clear u17
      have HI := Lib.hid hI
      clear hI
      go_wp2_with fail
      refine step3_done rfl ?_ ?_ ?_
      · exact (toI HIp HI.out)
      · exact (Below.refl _ _)
      · exact (toV HV ⟨_, _, rfl, l17⟩)
    · obtain ⟨a17, c17, b17, d17, u17, l17, r17⟩ := hV
      simp only [u17]
      have U17 := Lib.hid u17
      clear u17
      have HI := Lib.hid hI
      clear hI
      go_wp2_with fail
      refine step3_done rfl ?_ ?_ ?_
      · exact (toI HIp HI.out)
      · exact (Below.refl _ _)
      · exact (toV HV ⟨_, _, rfl, r17⟩)
    · obtain ⟨a17, c17, b17, d17, u17, l17, r17⟩ := hV
      simp only [u17]
      have U17 := Lib.hid u17
      clear u17
      have HI := Lib.hid hI
      clear hI
      go_wp2_with fail
      refine step3_done rfl ?_ ?_ ?_
      · exact (toI HIp HI.out)
      · exact (Below.refl _ _)
      · exact (toV HV rfl)
    · clear hV
      (try dsimp only)
      have HL := Lib.hid hL
      have HI := Lib.hid hI
      have hzW := hI.1.size
      clear hI hL
      go_wp2_with fail
      have uW : ∀ o, Below W.heap.size W (W.alloc o) := fun o => (Below.refl _ _).alloc (Nat.le_refl _) o
      refine step3_done rfl ?_ ?_ ?_
      · exact (toI HIp ⟨up HI.out.1 (uW _), fun h => absurd ((HL.out.2 22 (by simp)).symm.trans h) (by simp)⟩)
      · exact (uW _)
      · exact (toV HV ⟨_, rfl, hzW, Blk.new _ _⟩)
    · obtain ⟨⟨a18, c18, u18, l18⟩, ⟨g21, u21, l21, b21⟩⟩ := hV
      simp only [u21, u18]
      have U18 := Lib.hid u18
      have U21 := Lib.hid u21
      clear u18 u21
      obtain ⟨q0, q1, q2'⟩ := blk3_cells b21
      have fW := b21.frozen
      have hg9 := b21.lt
      have HT := Lib.hid (touch3 (g := g21) (w := W) (.int .i64 ys) (.int .i64 (yh + 1)) (.slice a18 lst.length c18))
      have HN := Lib.hid (b21.set3 (.int .i64 ys) (.int .i64 (yh + 1)) (.slice a18 lst.length c18))
      have HL2 := Lib.hid (l18.offE b21 HT.out)
      have HI := Lib.hid hI
      have HB9 := Lib.hid b21
      clear hI b21 l18
      go_wp2_with fail
      refine step3_done (v := undef) rfl ?_ ?_ ?_
      · exact (toI HIp ⟨HI.out.1.trans (HT.out.toBelow HI.out.1.size (fun k hk => by omega)), fun _ => ⟨g21, a18, c18, U21.out, l21, HN.out, HL2.out⟩⟩)
      · exact ⟨g21, HB9.out, HT.out, l21⟩
      · exact (toV HV rfl)
    · obtain ⟨b19, d19, u19, r19⟩ := hV
      simp only [u19]
      have U19 := Lib.hid u19
      clear u19
      have HI := Lib.hid hI
      clear hI
      go_wp2_with fail
      refine step3_done rfl ?_ ?_ ?_
      · exact (toI HIp HI.out)
      · exact (Below.refl _ _)
      · exact (toV HV ⟨_, _, rfl, r19⟩)
    · have u20 := hV
      clear hV
      simp only [u20]
      clear u20
      have HI := Lib.hid hI
      clear hI
      go_wp2_with fail
      refine step3_done rfl ?_ ?_ ?_
      · exact (toI HIp HI.out)
      · exact (Below.refl _ _)
      · exact (toV HV rfl)
  case fin =>
    intro x W L hL hI hV
    replace hI : (Below w.heap.size w W ∧ (L 22 = true → ∃ gE a c, x 21 = .pointer (some ⟨gE, 0, none⟩) ∧ w.heap.size ≤ gE ∧ Blk gE (.cells #[.int .i64 ys, .int .i64 (yh + 1), .slice a lst.length c] 71 (0, 0)) W ∧ EdL w.heap.size lst a c W)) := ofI HIp hI
    rw [HV.out] at hV
    simp only [AllV, and_true] at hV
    obtain ⟨u0, u1, u2, u3, u4, u5, u6, u7, u8, u9, u10, u11, u12, u13, u14, u15, ⟨a16, c16, b16, d16, u16, l16, r16⟩, ⟨a17, c17, b17, d17, u17, l17, r17⟩, ⟨b19, d19, u19, r19⟩, u20, u22, ⟨b23, d23, u23, r23⟩, u24⟩ := hV
    simp only [getsD, List.getD_cons_succ, List.getD_cons_zero, List.length_cons, List.length_nil, List.range, List.range.loop, u0, u1, u2, u3, u4, u5, u6, u7, u8, u9, u10, u11, u12, u13, u14, u15, u16, u17, u19, u20, u22, u23, u24, Act.put, List.setIfInBounds_toArray, List.set_cons_succ, List.set_cons_zero]
    clear u0 u1 u2 u3 u4 u5 u6 u7 u8 u9 u10 u11 u12 u13 u14 u15 u16 u17 u19 u20 u22 u23 u24
    obtain ⟨gE, aE, cE, hxE, hlE, bE, lE⟩ := hI.2 (hL 22 (by simp))
    have hb := hI.1
    simp only [hxE]
    obtain ⟨w1, rfl⟩ : ∃ x : World, x = W := ⟨_, rfl⟩
    have B1 := Lib.hid hb
    have XE1 := Lib.hid bE
    have LE1 := Lib.hid lE
    have RO1 := Lib.hid r23
    obtain ⟨c0, c1, c2, c3, c4, c5, c6, c7, c8, c9⟩ := blk10_cells (BX.out.go hb)
    clear hI hL hb bE lE r23 HHr HFr RM k1 k3
    go_wp2_with fail
    refine (HAp.out _ _ _ _ (Hg.out.below' B1.out) (RO1.out.wide fun z hz => hz.2)).mono ?_
    rintro e w2 ⟨rfl, b2⟩
    have B2 := Lib.hid (up B1.out b2)
    have XE2 := Lib.hid (XE1.out.go b2)
    have LE2 := Lib.hid (LE1.out.go b2)
    have M2 := Lib.hid (HM.out.go B2.out)
    have BX2 := Lib.hid (BX.out.go B2.out)
    have hz2 := B2.out.size
    clear b2 B1 XE1 LE1 RO1 BX HAp c0 c1 c2 c3 c4 c5 c6 c7 c8 c9
    go_wp2_with fail
    obtain ⟨Vp, HV⟩ : ∃ Vp : Nat → Value → World → Prop, Hid (Vp = fun i v W => match i with
        | 0 => v = .pointer (some ⟨g, 0, none⟩)
        | 1 => v = .int .i64 1
        | 2 => v = .pointer (some ⟨g, 0, none⟩)
        | 3 => v = .int .i64 1
        | 4 => v = .pointer (some ⟨g, 0, none⟩)
        | 5 => v = .int .i64 1
        | 6 => v = .int .i64 0
        | 7 => v = .string Tn
        | 8 => v = .agg #[.int .i64 ys, .int .i64 (yh + 1), .slice aE lst.length cE]
        | 9 => v = .slice (some ⟨qg, qo, none⟩) (nF + 1) qc
        | 10 => v = .slice (some ⟨qg, q2, none⟩) nF qc2
        | 11 => v = .pointer (some ⟨g, 0, none⟩)
        | 12 => v = .pointer (some ⟨g, 0, none⟩)
        | 13 => v = .pointer (some ⟨g, 1, none⟩)
        | 14 => v = undef
        | 15 => v = .pointer (some ⟨g, 0, none⟩)
        | 16 => v = .pointer (some ⟨g, 2, none⟩)
        | 17 => v = .pointer (some ⟨g, 5, none⟩)
        | 18 => v = undef
        | 19 => v = .pointer (some ⟨g, 0, none⟩)
        | 20 => v = .pointer (some ⟨g, 8, none⟩)
        | 21 => v = .pointer (some ⟨g, 8, none⟩)
        | _ => v = undef) := ⟨_, rfl⟩
    obtain ⟨Ip, HIp⟩ : ∃ Ip : (Nat → Bool) → (Nat → Value) → World → Prop, Hid (Ip = fun L x W => (Touch (fun z => z = g) w2 W ∧ Blk g (.cells #[.string xt, cond (L 14) (.string Tn) (.string yt), .int .i64 xs, .int .i64 xh, .slice ax xl.length cx, cond (L 18) (.int .i64 ys) (.int .i64 ys), cond (L 18) (.int .i64 (yh + 1)) (.int .i64 yh), cond (L 18) (.slice aE lst.length cE) (.slice ay yl.length cy), cond (L 22) (.slice (some ⟨qg, q2, none⟩) nF qc2) (.slice (some ⟨qg, qo, none⟩) (nF + 1) qc), vy] 86 (0, 0)) W)) := ⟨_, rfl⟩
    refine region_lit3 (by kernel_rfl) (by kernel_rfl) (by kernel_rfl) [[], [], [], [], [], [], [5], [], [], [], [9], [0], [0, 11], [0, 1, 11, 12], [0, 1, 7, 11, 12, 13], [2], [2, 15], [2, 3, 15, 16], [2, 3, 8, 15, 16, 17], [4], [4, 19], [4, 5, 6, 19, 20], [4, 5, 6, 9, 10, 19, 20, 21]] (by kernel_rfl) [some 53, some 54, some 55, some 56, some 57, some 58, some 59, some 60, some 61, some 62, some 63, some 64, some 65, some 66, none, some 67, some 68, some 69, none, some 70, some 71, some 72, none] (by kernel_rfl) [[0, 11, 12, 13, 14], [1, 13, 14], [2, 15, 16, 17, 18], [3, 17, 18], [4, 19, 20, 21, 22], [5, 6, 21, 22], [6, 21, 22], [7, 14], [8, 18], [9, 10, 22], [10, 22], [11, 12, 13, 14], [12, 13, 14], [13, 14], [14], [15, 16, 17, 18], [16, 17, 18], [17, 18], [18], [19, 20, 21, 22], [20, 21, 22], [21, 22], [22]] (by kernel_rfl) [[], [], [], [], [], [], [], [], [], [], [], [], [], [], [], [], [], [], [], [], [], [], []] [[], [], [], [], [], [], [5], [], [], [], [9], [0], [11], [1, 12], [7, 13], [2], [15], [3, 16], [8, 17], [4], [19], [6, 20], [10, 21]] (by kernel_rfl)
      Ip
      Vp
      (fun j W W' => match j with
        | 14 => Touch (fun z => z = g) W W'
        | 18 => Touch (fun z => z = g) W W'
        | 22 => Touch (fun z => z = g) W W'
        | _ => Below W.heap.size W W')
      [fun x => ⟨#[.pointer (some ⟨g, 0, none⟩), undef, undef, undef, undef, undef, undef, undef, undef, undef, undef, undef, undef, undef, undef, undef, undef, undef, undef, undef, undef, undef, undef, undef, undef, undef, undef, undef, undef, undef, undef, undef, undef, undef, undef, undef, undef, undef, undef, undef, undef, undef, undef, undef, undef, undef, undef, undef, undef, undef, undef, undef, undef, undef], []⟩,
   fun x => ⟨#[undef, .int .i64 1, undef, undef, undef, undef, undef, undef, undef, undef, undef, undef, undef, undef, undef, undef, undef, undef, undef, undef, undef, undef, undef, undef, undef, undef, undef, undef, undef, undef, undef, undef, undef, undef, undef, undef, undef, undef, undef, undef, undef, undef, undef, undef, undef, undef, undef, undef, undef, undef, undef, undef, undef, undef, undef], []⟩,
   fun x => ⟨#[.pointer (some ⟨g, 0, none⟩), undef, undef, undef, undef, undef, undef, undef, undef, undef, undef, undef, undef, undef, undef, undef, undef, undef, undef, undef, undef, undef, undef, undef, undef, undef, undef, undef, undef, undef, undef, undef, undef, undef, undef, undef, undef, undef, undef, undef, undef, undef, undef, undef, undef, undef, undef, undef, undef, undef, undef, undef, undef, undef, undef, undef], []⟩,
   fun x => ⟨#[undef, .int .i64 1, undef, undef, undef, undef, undef, undef, undef, undef, undef, undef, undef, undef, undef, undef, undef, undef, undef, undef, undef, undef, undef, undef, undef, undef, undef, undef, undef, undef, undef, undef, undef, undef, undef, undef, undef, undef, undef, undef, undef, undef, undef, undef, undef, undef, undef, undef, undef, undef, undef, undef, undef, undef, undef, undef, undef], []⟩,
   fun x => ⟨#[.pointer (some ⟨g, 0, none⟩), undef, undef, undef, undef, undef, undef, undef, undef, undef, undef, undef, undef, undef, undef, undef, undef, undef, undef, undef, undef, undef, undef, undef, undef, undef, undef, undef, undef, undef, undef, undef, undef, undef, undef, undef, undef, undef, undef, undef, undef, undef, undef, undef, undef, undef, undef, undef, undef, undef, undef, undef, undef, undef, undef, undef, undef, undef], []⟩,
   fun x => ⟨#[undef, .int .i64 1, undef, undef, undef, undef, undef, undef, undef, undef, undef, undef, undef, undef, undef, undef, undef, undef, undef, undef, undef, undef, undef, undef, undef, undef, undef, undef, undef, undef, undef, undef, undef, undef, undef, undef, undef, undef, undef, undef, undef, undef, undef, undef, undef, undef, undef, undef, undef, undef, undef, undef, undef, undef, undef, undef, undef, undef, undef], []⟩,
   fun x => ⟨#[undef, undef, undef, undef, undef, undef, undef, undef, undef, undef, undef, undef, undef, undef, undef, undef, undef, undef, undef, undef, undef, undef, undef, undef, undef, undef, undef, undef, undef, undef, undef, undef, undef, undef, undef, undef, undef, undef, undef, undef, undef, undef, undef, undef, undef, undef, undef, undef, undef, undef, undef, undef, undef, undef, undef, undef, undef, undef, x 5, undef], []⟩,
   fun x => ⟨#[undef, undef, undef, undef, undef, undef, undef, undef, undef, .string Tn, undef, undef, undef, undef, undef, undef, undef, undef, undef, undef, undef, undef, undef, undef, undef, undef, undef, undef, undef, undef, undef, undef, undef, undef, undef, undef, undef, undef, undef, undef, undef, undef, undef, undef, undef, undef, undef, undef, undef, undef, undef, undef, undef, undef, undef, undef, undef, undef, undef, undef, undef], []⟩,
   fun x => ⟨#[undef, undef, undef, undef, undef, undef, .pointer (some ⟨gE, 0, none⟩), undef, undef, undef, undef, undef, undef, undef, undef, undef, undef, undef, undef, undef, undef, undef, undef, undef, undef, undef, undef, undef, undef, undef, undef, undef, undef, undef, undef, undef, undef, undef, undef, undef, undef, undef, undef, undef, undef, undef, undef, undef, undef, undef, undef, undef, undef, undef, undef, undef, undef, undef, undef, undef, undef, undef], []⟩,
   fun x => ⟨#[undef, undef, undef, undef, undef, .slice (some ⟨qg, qo, none⟩) (nF + 1) qc, undef, undef, undef, undef, undef, undef, undef, undef, undef, undef, undef, undef, undef, undef, undef, undef, undef, undef, undef, undef, undef, undef, undef, undef, undef, undef, undef, undef, undef, undef, undef, undef, undef, undef, undef, undef, undef, undef, undef, undef, undef, undef, undef, undef, undef, undef, undef, undef, undef, undef, undef, undef, undef, undef, undef, undef, undef], []⟩,
   fun x => ⟨#[undef, undef, undef, undef, undef, undef, undef, undef, undef, undef, undef, undef, undef, undef, undef, undef, undef, undef, undef, undef, undef, undef, undef, undef, undef, undef, undef, undef, undef, undef, undef, undef, undef, undef, undef, undef, undef, undef, undef, undef, undef, undef, undef, undef, undef, undef, undef, undef, undef, undef, undef, undef, undef, undef, undef, undef, undef, undef, undef, undef, undef, undef, x 9, undef], []⟩,
   fun x => ⟨#[undef, undef, undef, undef, undef, undef, undef, undef, undef, undef, undef, undef, undef, undef, undef, undef, undef, undef, undef, undef, undef, undef, undef, undef, undef, undef, undef, undef, undef, undef, undef, undef, undef, undef, undef, undef, undef, undef, undef, undef, undef, undef, undef, undef, undef, undef, undef, undef, undef, undef, undef, undef, undef, x 0, undef, undef, undef, undef, undef, undef, undef, undef, undef, undef, undef], []⟩,
   fun x => ⟨#[undef, undef, undef, undef, undef, undef, undef, undef, undef, undef, undef, undef, undef, undef, undef, undef, undef, undef, undef, undef, undef, undef, undef, undef, undef, undef, undef, undef, undef, undef, undef, undef, undef, undef, undef, undef, undef, undef, undef, undef, undef, undef, undef, undef, undef, undef, undef, undef, undef, undef, undef, undef, undef, undef, undef, undef, undef, undef, undef, undef, undef, undef, undef, undef, x 11, undef], []⟩,
   fun x => ⟨#[undef, undef, undef, undef, undef, undef, undef, undef, undef, undef, undef, undef, undef, undef, undef, undef, undef, undef, undef, undef, undef, undef, undef, undef, undef, undef, undef, undef, undef, undef, undef, undef, undef, undef, undef, undef, undef, undef, undef, undef, undef, undef, undef, undef, undef, undef, undef, undef, undef, undef, undef, undef, undef, undef, x 1, undef, undef, undef, undef, undef, undef, undef, undef, undef, undef, x 12, undef], []⟩,
   fun x => ⟨#[undef, undef, undef, undef, undef, undef, undef, undef, undef, undef, undef, undef, undef, undef, undef, undef, undef, undef, undef, undef, undef, undef, undef, undef, undef, undef, undef, undef, undef, undef, undef, undef, undef, undef, undef, undef, undef, undef, undef, undef, undef, undef, undef, undef, undef, undef, undef, undef, undef, undef, undef, undef, undef, undef, undef, undef, undef, undef, undef, undef, x 7, undef, undef, undef, undef, undef, x 13], []⟩,
   fun x => ⟨#[undef, undef, undef, undef, undef, undef, undef, undef, undef, undef, undef, undef, undef, undef, undef, undef, undef, undef, undef, undef, undef, undef, undef, undef, undef, undef, undef, undef, undef, undef, undef, undef, undef, undef, undef, undef, undef, undef, undef, undef, undef, undef, undef, undef, undef, undef, undef, undef, undef, undef, undef, undef, undef, undef, undef, x 2, undef, undef, undef, undef, undef, undef, undef, undef, undef, undef, undef, undef], []⟩,
   fun x => ⟨#[undef, undef, undef, undef, undef, undef, undef, undef, undef, undef, undef, undef, undef, undef, undef, undef, undef, undef, undef, undef, undef, undef, undef, undef, undef, undef, undef, undef, undef, undef, undef, undef, undef, undef, undef, undef, undef, undef, undef, undef, undef, undef, undef, undef, undef, undef, undef, undef, undef, undef, undef, undef, undef, undef, undef, undef, undef, undef, undef, undef, undef, undef, undef, undef, undef, undef, undef, x 15, undef], []⟩,
   fun x => ⟨#[undef, undef, undef, undef, undef, undef, undef, undef, undef, undef, undef, undef, undef, undef, undef, undef, undef, undef, undef, undef, undef, undef, undef, undef, undef, undef, undef, undef, undef, undef, undef, undef, undef, undef, undef, undef, undef, undef, undef, undef, undef, undef, undef, undef, undef, undef, undef, undef, undef, undef, undef, undef, undef, undef, undef, undef, x 3, undef, undef, undef, undef, undef, undef, undef, undef, undef, undef, undef, x 16, undef], []⟩,
   fun x => ⟨#[undef, undef, undef, undef, undef, undef, undef, undef, undef, undef, undef, undef, undef, undef, undef, undef, undef, undef, undef, undef, undef, undef, undef, undef, undef, undef, undef, undef, undef, undef, undef, undef, undef, undef, undef, undef, undef, undef, undef, undef, undef, undef, undef, undef, undef, undef, undef, undef, undef, undef, undef, undef, undef, undef, undef, undef, undef, undef, undef, undef, undef, x 8, undef, undef, undef, undef, undef, undef, undef, x 17], []⟩,
   fun x => ⟨#[undef, undef, undef, undef, undef, undef, undef, undef, undef, undef, undef, undef, undef, undef, undef, undef, undef, undef, undef, undef, undef, undef, undef, undef, undef, undef, undef, undef, undef, undef, undef, undef, undef, undef, undef, undef, undef, undef, undef, undef, undef, undef, undef, undef, undef, undef, undef, undef, undef, undef, undef, undef, undef, undef, undef, undef, undef, x 4, undef, undef, undef, undef, undef, undef, undef, undef, undef, undef, undef, undef, undef], []⟩,
   fun x => ⟨#[undef, undef, undef, undef, undef, undef, undef, undef, undef, undef, undef, undef, undef, undef, undef, undef, undef, undef, undef, undef, undef, undef, undef, undef, undef, undef, undef, undef, undef, undef, undef, undef, undef, undef, undef, undef, undef, undef, undef, undef, undef, undef, undef, undef, undef, undef, undef, undef, undef, undef, undef, undef, undef, undef, undef, undef, undef, undef, undef, undef, undef, undef, undef, undef, undef, undef, undef, undef, undef, undef, x 19, undef], []⟩,
   fun x => ⟨#[undef, undef, undef, undef, undef, undef, undef, undef, undef, undef, undef, undef, undef, undef, undef, undef, undef, undef, undef, undef, undef, undef, undef, undef, undef, undef, undef, undef, undef, undef, undef, undef, undef, undef, undef, undef, undef, undef, undef, undef, undef, undef, undef, undef, undef, undef, undef, undef, undef, undef, undef, undef, undef, undef, undef, undef, undef, undef, undef, x 6, undef, undef, undef, undef, undef, undef, undef, undef, undef, undef, undef, x 20, undef], []⟩,
   fun x => ⟨#[undef, undef, undef, undef, undef, undef, undef, undef, undef, undef, undef, undef, undef, undef, undef, undef, undef, undef, undef, undef, undef, undef, undef, undef, undef, undef, undef, undef, undef, undef, undef, undef, undef, undef, undef, undef, undef, undef, undef, undef, undef, undef, undef, undef, undef, undef, undef, undef, undef, undef, undef, undef, undef, undef, undef, undef, undef, undef, undef, undef, undef, undef, undef, x 10, undef, undef, undef, undef, undef, undef, undef, undef, x 21], []⟩]
      ?hF ?mono ?h0 ?step [0, 1, 2, 3, 4, 5, 6, 7, 8, 9, 10, 11, 12, 13, 14, 15, 16, 17, 18, 19, 20, 21, 22] (by kernel_rfl) ?fin
    case hF =>
      exact ⟨fun x => ⟨by kernel_rfl, by kernel_rfl⟩, fun x => ⟨by kernel_rfl, by kernel_rfl⟩, fun x => ⟨by kernel_rfl, by kernel_rfl⟩, fun x => ⟨by kernel_rfl, by kernel_rfl⟩, fun x => ⟨by kernel_rfl, by kernel_rfl⟩, fun x => ⟨by kernel_rfl, by kernel_rfl⟩, fun x => ⟨by kernel_rfl, by kernel_rfl⟩, fun x => ⟨by kernel_rfl, by kernel_rfl⟩, fun x => ⟨by kernel_rfl, by kernel_rfl⟩, fun x => ⟨by kernel_rfl, by kernel_rfl⟩, fun x => ⟨by kernel_rfl, by kernel_rfl⟩, fun x => ⟨by kernel_rfl, by kernel_rfl⟩, fun x => ⟨by kernel_rfl, by kernel_rfl⟩, fun x => ⟨by kernel_rfl, by kernel_rfl⟩, fun x => ⟨by kernel_rfl, by kernel_rfl⟩, fun x => ⟨by kernel_rfl, by kernel_rfl⟩, fun x => ⟨by kernel_rfl, by kernel_rfl⟩, fun x => ⟨by kernel_rfl, by kernel_rfl⟩, fun x => ⟨by kernel_rfl, by kernel_rfl⟩, fun x => ⟨by kernel_rfl, by kernel_rfl⟩, fun x => ⟨by kernel_rfl, by kernel_rfl⟩, fun x => ⟨by kernel_rfl, by kernel_rfl⟩, fun x => ⟨by kernel_rfl, by kernel_rfl⟩, trivial⟩
    case mono =>
      intro i j hi hj hne hna hnk v W W' hE hv
      rw [HV.out] at hv ⊢
      simp only [List.length_cons, List.length_nil] at hi hj
      match i, hi with
      | 0, _ | 1, _ | 2, _ | 3, _ | 4, _ | 5, _ | 6, _ | 7, _ | 8, _ | 9, _ | 10, _ | 11, _ | 12, _ | 13, _ | 14, _ | 15, _ | 16, _ | 17, _ | 18, _ | 19, _ | 20, _ | 21, _ | 22, _ => exact hv
      | m + 23, h => exact absurd h (by omega)
    case h0 => intro x; exact toI HIp ⟨(Touch.refl _ _).drew, BX2.out⟩
    case step =>
      refine ⟨?_, ?_, ?_, ?_, ?_, ?_, ?_, ?_, ?_, ?_, ?_, ?_, ?_, ?_, ?_, ?_, ?_, ?_, ?_, ?_, ?_, ?_, ?_, trivial⟩
      all_goals
        intro x W L hI hL hV
        replace hI : (Touch (fun z => z = g) w2 W ∧ Blk g (.cells #[.string xt, cond (L 14) (.string Tn) (.string yt), .int .i64 xs, .int .i64 xh, .slice ax xl.length cx, cond (L 18) (.int .i64 ys) (.int .i64 ys), cond (L 18) (.int .i64 (yh + 1)) (.int .i64 yh), cond (L 18) (.slice aE lst.length cE) (.slice ay yl.length cy), cond (L 22) (.slice (some ⟨qg, q2, none⟩) nF qc2) (.slice (some ⟨qg, qo, none⟩) (nF + 1) qc), vy] 86 (0, 0)) W) := ofI HIp hI
        rw [HV.out] at hV
        simp only [AllV, and_true] at hV
      · clear hV
        (try dsimp only)
        have HI := Lib.hid hI
        clear hI
        go_wp2_with fail
        refine step3_done rfl ?_ ?_ ?_
        · exact (toI HIp HI.out)
        · exact (Below.refl _ _)
        · exact (toV HV rfl)
      · clear hV
        (try dsimp only)
        have HI := Lib.hid hI
        clear hI
        go_wp2_with fail
        refine step3_done rfl ?_ ?_ ?_
        · exact (toI HIp HI.out)
        · exact (Below.refl _ _)
        · exact (toV HV rfl)
      · clear hV
        (try dsimp only)
        have HI := Lib.hid hI
        clear hI
        go_wp2_with fail
        refine step3_done rfl ?_ ?_ ?_
        · exact (toI HIp HI.out)
        · exact (Below.refl _ _)
        · exact (toV HV rfl)
      · clear hV
        (try dsimp only)
        have HI := Lib.hid hI
        clear hI
        go_wp2_with fail
        refine step3_done rfl ?_ ?_ ?_
        · exact (toI HIp HI.out)
        · exact (Below.refl _ _)
        · exact (toV HV rfl)
      · clear hV
        (try dsimp only)
        have HI := Lib.hid hI
        clear hI
        go_wp2_with fail
        refine step3_done rfl ?_ ?_ ?_
        · exact (toI HIp HI.out)
        · exact (Below.refl _ _)
        · exact (toV HV rfl)
      · clear hV
        (try dsimp only)
        have HI := Lib.hid hI
        clear hI
        go_wp2_with fail
        refine step3_done rfl ?_ ?_ ?_
        · exact (toI HIp HI.out)
        · exact (Below.refl _ _)
        · exact (toV HV rfl)
      · have u5 := hV
        clear hV
        simp only [u5]
        clear u5
        have HI := Lib.hid hI
        clear hI
        go_wp2_with fail
        refine step3_done rfl ?_ ?_ ?_
        · exact (toI HIp HI.out)
        · exact (Below.refl _ _)
        · exact (toV HV rfl)
      · clear hV
        (try dsimp only)
        have HI := Lib.hid hI
        clear hI
        go_wp2_with fail
        refine step3_done rfl ?_ ?_ ?_
        · exact (toI HIp HI.out)
        · exact (Below.refl _ _)
        · exact (toV HV rfl)
      · clear hV
        (try dsimp only)
        obtain ⟨q0, q1, q2'⟩ := blk3_cells (XE2.out.touch hI.1 (by omega))
        have HI := Lib.hid hI
        clear hI
        go_wp2_with fail
        refine step3_done rfl ?_ ?_ ?_
        · exact (toI HIp HI.out)
        · exact (Below.refl _ _)
        · exact (toV HV rfl)
      · clear hV
        (try dsimp only)
        have HI := Lib.hid hI
        clear hI
        go_wp2_with fail
        refine step3_done rfl ?_ ?_ ?_
        · exact (toI HIp HI.out)
        · exact (Below.refl _ _)
        · exact (toV HV rfl)
      · have u9 := hV
        clear hV
        simp only [u9]
        clear u9
        have HI := Lib.hid hI
        clear hI
        have h1n : (1 : Int) ≤ (nF : Int) + 1 := by omega
        rcases HQ2.out with ⟨e1, e2, e3⟩ | ⟨e1, e2, e3, e4⟩
        · have HE := Lib.hid (And.intro e2 e3)
          clear e2 e3
          go_wp2_with fail
          have hv : (Value.slice (some ⟨qg, qo + 5, none⟩) nF (qc - 1)) = .slice (some ⟨qg, q2, none⟩) nF qc2 := by rw [HE.out.1, HE.out.2]
          refine step3_done rfl ?_ ?_ ?_
          · exact (toI HIp HI.out)
          · exact (Below.refl _ _)
          · exact (toV HV hv)
        · have HE := Lib.hid (And.intro e3 e4)
          clear e3 e4
          subst e1
          have hz : nF = 0 := by have := HnF.out; omega
          subst hz
          go_wp2_with fail
          have hv : (Value.slice (some ⟨qg, qo, none⟩) 0 0) = .slice (some ⟨qg, q2, none⟩) 0 qc2 := by rw [HE.out.1, HE.out.2]
          refine step3_done rfl ?_ ?_ ?_
          · exact (toI HIp HI.out)
          · exact (Below.refl _ _)
          · exact (toV HV hv)
      · have u0 := hV
        clear hV
        simp only [u0]
        clear u0
        have HI := Lib.hid hI
        clear hI
        go_wp2_with fail
        refine step3_done rfl ?_ ?_ ?_
        · exact (toI HIp HI.out)
        · exact (Below.refl _ _)
        · exact (toV HV rfl)
      · have u11 := hV
        clear hV
        simp only [u11]
        clear u11
        have HI := Lib.hid hI
        clear hI
        go_wp2_with fail
        refine step3_done rfl ?_ ?_ ?_
        · exact (toI HIp HI.out)
        · exact (Below.refl _ _)
        · exact (toV HV rfl)
      · obtain ⟨u1, u12⟩ := hV
        simp only [u1, u12]
        clear u1 u12
        have HI := Lib.hid hI
        clear hI
        go_wp2_with fail
        refine step3_done rfl ?_ ?_ ?_
        · exact (toI HIp HI.out)
        · exact (Below.refl _ _)
        · exact (toV HV rfl)
      · obtain ⟨u7, u13⟩ := hV
        simp only [u7, u13]
        clear u7 u13
        obtain ⟨q0, q1, q2', q3, q4, q5, q6, q7, q8, q9⟩ := blk10_cells hI.2
        have fW := hI.2.frozen
        have hl := hI.2.lt
        have HI := Lib.hid hI
        clear hI
        go_wp2_with fail
        have ht := touch1 (w := W) (g := g) (i := 1) (.string Tn)
        refine step3_done (v := undef) rfl ?_ ?_ ?_
        · exact (toI HIp ⟨HI.out.1.trans ht, HI.out.2.set 1 (.string Tn)⟩)
        · exact ht
        · exact (toV HV rfl)
      · have u2 := hV
        clear hV
        simp only [u2]
        clear u2
        have HI := Lib.hid hI
        clear hI
        go_wp2_with fail
        refine step3_done rfl ?_ ?_ ?_
        · exact (toI HIp HI.out)
        · exact (Below.refl _ _)
        · exact (toV HV rfl)
      · have u15 := hV
        clear hV
        simp only [u15]
        clear u15
        have HI := Lib.hid hI
        clear hI
        go_wp2_with fail
        refine step3_done rfl ?_ ?_ ?_
        · exact (toI HIp HI.out)
        · exact (Below.refl _ _)
        · exact (toV HV rfl)
      · obtain ⟨u3, u16⟩ := hV
        simp only [u3, u16]
        clear u3 u16
        have HI := Lib.hid hI
        clear hI
        go_wp2_with fail
        refine step3_done rfl ?_ ?_ ?_
        · exact (toI HIp HI.out)
        · exact (Below.refl _ _)
        · exact (toV HV rfl)
      · obtain ⟨u8, u17⟩ := hV
        simp only [u8, u17]
        clear u8 u17
        obtain ⟨q0, q1, q2', q3, q4, q5, q6, q7, q8, q9⟩ := blk10_cells hI.2
        have fW := hI.2.frozen
        have hl := hI.2.lt
        have HI := Lib.hid hI
        clear hI
        go_wp2_with fail
        have ht := ((touch1 (w := W) (g := g) (i := 5) (.int .i64 ys)).trans (touch1 (g := g) (i := 6) (.int .i64 (yh + 1)))).trans (touch1 (g := g) (i := 7) (.slice aE lst.length cE))
        refine step3_done (v := undef) rfl ?_ ?_ ?_
        · exact (toI HIp ⟨HI.out.1.trans ht, ((HI.out.2.set 5 (.int .i64 ys)).set 6 (.int .i64 (yh + 1))).set 7 (.slice aE lst.length cE)⟩)
        · exact ht
        · exact (toV HV rfl)
      · have u4 := hV
        clear hV
        simp only [u4]
        clear u4
        have HI := Lib.hid hI
        clear hI
        go_wp2_with fail
        refine step3_done rfl ?_ ?_ ?_
        · exact (toI HIp HI.out)
        · exact (Below.refl _ _)
        · exact (toV HV rfl)
      · have u19 := hV
        clear hV
        simp only [u19]
        clear u19
        have HI := Lib.hid hI
        clear hI
        go_wp2_with fail
        refine step3_done rfl ?_ ?_ ?_
        · exact (toI HIp HI.out)
        · exact (Below.refl _ _)
        · exact (toV HV rfl)
      · obtain ⟨u6, u20⟩ := hV
        simp only [u6, u20]
        clear u6 u20
        have HI := Lib.hid hI
        clear hI
        go_wp2_with fail
        refine step3_done rfl ?_ ?_ ?_
        · exact (toI HIp HI.out)
        · exact (Below.refl _ _)
        · exact (toV HV rfl)
      · obtain ⟨u10, u21⟩ := hV
        simp only [u10, u21]
        clear u10 u21
        obtain ⟨q0, q1, q2', q3, q4, q5, q6, q7, q8, q9⟩ := blk10_cells hI.2
        have fW := hI.2.frozen
        have hl := hI.2.lt
        have HI := Lib.hid hI
        clear hI
        go_wp2_with fail
        have ht := touch1 (w := W) (g := g) (i := 8) (.slice (some ⟨qg, q2, none⟩) nF qc2)
        refine step3_done (v := undef) rfl ?_ ?_ ?_
        · exact (toI HIp ⟨HI.out.1.trans ht, HI.out.2.set 8 (.slice (some ⟨qg, q2, none⟩) nF qc2)⟩)
        · exact ht
        · exact (toV HV rfl)
    case fin =>
      intro x W L hL hI hV
      replace hI : (Touch (fun z => z = g) w2 W ∧ Blk g (.cells #[.string xt, cond (L 14) (.string Tn) (.string yt), .int .i64 xs, .int .i64 xh, .slice ax xl.length cx, cond (L 18) (.int .i64 ys) (.int .i64 ys), cond (L 18) (.int .i64 (yh + 1)) (.int .i64 yh), cond (L 18) (.slice aE lst.length cE) (.slice ay yl.length cy), cond (L 22) (.slice (some ⟨qg, q2, none⟩) nF qc2) (.slice (some ⟨qg, qo, none⟩) (nF + 1) qc), vy] 86 (0, 0)) W) := ofI HIp hI
      rw [HV.out] at hV
      simp only [AllV, and_true] at hV
      obtain ⟨u0, u1, u2, u3, u4, u5, u6, u7, u8, u9, u10, u11, u12, u13, u14, u15, u16, u17, u18, u19, u20, u21, u22⟩ := hV
      simp only [getsD, List.getD_cons_succ, List.getD_cons_zero, List.length_cons, List.length_nil, List.range, List.range.loop, u0, u1, u2, u3, u4, u5, u6, u7, u8, u9, u10, u11, u12, u13, u14, u15, u16, u17, u18, u19, u20, u21, u22, Act.put, List.setIfInBounds_toArray, List.set_cons_succ, List.set_cons_zero]
      clear u0 u1 u2 u3 u4 u5 u6 u7 u8 u9 u10 u11 u12 u13 u14 u15 u16 u17 u18 u19 u20 u21 u22
      have hT := hI.1
      have hB := hI.2
      have hl14 := hL 14 (by simp)
      have hl18 := hL 18 (by simp)
      have hl22 := hL 22 (by simp)
      rw [hl14, hl18, hl22] at hB
      simp only [cond_true] at hB
      obtain ⟨w3, rfl⟩ : ∃ x : World, x = W := ⟨_, rfl⟩
      have hz3 := hT.size
      obtain ⟨⟨ax', cx', ay', cy', bo, rx, ry⟩, o1, o2⟩ := M2.out.rest hT
      have eo := (bo.cell 4).symm.trans (BX2.out.cell 4)
      have eo' : Value.slice ax' xl.length cx' = .slice ax xl.length cx := Option.some.inj eo
      injection eo' with e1 e2 e3
      subst e1 e3
      have hgm := M2.out
      have hrow : (Value.slice (some ⟨qg, q2, none⟩) nF qc2).ownBlock = (.slice (some ⟨qg, qo, none⟩) (nF + 1) qc : Value).ownBlock := rfl
      have hdrop : OwnO (fun z => z < base ∨ z = g ∨ vy.ownBlock = some z) base (.slice (some ⟨qg, q2, none⟩) nF qc2) F w3 := by
        have hd := o1
        rcases HQ2.out with ⟨e1, e2, e3⟩ | ⟨e1, e2, e3, e4⟩
        · have := OwnO.drop_in (k := 1) hd (by omega) e1
          rw [e2, e3]
          exact this
        · have hF : F.length = 0 := by rw [← HnF.out]; exact e2
          have := OwnO.drop_all (k := 1) hd (by have := HnF.out; omega)
          have hz : nF = 0 := by have := HnF.out; omega
          rw [e3, e4, hz]
          exact this
      have hox : OwnO (fun z => z < base ∨ z = g ∨ (.slice (some ⟨qg, q2, none⟩) nF qc2 : Value).ownBlock = some z) base vy yf w3 := o2
      have RL : RdS (PC base g (.slice (some ⟨qg, q2, none⟩) nF qc2) vy w3) w3 lst aE lst.length cE := LE2.out.1.mono fun z hz => ⟨⟨by omega, by omega, by omega, fun e => by have := (HM.out.fx.rowlt z e).2; omega, fun e => by have := (HM.out.fy.rowlt z e).2; omega⟩, hT.block z hz.2 (by omega)⟩
      have B3 : Below base w w3 := ((Touch.of_below (S := fun _ => False) B2.out).toBelow (by omega) (fun k hk => hk.elim)).trans (hT.toBelow (by omega) (fun k hk => by omega))
      have G3 : Hid (PairM base g (Sd.mk xt xs xh xl F) (Sd.mk Tn ys (yh + 1) lst yf) (.slice (some ⟨qg, q2, none⟩) nF qc2) vy w3) := ⟨⟨ax', cx', aE, cE, hB, rx, RL⟩, hdrop, hox, hgm.gb, hgm.nx, hgm.ny⟩
      have HB3 := Lib.hid B3
      clear hI hL hT hB hl14 hl18 hl22 rx ry o1 o2 hgm RL B3 hox hdrop hrow bo eo e2
      go_wp2_with fail
      go_ret
      refine ⟨rfl, ⟨.slice (some ⟨qg, q2, none⟩) nF qc2, ?_⟩, HB3.out⟩
      exact G3.out
set_option maxRecDepth 100000 in
theorem pair_none0 (base g : Nat) (x y : Sd) (vx vy : Value) (w : World) (h : PairM base g x y vx vy w) (hf : y.f = []) :
    Calls Tryd.prog 38 #[.pointer (some ⟨g, 0, none⟩), .int .i64 0] w fun e w' => e = .returned (.bool true) ∧ PairM base g x y vx vy w' ∧ Below base w w' := by
  obtain ⟨qa, qc, hqv, -⟩ := h.fy.form
  have hl : y.f.length = 0 := by rw [hf]; rfl
  rw [hl] at hqv
  subst hqv
  have hgb := h.gb
  have hgw := h.lt
  have HM := Lib.hid h
  obtain ⟨xt, xs, xh, xl, xf⟩ := x
  obtain ⟨yt, ys, yh, yl, yf⟩ := y
  obtain ⟨ax, cx, ay, cy, bx, -, -⟩ := HM.out.box
  obtain ⟨c0, c1, c2, c3, c4, c5, c6, c7, c8, c9⟩ := blk10_cells bx
  clear h hf hl bx
  go_enter Tryd.func38, Tryd.ntmps38
  go_wp2_with fail
  go_ret
  first
    | exact ⟨rfl, HM.out, Below.refl _ _⟩
    | exact ⟨rfl, HM.out.go (Below.refl _ _).drew, (Below.refl _ _).drew⟩
set_option maxRecDepth 100000 in
theorem pair_none1 (base g : Nat) (x y : Sd) (vx vy : Value) (w : World) (h : PairM base g x y vx vy w) (hf : x.f = []) :
    Calls Tryd.prog 38 #[.pointer (some ⟨g, 0, none⟩), .int .i64 1] w fun e w' => e = .returned (.bool true) ∧ PairM base g x y vx vy w' ∧ Below base w w' := by
  obtain ⟨qa, qc, hqv, -⟩ := h.fx.form
  have hl : x.f.length = 0 := by rw [hf]; rfl
  rw [hl] at hqv
  subst hqv
  have hgb := h.gb
  have hgw := h.lt
  have HM := Lib.hid h
  obtain ⟨xt, xs, xh, xl, xf⟩ := x
  obtain ⟨yt, ys, yh, yl, yf⟩ := y
  obtain ⟨ax, cx, ay, cy, bx, -, -⟩ := HM.out.box
  obtain ⟨c0, c1, c2, c3, c4, c5, c6, c7, c8, c9⟩ := blk10_cells bx
  clear h hf hl bx
  go_enter Tryd.func38, Tryd.ntmps38
  go_wp2_with fail
  go_ret
  first
    | exact ⟨rfl, HM.out, Below.refl _ _⟩
    | exact ⟨rfl, HM.out.go (Below.refl _ _).drew, (Below.refl _ _).drew⟩
end Go.Proofs.YtkhacogeffidoaaDoor
