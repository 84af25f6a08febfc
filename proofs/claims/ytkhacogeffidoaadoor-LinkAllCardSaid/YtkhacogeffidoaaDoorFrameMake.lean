/- The walk of wherrykeep.Frame. -/
import Derived.Test.YtkhacogeffidoaaDoorFirst
import Derived.Test.YtkhacogeffidoaaDoorCopy
import Derived.Deep.RegionHeld3
import Derived.Handy
import Derived.Test.YtkhacogeffidoaaDoorRegion
import Derived.Outline
import Derived.Deep.DrawnRows
set_option linter.unusedVariables false
set_option linter.unusedSimpArgs false
namespace Go.Proofs.YtkhacogeffidoaaDoor
open Go.RowKit
attribute [local go_sem ↓] Go.wp_at_zero Go.wp_at_succ

def frameOf (r : Raw) (l : List Raw) : Fr :=
  if pk (r.kind.tdiv 4) 3 = 0 then ⟨2, pk r.b 5000, 1 + pk r.a 5000, [], noText⟩
  else if pk (r.kind.tdiv 4) 3 = 1 then ⟨3, 0, 1 + pk r.a 5000, [], letters r.text 20⟩
  else ⟨1, pk r.b 50, 0, mkOp (pk r.c 20) l, noText⟩

theorem tdiv4 {k : Int} (h : I64 k) : I64 (k.tdiv 4) := by
  unfold I64 at *
  by_cases h0 : 0 ≤ k
  · rw [Int.tdiv_eq_ediv_of_nonneg h0]; omega
  · have e : k.tdiv 4 = -((-k).tdiv 4) := by rw [Int.neg_tdiv, Int.neg_neg]
    rw [e, Int.tdiv_eq_ediv_of_nonneg (by omega)]; omega
theorem abs_bp {P : Program} {fn : Func} {R : Ending → World → Prop} {ex : Exit} {a : Act} {W0 : World} (Q : World → Prop) (hQ : Q W0) (k : ∀ W, Q W → bodyPost P fn R ex a W) : bodyPost P fn R ex a W0 := k W0 hQ
theorem heap_set1 {w : World} {g T : Nat} {cs : Array Value} (h : w.heap[g]? = some (.cells cs T (0, 0))) (i : Nat) (v : Value) : (w.setCell ⟨g, i, none⟩ v).heap[g]? = some (.cells (cs.setIfInBounds i v) T (0, 0)) := by
  simp [World.setCell, Array.getElem?_modify, h]
theorem set5 {w : World} {g T : Nat} {c0 c1 c2 c3 c4 : Value} (h : w.heap[g]? = some (.cells #[c0, c1, c2, c3, c4] T (0, 0))) (v0 v1 v2 v3 v4 : Value) :
    (((((w.setCell ⟨g, 0, none⟩ v0).setCell ⟨g, 1, none⟩ v1).setCell ⟨g, 2, none⟩ v2).setCell ⟨g, 3, none⟩ v3).setCell ⟨g, 4, none⟩ v4).heap[g]? = some (.cells #[v0, v1, v2, v3, v4] T (0, 0)) := by
  rw [heap_set1 (heap_set1 (heap_set1 (heap_set1 (heap_set1 h 0 v0) 1 v1) 2 v2) 3 v3) 4 v4]
  simp only [List.setIfInBounds_toArray, List.set_cons_zero, List.set_cons_succ]

theorem RdS.lower {w : World} {l : Op} {a : Option Addr} {n c B B' : Nat} (hr : RdS (B ≤ ·) w l a n c) (h : B' ≤ B) : RdS (fun b => B' ≤ b ∧ b < w.heap.size) w l a n c := by
  obtain ⟨h1, h2, h3, h4, h6⟩ := hr
  refine ⟨h1, h2, h3, h4, fun hn => ?_⟩
  obtain ⟨b, off, e, hb, hlt, he⟩ := h6 hn
  exact ⟨b, off, e, ⟨Nat.le_trans h hb, hlt⟩, hlt, fun i x hx => he i x hx⟩

theorem heap_far5 {w : World} {g b : Nat} (h : b ≠ g) (v0 v1 v2 v3 v4 : Value) :
    (((((w.setCell ⟨g, 0, none⟩ v0).setCell ⟨g, 1, none⟩ v1).setCell ⟨g, 2, none⟩ v2).setCell ⟨g, 3, none⟩ v3).setCell ⟨g, 4, none⟩ v4).heap[b]? = w.heap[b]? := by
  rw [Below.heap_setCell _ _ _ _ h, Below.heap_setCell _ _ _ _ h, Below.heap_setCell _ _ _ _ h, Below.heap_setCell _ _ _ _ h, Below.heap_setCell _ _ _ _ h]
theorem below_set5 {B : Nat} {w0 w : World} {g : Nat} (h : Below B w0 w) (hg : B ≤ g) (v0 v1 v2 v3 v4 : Value) :
    Below B w0 (((((w.setCell ⟨g, 0, none⟩ v0).setCell ⟨g, 1, none⟩ v1).setCell ⟨g, 2, none⟩ v2).setCell ⟨g, 3, none⟩ v3).setCell ⟨g, 4, none⟩ v4) :=
  ((((h.setCell (p := ⟨g, 0, none⟩) hg _).setCell (p := ⟨g, 1, none⟩) hg _).setCell (p := ⟨g, 2, none⟩) hg _).setCell (p := ⟨g, 3, none⟩) hg _).setCell (p := ⟨g, 4, none⟩) hg _
theorem size_set5 {w : World} {g : Nat} (v0 v1 v2 v3 v4 : Value) :
    (((((w.setCell ⟨g, 0, none⟩ v0).setCell ⟨g, 1, none⟩ v1).setCell ⟨g, 2, none⟩ v2).setCell ⟨g, 3, none⟩ v3).setCell ⟨g, 4, none⟩ v4).heap.size = w.heap.size := by
  simp only [World.size_setCell]
def FramePost (w : World) (f : Fr) (e : Ending) (w' : World) : Prop :=
  ∃ a' c', e = .returned (.agg #[.int .i64 f.kind, .int .i64 f.heard, .int .i64 f.epoch, .slice a' f.op.length c', .string f.text]) ∧ RdS (fun b => w.heap.size ≤ b ∧ b < w'.heap.size) w' f.op a' f.op.length c' ∧ Below w.heap.size w w'

set_option maxRecDepth 100000 in
set_option maxHeartbeats 1000000 in
theorem frame_0 (A : Nat → Prop) (r : Raw) (l : List Raw) (a : Option Addr) (n c : Nat) (w : World) (hA : ∀ b, A b → b < w.heap.size) (hr : RdS A w l a n c) (hk : r.ok) (h0 : pk (r.kind.tdiv 4) 3 = 0) :
    Calls Tryd.prog 21 #[rawV r, .slice a n c] w (FramePost w (frameOf r l)) := by
  obtain ⟨k, xa, xb, xc, t⟩ := r
  obtain ⟨hk, ha, hb, hc, ht⟩ := hk
  unfold frameOf
  simp only at *
  rw [if_pos h0]
  unfold rawV
  have hq := tdiv4 hk
  have HK := Lib.hid (fun W => picked_any (k.tdiv 4) 3 W hq (by omega) (by omega))
  rw [h0] at HK
  have HA := Lib.hid (fun W => picked_any xa 5000 W ha (by omega) (by omega))
  have HB := Lib.hid (fun W => picked_any xb 5000 W hb (by omega) (by omega))
  have HB5 := Lib.hid (fun W => picked_any xb 50 W hb (by omega) (by omega))
  have HC := Lib.hid (fun W => picked_any xc 20 W hc (by omega) (by omega))
  have HL := Lib.hid (fun W => letters_any t 20 W ht (by omega))
  have ra := pk_range xa 5000 (by omega)
  have rc' := pk_range xc 20 (by omega)
  have HOp := Lib.hid (fun W (hb : Below w.heap.size w W) => mkOp_any A (pk xc 20) l a n c W (fun b h => Nat.lt_of_lt_of_le (hA b h) hb.size) (hr.below hA hb) rc'.1 (by omega))
  clear hr h0 hq ha hb hc ht
  generalize mkOp (pk xc 20) l = o at *
  generalize pk xa 5000 = PA at *
  generalize pk xb 5000 = PB at *
  generalize pk xb 50 = PB5 at *
  generalize pk xc 20 = PC at *
  generalize letters t 20 = T at *
  unfold I64 at hk
  have hw1 : IntKind.i64.wrap (1 + PA) = 1 + PA := by first | (rw [IntKind.wrap_i64]; omega) | (simp [IntKind.wrap, IntKind.bits, IntKind.signed]; omega) | (unfold IntKind.wrap; simp; omega)
  have Hw1 := Lib.hid hw1
  clear hw1 rc'
  go_enter Tryd.func21, Tryd.ntmps21
  go_wp2_with fail
  refine (HK.out _).mono ?_
  rintro e w1 ⟨rfl, rfl⟩
  clear HK
  go_wp2_with fail
  refine region_lit (by kernel_rfl) (by kernel_rfl) [[], [0], [0, 1], [0, 1, 2], [], [4], [4, 5], [0, 1, 2, 3, 4, 5, 6], [0, 1, 2, 3, 4, 5, 6, 7]] (by kernel_rfl) [some 11, some 12, some 13, some 14, some 15, some 16, some 17, some 18, none] (by kernel_rfl) [false, false, false, false, false, false, false, false, true] (by kernel_rfl)
    (fun W => Below w.heap.size w W ∧ W.heap[w.heap.size]? = some (.cells #[.int .i64 k, .int .i64 xa, .int .i64 xb, .int .i64 xc, .string t] 42 (0, 0)) ∧ ∃ c0 c1 c2 c3 c4, W.heap[w.heap.size + 1]? = some (.cells #[c0, c1, c2, c3, c4] 30 (0, 0)))
    (fun i v W => match i with
      | 0 => v = .pointer (some ⟨w.heap.size, 1, none⟩)
      | 1 => v = .int .i64 xa
      | 2 => v = .int .i64 PA
      | 3 => v = .int .i64 (1 + PA)
      | 4 => v = .pointer (some ⟨w.heap.size, 2, none⟩)
      | 5 => v = .int .i64 xb
      | 6 => v = .int .i64 PB
      | 7 => v = .agg #[.int .i64 2, .int .i64 PB, .int .i64 (1 + PA), .slice none 0 0, .string ⟨#[]⟩]
      | _ => W.heap[w.heap.size + 1]? = some (.cells #[.int .i64 2, .int .i64 PB, .int .i64 (1 + PA), .slice none 0 0, .string ⟨#[]⟩] 30 (0, 0)))
    (fun W W' => W.heap.size ≤ W'.heap.size ∧ ∀ b, w.heap.size + 1 + 1 ≤ b → b < W.heap.size → W'.heap[b]? = W.heap[b]?) ?mono ?h0 ?step ?fin
  case mono =>
    intro i hi v W W' hE hv
    match i, hi with
    | 0, _ | 1, _ | 2, _ | 3, _ | 4, _ | 5, _ | 6, _ | 7, _ => exact hv
    | m + 8, h => exact absurd h (by cases m <;> simp)
  case h0 => exact ⟨by (repeat (first | exact Below.refl _ _ | assumption | (refine Below.drew ?_) | (refine below_drewN ?_ _) | (refine Below.alloc ?_ (by first | (simp; done) | (simp; omega) | omega) _) | (refine Below.setCell ?_ (by first | (simp; done) | (simp; omega) | omega) _) | (refine Below.trans ?_ (Below.mono (by assumption) (by first | (simp; done) | (simp; omega) | omega))))), (Below.heap_alloc _ _ w.heap.size (by simp)).trans (heap_new_at w _ _ rfl), _, _, _, _, _, heap_new_at _ _ _ (by simp)⟩
  case step =>
    refine ⟨?_, ?_, ?_, ?_, ?_, ?_, ?_, ?_, ?_, trivial⟩
    all_goals
      intro x W hI hV
      simp only [AllV, and_true] at hV
      obtain ⟨hI1, hI2, c0, c1, c2, c3, c4, hI3⟩ := hI
      have r1 := cell_of_row W _ 1 _ _ _ hI2
      have r2 := cell_of_row W _ 2 _ _ _ hI2
      have r3 := cell_of_row W _ 3 _ _ _ hI2
      have r4 := cell_of_row W _ 4 _ _ _ hI2
      simp only [List.getElem?_toArray, List.getElem?_cons_zero, List.getElem?_cons_succ] at r1 r2 r3 r4
    · (try simp only [getsD, List.getD_cons_succ, List.getD_cons_zero, hV, Act.put, List.setIfInBounds_toArray, List.set_cons_succ, List.set_cons_zero])
      clear hV
      go_wp2_with fail
      exact step_done rfl ⟨hI1, hI2, _, _, _, _, _, hI3⟩ ⟨Nat.le_refl _, fun _ _ _ => rfl⟩ rfl
    · (try simp only [getsD, List.getD_cons_succ, List.getD_cons_zero, hV, Act.put, List.setIfInBounds_toArray, List.set_cons_succ, List.set_cons_zero])
      clear hV
      go_wp2_with fail
      exact step_done rfl ⟨hI1, hI2, _, _, _, _, _, hI3⟩ ⟨Nat.le_refl _, fun _ _ _ => rfl⟩ rfl
    · (try simp only [getsD, List.getD_cons_succ, List.getD_cons_zero, hV, Act.put, List.setIfInBounds_toArray, List.set_cons_succ, List.set_cons_zero])
      clear hV
      go_wp2_with fail
      refine (HA.out _).mono ?_
      rintro e W2 ⟨rfl, rfl⟩
      go_wp2_with fail
      exact step_done rfl ⟨hI1, hI2, _, _, _, _, _, hI3⟩ ⟨Nat.le_refl _, fun _ _ _ => rfl⟩ rfl
    · (try simp only [getsD, List.getD_cons_succ, List.getD_cons_zero, hV, Act.put, List.setIfInBounds_toArray, List.set_cons_succ, List.set_cons_zero])
      clear hV
      have hw1 := Hw1.out
      go_wp2_with fail
      exact step_done rfl ⟨hI1, hI2, _, _, _, _, _, hI3⟩ ⟨Nat.le_refl _, fun _ _ _ => rfl⟩ rfl
    · (try simp only [getsD, List.getD_cons_succ, List.getD_cons_zero, hV, Act.put, List.setIfInBounds_toArray, List.set_cons_succ, List.set_cons_zero])
      clear hV
      go_wp2_with fail
      exact step_done rfl ⟨hI1, hI2, _, _, _, _, _, hI3⟩ ⟨Nat.le_refl _, fun _ _ _ => rfl⟩ rfl
    · (try simp only [getsD, List.getD_cons_succ, List.getD_cons_zero, hV, Act.put, List.setIfInBounds_toArray, List.set_cons_succ, List.set_cons_zero])
      clear hV
      go_wp2_with fail
      exact step_done rfl ⟨hI1, hI2, _, _, _, _, _, hI3⟩ ⟨Nat.le_refl _, fun _ _ _ => rfl⟩ rfl
    · (try simp only [getsD, List.getD_cons_succ, List.getD_cons_zero, hV, Act.put, List.setIfInBounds_toArray, List.set_cons_succ, List.set_cons_zero])
      clear hV
      go_wp2_with fail
      refine (HB.out _).mono ?_
      rintro e W2 ⟨rfl, rfl⟩
      go_wp2_with fail
      exact step_done rfl ⟨hI1, hI2, _, _, _, _, _, hI3⟩ ⟨Nat.le_refl _, fun _ _ _ => rfl⟩ rfl
    · (try simp only [getsD, List.getD_cons_succ, List.getD_cons_zero, hV, Act.put, List.setIfInBounds_toArray, List.set_cons_succ, List.set_cons_zero])
      clear hV
      go_wp2_with fail
      exact step_done rfl ⟨hI1, hI2, _, _, _, _, _, hI3⟩ ⟨Nat.le_refl _, fun _ _ _ => rfl⟩ rfl
    · (try simp only [getsD, List.getD_cons_succ, List.getD_cons_zero, hV, Act.put, List.setIfInBounds_toArray, List.set_cons_succ, List.set_cons_zero])
      clear hV
      have q0 := cell_of_row W _ 0 _ _ _ hI3
      have q1 := cell_of_row W _ 1 _ _ _ hI3
      have q2 := cell_of_row W _ 2 _ _ _ hI3
      have q3 := cell_of_row W _ 3 _ _ _ hI3
      have q4 := cell_of_row W _ 4 _ _ _ hI3
      have f0 := fun i => frozen_of_row W _ i _ _ hI3
      simp only [List.getElem?_toArray, List.getElem?_cons_zero, List.getElem?_cons_succ] at q0 q1 q2 q3 q4
      have hz := hI1.size
      have HI1 := Lib.hid hI1
      have HI3 := Lib.hid hI3
      have HI2 := Lib.hid hI2
      clear hI1 hI3 hI2 r1 r2 r3 r4
      go_wp2_with fail
      exact step_done (v := undef) rfl ⟨below_set5 HI1.out (by omega) _ _ _ _ _, (heap_far5 (by omega) _ _ _ _ _).trans HI2.out, _, _, _, _, _, set5 HI3.out _ _ _ _ _⟩ ⟨by rw [size_set5]; exact Nat.le_refl _, fun b hb _ => heap_far5 (by omega) _ _ _ _ _⟩ (set5 HI3.out _ _ _ _ _)
  case fin =>
    intro x W hI hV
    simp only [AllV, and_true, List.length_cons, List.length_nil, List.range, List.range.loop] at hV
    obtain ⟨u0, u1, u2, u3, u4, u5, u6, u7, uL⟩ := hV
    (try simp only [getsD, List.getD_cons_succ, List.getD_cons_zero, List.length_cons, List.length_nil, List.range, List.range.loop, u0, u1, u2, u3, u4, u5, u6, u7])
    clear u0 u1 u2 u3 u4 u5 u6 u7
    have k0 := cell_of_row W _ 0 _ _ _ uL
    have k1 := cell_of_row W _ 1 _ _ _ uL
    have k2 := cell_of_row W _ 2 _ _ _ uL
    have k3 := cell_of_row W _ 3 _ _ _ uL
    have k4 := cell_of_row W _ 4 _ _ _ uL
    simp only [List.getElem?_toArray, List.getElem?_cons_zero, List.getElem?_cons_succ] at k0 k1 k2 k3 k4
    have hb := hI.1
    clear hI uL
    go_wp2_with fail
    (try simp only [Exit.inBlock, Exit.then])
    refine bodyPost_ret (v := .agg #[.int .i64 2, .int .i64 PB, .int .i64 (1 + PA), .slice none 0 0, .string ⟨#[]⟩]) (by simp [results, Tryd.results21, go_sem, k0, k1, k2, k3, k4]) rfl ?_
    exact ⟨none, 0, rfl, RdS.nil' _ _ _ _ (by unfold maxLen; omega) (fun _ => rfl), hb⟩

set_option maxRecDepth 100000 in
set_option maxHeartbeats 1000000 in
theorem frame_1 (A : Nat → Prop) (r : Raw) (l : List Raw) (a : Option Addr) (n c : Nat) (w : World) (hA : ∀ b, A b → b < w.heap.size) (hr : RdS A w l a n c) (hk : r.ok) (h1 : pk (r.kind.tdiv 4) 3 = 1) :
    Calls Tryd.prog 21 #[rawV r, .slice a n c] w (FramePost w (frameOf r l)) := by
  obtain ⟨k, xa, xb, xc, t⟩ := r
  obtain ⟨hk, ha, hb, hc, ht⟩ := hk
  unfold frameOf
  simp only at *
  rw [if_neg (by omega), if_pos h1]
  unfold rawV
  have hq := tdiv4 hk
  have HK := Lib.hid (fun W => picked_any (k.tdiv 4) 3 W hq (by omega) (by omega))
  rw [h1] at HK
  have HA := Lib.hid (fun W => picked_any xa 5000 W ha (by omega) (by omega))
  have HB := Lib.hid (fun W => picked_any xb 5000 W hb (by omega) (by omega))
  have HB5 := Lib.hid (fun W => picked_any xb 50 W hb (by omega) (by omega))
  have HC := Lib.hid (fun W => picked_any xc 20 W hc (by omega) (by omega))
  have HL := Lib.hid (fun W => letters_any t 20 W ht (by omega))
  have ra := pk_range xa 5000 (by omega)
  have rc' := pk_range xc 20 (by omega)
  have HOp := Lib.hid (fun W (hb : Below w.heap.size w W) => mkOp_any A (pk xc 20) l a n c W (fun b h => Nat.lt_of_lt_of_le (hA b h) hb.size) (hr.below hA hb) rc'.1 (by omega))
  clear hr h1 hq ha hb hc ht
  generalize mkOp (pk xc 20) l = o at *
  generalize pk xa 5000 = PA at *
  generalize pk xb 5000 = PB at *
  generalize pk xb 50 = PB5 at *
  generalize pk xc 20 = PC at *
  generalize letters t 20 = T at *
  unfold I64 at hk
  have hw1 : IntKind.i64.wrap (1 + PA) = 1 + PA := by first | (rw [IntKind.wrap_i64]; omega) | (simp [IntKind.wrap, IntKind.bits, IntKind.signed]; omega) | (unfold IntKind.wrap; simp; omega)
  have Hw1 := Lib.hid hw1
  clear hw1 rc'
  go_enter Tryd.func21, Tryd.ntmps21
  go_wp2_with fail
  refine (HK.out _).mono ?_
  rintro e w1 ⟨rfl, rfl⟩
  clear HK
  go_wp2_with fail
  refine region_lit (by kernel_rfl) (by kernel_rfl) [[], [0], [0, 1], [0, 1, 2], [], [4], [4, 5], [0, 1, 2, 3, 4, 5, 6], [0, 1, 2, 3, 4, 5, 6, 7]] (by kernel_rfl) [some 21, some 22, some 23, some 24, some 25, some 26, some 27, some 28, none] (by kernel_rfl) [false, false, false, false, false, false, false, false, true] (by kernel_rfl)
    (fun W => Below w.heap.size w W ∧ W.heap[w.heap.size]? = some (.cells #[.int .i64 k, .int .i64 xa, .int .i64 xb, .int .i64 xc, .string t] 42 (0, 0)) ∧ ∃ c0 c1 c2 c3 c4, W.heap[w.heap.size + 1]? = some (.cells #[c0, c1, c2, c3, c4] 30 (0, 0)))
    (fun i v W => match i with
      | 0 => v = .pointer (some ⟨w.heap.size, 1, none⟩)
      | 1 => v = .int .i64 xa
      | 2 => v = .int .i64 PA
      | 3 => v = .int .i64 (1 + PA)
      | 4 => v = .pointer (some ⟨w.heap.size, 4, none⟩)
      | 5 => v = .string t
      | 6 => v = .string T
      | 7 => v = .agg #[.int .i64 3, .int .i64 0, .int .i64 (1 + PA), .slice none 0 0, .string T]
      | _ => W.heap[w.heap.size + 1]? = some (.cells #[.int .i64 3, .int .i64 0, .int .i64 (1 + PA), .slice none 0 0, .string T] 30 (0, 0)))
    (fun W W' => W.heap.size ≤ W'.heap.size ∧ ∀ b, w.heap.size + 1 + 1 ≤ b → b < W.heap.size → W'.heap[b]? = W.heap[b]?) ?mono ?h0 ?step ?fin
  case mono =>
    intro i hi v W W' hE hv
    match i, hi with
    | 0, _ | 1, _ | 2, _ | 3, _ | 4, _ | 5, _ | 6, _ | 7, _ => exact hv
    | m + 8, h => exact absurd h (by cases m <;> simp)
  case h0 => exact ⟨by (repeat (first | exact Below.refl _ _ | assumption | (refine Below.drew ?_) | (refine below_drewN ?_ _) | (refine Below.alloc ?_ (by first | (simp; done) | (simp; omega) | omega) _) | (refine Below.setCell ?_ (by first | (simp; done) | (simp; omega) | omega) _) | (refine Below.trans ?_ (Below.mono (by assumption) (by first | (simp; done) | (simp; omega) | omega))))), (Below.heap_alloc _ _ w.heap.size (by simp)).trans (heap_new_at w _ _ rfl), _, _, _, _, _, heap_new_at _ _ _ (by simp)⟩
  case step =>
    refine ⟨?_, ?_, ?_, ?_, ?_, ?_, ?_, ?_, ?_, trivial⟩
    all_goals
      intro x W hI hV
      simp only [AllV, and_true] at hV
      obtain ⟨hI1, hI2, c0, c1, c2, c3, c4, hI3⟩ := hI
      have r1 := cell_of_row W _ 1 _ _ _ hI2
      have r2 := cell_of_row W _ 2 _ _ _ hI2
      have r3 := cell_of_row W _ 3 _ _ _ hI2
      have r4 := cell_of_row W _ 4 _ _ _ hI2
      simp only [List.getElem?_toArray, List.getElem?_cons_zero, List.getElem?_cons_succ] at r1 r2 r3 r4
    · (try simp only [getsD, List.getD_cons_succ, List.getD_cons_zero, hV, Act.put, List.setIfInBounds_toArray, List.set_cons_succ, List.set_cons_zero])
      clear hV
      go_wp2_with fail
      exact step_done rfl ⟨hI1, hI2, _, _, _, _, _, hI3⟩ ⟨Nat.le_refl _, fun _ _ _ => rfl⟩ rfl
    · (try simp only [getsD, List.getD_cons_succ, List.getD_cons_zero, hV, Act.put, List.setIfInBounds_toArray, List.set_cons_succ, List.set_cons_zero])
      clear hV
      go_wp2_with fail
      exact step_done rfl ⟨hI1, hI2, _, _, _, _, _, hI3⟩ ⟨Nat.le_refl _, fun _ _ _ => rfl⟩ rfl
    · (try simp only [getsD, List.getD_cons_succ, List.getD_cons_zero, hV, Act.put, List.setIfInBounds_toArray, List.set_cons_succ, List.set_cons_zero])
      clear hV
      go_wp2_with fail
      refine (HA.out _).mono ?_
      rintro e W2 ⟨rfl, rfl⟩
      go_wp2_with fail
      exact step_done rfl ⟨hI1, hI2, _, _, _, _, _, hI3⟩ ⟨Nat.le_refl _, fun _ _ _ => rfl⟩ rfl
    · (try simp only [getsD, List.getD_cons_succ, List.getD_cons_zero, hV, Act.put, List.setIfInBounds_toArray, List.set_cons_succ, List.set_cons_zero])
      clear hV
      have hw1 := Hw1.out
      go_wp2_with fail
      exact step_done rfl ⟨hI1, hI2, _, _, _, _, _, hI3⟩ ⟨Nat.le_refl _, fun _ _ _ => rfl⟩ rfl
    · (try simp only [getsD, List.getD_cons_succ, List.getD_cons_zero, hV, Act.put, List.setIfInBounds_toArray, List.set_cons_succ, List.set_cons_zero])
      clear hV
      go_wp2_with fail
      exact step_done rfl ⟨hI1, hI2, _, _, _, _, _, hI3⟩ ⟨Nat.le_refl _, fun _ _ _ => rfl⟩ rfl
    · (try simp only [getsD, List.getD_cons_succ, List.getD_cons_zero, hV, Act.put, List.setIfInBounds_toArray, List.set_cons_succ, List.set_cons_zero])
      clear hV
      go_wp2_with fail
      exact step_done rfl ⟨hI1, hI2, _, _, _, _, _, hI3⟩ ⟨Nat.le_refl _, fun _ _ _ => rfl⟩ rfl
    · (try simp only [getsD, List.getD_cons_succ, List.getD_cons_zero, hV, Act.put, List.setIfInBounds_toArray, List.set_cons_succ, List.set_cons_zero])
      clear hV
      go_wp2_with fail
      refine (HL.out _).mono ?_
      rintro e W2 ⟨rfl, hb2⟩
      have hz := hI1.size
      have hlt := (Array.getElem?_eq_some_iff.1 hI3).1
      have hK : Hid ((Below w.heap.size w W2 ∧ W2.heap[w.heap.size]? = _ ∧ W2.heap[w.heap.size + 1]? = _) ∧ W.heap.size ≤ W2.heap.size ∧ ∀ b, w.heap.size + 1 + 1 ≤ b → b < W.heap.size → W2.heap[b]? = W.heap[b]?) := ⟨⟨hI1.trans (hb2.mono hz), (hb2.block _ (by omega)).trans hI2, (hb2.block _ hlt).trans hI3⟩, hb2.size, fun b _ hb => hb2.block b hb⟩
      clear hb2
      go_wp2_with fail
      exact step_done rfl ⟨hK.out.1.1, hK.out.1.2.1, _, _, _, _, _, hK.out.1.2.2⟩ hK.out.2 rfl
    · (try simp only [getsD, List.getD_cons_succ, List.getD_cons_zero, hV, Act.put, List.setIfInBounds_toArray, List.set_cons_succ, List.set_cons_zero])
      clear hV
      go_wp2_with fail
      exact step_done rfl ⟨hI1, hI2, _, _, _, _, _, hI3⟩ ⟨Nat.le_refl _, fun _ _ _ => rfl⟩ rfl
    · (try simp only [getsD, List.getD_cons_succ, List.getD_cons_zero, hV, Act.put, List.setIfInBounds_toArray, List.set_cons_succ, List.set_cons_zero])
      clear hV
      have q0 := cell_of_row W _ 0 _ _ _ hI3
      have q1 := cell_of_row W _ 1 _ _ _ hI3
      have q2 := cell_of_row W _ 2 _ _ _ hI3
      have q3 := cell_of_row W _ 3 _ _ _ hI3
      have q4 := cell_of_row W _ 4 _ _ _ hI3
      have f0 := fun i => frozen_of_row W _ i _ _ hI3
      simp only [List.getElem?_toArray, List.getElem?_cons_zero, List.getElem?_cons_succ] at q0 q1 q2 q3 q4
      have hz := hI1.size
      have HI1 := Lib.hid hI1
      have HI3 := Lib.hid hI3
      have HI2 := Lib.hid hI2
      clear hI1 hI3 hI2 r1 r2 r3 r4
      go_wp2_with fail
      exact step_done (v := undef) rfl ⟨below_set5 HI1.out (by omega) _ _ _ _ _, (heap_far5 (by omega) _ _ _ _ _).trans HI2.out, _, _, _, _, _, set5 HI3.out _ _ _ _ _⟩ ⟨by rw [size_set5]; exact Nat.le_refl _, fun b hb _ => heap_far5 (by omega) _ _ _ _ _⟩ (set5 HI3.out _ _ _ _ _)
  case fin =>
    intro x W hI hV
    simp only [AllV, and_true, List.length_cons, List.length_nil, List.range, List.range.loop] at hV
    obtain ⟨u0, u1, u2, u3, u4, u5, u6, u7, uL⟩ := hV
    (try simp only [getsD, List.getD_cons_succ, List.getD_cons_zero, List.length_cons, List.length_nil, List.range, List.range.loop, u0, u1, u2, u3, u4, u5, u6, u7])
    clear u0 u1 u2 u3 u4 u5 u6 u7
    have k0 := cell_of_row W _ 0 _ _ _ uL
    have k1 := cell_of_row W _ 1 _ _ _ uL
    have k2 := cell_of_row W _ 2 _ _ _ uL
    have k3 := cell_of_row W _ 3 _ _ _ uL
    have k4 := cell_of_row W _ 4 _ _ _ uL
    simp only [List.getElem?_toArray, List.getElem?_cons_zero, List.getElem?_cons_succ] at k0 k1 k2 k3 k4
    have hb := hI.1
    clear hI uL
    go_wp2_with fail
    (try simp only [Exit.inBlock, Exit.then])
    refine bodyPost_ret (v := .agg #[.int .i64 3, .int .i64 0, .int .i64 (1 + PA), .slice none 0 0, .string T]) (by simp [results, Tryd.results21, go_sem, k0, k1, k2, k3, k4]) rfl ?_
    exact ⟨none, 0, rfl, RdS.nil' _ _ _ _ (by unfold maxLen; omega) (fun _ => rfl), hb⟩

set_option maxRecDepth 100000 in
set_option maxHeartbeats 1000000 in
theorem frame_2 (A : Nat → Prop) (r : Raw) (l : List Raw) (a : Option Addr) (n c : Nat) (w : World) (hA : ∀ b, A b → b < w.heap.size) (hr : RdS A w l a n c) (hk : r.ok) (h2 : pk (r.kind.tdiv 4) 3 = 2) :
    Calls Tryd.prog 21 #[rawV r, .slice a n c] w (FramePost w (frameOf r l)) := by
  obtain ⟨k, xa, xb, xc, t⟩ := r
  obtain ⟨hk, ha, hb, hc, ht⟩ := hk
  unfold frameOf
  simp only at *
  rw [if_neg (by omega), if_neg (by omega)]
  unfold rawV
  have hq := tdiv4 hk
  have HK := Lib.hid (fun W => picked_any (k.tdiv 4) 3 W hq (by omega) (by omega))
  rw [h2] at HK
  have HA := Lib.hid (fun W => picked_any xa 5000 W ha (by omega) (by omega))
  have HB := Lib.hid (fun W => picked_any xb 5000 W hb (by omega) (by omega))
  have HB5 := Lib.hid (fun W => picked_any xb 50 W hb (by omega) (by omega))
  have HC := Lib.hid (fun W => picked_any xc 20 W hc (by omega) (by omega))
  have HL := Lib.hid (fun W => letters_any t 20 W ht (by omega))
  have ra := pk_range xa 5000 (by omega)
  have rc' := pk_range xc 20 (by omega)
  have HOp := Lib.hid (fun W (hb : Below w.heap.size w W) => mkOp_any A (pk xc 20) l a n c W (fun b h => Nat.lt_of_lt_of_le (hA b h) hb.size) (hr.below hA hb) rc'.1 (by omega))
  clear hr h2 hq ha hb hc ht
  generalize mkOp (pk xc 20) l = o at *
  generalize pk xa 5000 = PA at *
  generalize pk xb 5000 = PB at *
  generalize pk xb 50 = PB5 at *
  generalize pk xc 20 = PC at *
  generalize letters t 20 = T at *
  unfold I64 at hk
  have hw1 : IntKind.i64.wrap (1 + PA) = 1 + PA := by first | (rw [IntKind.wrap_i64]; omega) | (simp [IntKind.wrap, IntKind.bits, IntKind.signed]; omega) | (unfold IntKind.wrap; simp; omega)
  have Hw1 := Lib.hid hw1
  clear hw1 rc'
  go_enter Tryd.func21, Tryd.ntmps21
  go_wp2_with fail
  refine (HK.out _).mono ?_
  rintro e w1 ⟨rfl, rfl⟩
  clear HK
  go_wp2_with fail
  refine region_lit (by kernel_rfl) (by kernel_rfl) [[], [0], [0, 1], [], [3], [3, 4], [], [3, 4, 5, 6], [0, 1, 2, 3, 4, 5, 6, 7], [0, 1, 2, 3, 4, 5, 6, 7, 8]] (by kernel_rfl) [some 29, some 30, some 31, some 32, some 33, some 34, some 35, some 36, some 37, none] (by kernel_rfl) [false, false, false, false, false, false, false, false, false, true] (by kernel_rfl)
    (fun W => Below w.heap.size w W ∧ W.heap[w.heap.size]? = some (.cells #[.int .i64 k, .int .i64 xa, .int .i64 xb, .int .i64 xc, .string t] 42 (0, 0)) ∧ ∃ c0 c1 c2 c3 c4, W.heap[w.heap.size + 1]? = some (.cells #[c0, c1, c2, c3, c4] 30 (0, 0)))
    (fun i v W => match i with
      | 0 => v = .pointer (some ⟨w.heap.size, 2, none⟩)
      | 1 => v = .int .i64 xb
      | 2 => v = .int .i64 PB5
      | 3 => v = .pointer (some ⟨w.heap.size, 3, none⟩)
      | 4 => v = .int .i64 xc
      | 5 => v = .int .i64 PC
      | 6 => v = .slice a n c
      | 7 => ∃ a' c', v = .slice a' o.length c' ∧ RdS (fun b => w.heap.size + 1 + 1 ≤ b ∧ b < W.heap.size) W o a' o.length c'
      | 8 => ∃ a' c', v = .agg #[.int .i64 1, .int .i64 PB5, .int .i64 0, .slice a' o.length c', .string ⟨#[]⟩] ∧ RdS (fun b => w.heap.size + 1 + 1 ≤ b ∧ b < W.heap.size) W o a' o.length c'
      | _ => ∃ a' c', W.heap[w.heap.size + 1]? = some (.cells #[.int .i64 1, .int .i64 PB5, .int .i64 0, .slice a' o.length c', .string ⟨#[]⟩] 30 (0, 0)) ∧ RdS (fun b => w.heap.size + 1 + 1 ≤ b ∧ b < W.heap.size) W o a' o.length c')
    (fun W W' => W.heap.size ≤ W'.heap.size ∧ ∀ b, w.heap.size + 1 + 1 ≤ b → b < W.heap.size → W'.heap[b]? = W.heap[b]?) ?mono ?h0 ?step ?fin
  case mono =>
    intro i hi v W W' hE hv
    match i, hi with
    | 0, _ | 1, _ | 2, _ | 3, _ | 4, _ | 5, _ | 6, _ => exact hv
    | 7, _ | 8, _ =>
      obtain ⟨a', c', e, h⟩ := hv
      exact ⟨a', c', e, h.mono fun b hb => ⟨⟨hb.1, Nat.lt_of_lt_of_le hb.2 hE.1⟩, hE.2 b hb.1 hb.2⟩⟩
    | m + 9, h => exact absurd h (by cases m <;> simp)
  case h0 => exact ⟨by (repeat (first | exact Below.refl _ _ | assumption | (refine Below.drew ?_) | (refine below_drewN ?_ _) | (refine Below.alloc ?_ (by first | (simp; done) | (simp; omega) | omega) _) | (refine Below.setCell ?_ (by first | (simp; done) | (simp; omega) | omega) _) | (refine Below.trans ?_ (Below.mono (by assumption) (by first | (simp; done) | (simp; omega) | omega))))), (Below.heap_alloc _ _ w.heap.size (by simp)).trans (heap_new_at w _ _ rfl), _, _, _, _, _, heap_new_at _ _ _ (by simp)⟩
  case step =>
    refine ⟨?_, ?_, ?_, ?_, ?_, ?_, ?_, ?_, ?_, ?_, trivial⟩
    all_goals
      intro x W hI hV
      simp only [AllV, and_true] at hV
      obtain ⟨hI1, hI2, c0, c1, c2, c3, c4, hI3⟩ := hI
      have r1 := cell_of_row W _ 1 _ _ _ hI2
      have r2 := cell_of_row W _ 2 _ _ _ hI2
      have r3 := cell_of_row W _ 3 _ _ _ hI2
      have r4 := cell_of_row W _ 4 _ _ _ hI2
      simp only [List.getElem?_toArray, List.getElem?_cons_zero, List.getElem?_cons_succ] at r1 r2 r3 r4
    · (try simp only [getsD, List.getD_cons_succ, List.getD_cons_zero, hV, Act.put, List.setIfInBounds_toArray, List.set_cons_succ, List.set_cons_zero])
      clear hV
      go_wp2_with fail
      exact step_done rfl ⟨hI1, hI2, _, _, _, _, _, hI3⟩ ⟨Nat.le_refl _, fun _ _ _ => rfl⟩ rfl
    · (try simp only [getsD, List.getD_cons_succ, List.getD_cons_zero, hV, Act.put, List.setIfInBounds_toArray, List.set_cons_succ, List.set_cons_zero])
      clear hV
      go_wp2_with fail
      exact step_done rfl ⟨hI1, hI2, _, _, _, _, _, hI3⟩ ⟨Nat.le_refl _, fun _ _ _ => rfl⟩ rfl
    · (try simp only [getsD, List.getD_cons_succ, List.getD_cons_zero, hV, Act.put, List.setIfInBounds_toArray, List.set_cons_succ, List.set_cons_zero])
      clear hV
      go_wp2_with fail
      refine (HB5.out _).mono ?_
      rintro e W2 ⟨rfl, rfl⟩
      go_wp2_with fail
      exact step_done rfl ⟨hI1, hI2, _, _, _, _, _, hI3⟩ ⟨Nat.le_refl _, fun _ _ _ => rfl⟩ rfl
    · (try simp only [getsD, List.getD_cons_succ, List.getD_cons_zero, hV, Act.put, List.setIfInBounds_toArray, List.set_cons_succ, List.set_cons_zero])
      clear hV
      go_wp2_with fail
      exact step_done rfl ⟨hI1, hI2, _, _, _, _, _, hI3⟩ ⟨Nat.le_refl _, fun _ _ _ => rfl⟩ rfl
    · (try simp only [getsD, List.getD_cons_succ, List.getD_cons_zero, hV, Act.put, List.setIfInBounds_toArray, List.set_cons_succ, List.set_cons_zero])
      clear hV
      go_wp2_with fail
      exact step_done rfl ⟨hI1, hI2, _, _, _, _, _, hI3⟩ ⟨Nat.le_refl _, fun _ _ _ => rfl⟩ rfl
    · (try simp only [getsD, List.getD_cons_succ, List.getD_cons_zero, hV, Act.put, List.setIfInBounds_toArray, List.set_cons_succ, List.set_cons_zero])
      clear hV
      go_wp2_with fail
      refine (HC.out _).mono ?_
      rintro e W2 ⟨rfl, rfl⟩
      go_wp2_with fail
      exact step_done rfl ⟨hI1, hI2, _, _, _, _, _, hI3⟩ ⟨Nat.le_refl _, fun _ _ _ => rfl⟩ rfl
    · (try simp only [getsD, List.getD_cons_succ, List.getD_cons_zero, hV, Act.put, List.setIfInBounds_toArray, List.set_cons_succ, List.set_cons_zero])
      clear hV
      go_wp2_with fail
      exact step_done rfl ⟨hI1, hI2, _, _, _, _, _, hI3⟩ ⟨Nat.le_refl _, fun _ _ _ => rfl⟩ rfl
    · (try simp only [getsD, List.getD_cons_succ, List.getD_cons_zero, hV, Act.put, List.setIfInBounds_toArray, List.set_cons_succ, List.set_cons_zero])
      clear hV
      go_wp2_with fail
      have hz := hI1.size
      have hlt := (Array.getElem?_eq_some_iff.1 hI3).1
      refine (HOp.out _ hI1).mono ?_
      rintro e W2 ⟨a', c', rfl, hrd, hb2⟩
      have hK : Hid ((Below w.heap.size w W2 ∧ W2.heap[w.heap.size]? = _ ∧ W2.heap[w.heap.size + 1]? = _) ∧ (W.heap.size ≤ W2.heap.size ∧ ∀ b, w.heap.size + 1 + 1 ≤ b → b < W.heap.size → W2.heap[b]? = W.heap[b]?) ∧ RdS (fun b => w.heap.size + 1 + 1 ≤ b ∧ b < W2.heap.size) W2 o a' o.length c') :=
        ⟨⟨hI1.trans (hb2.mono hz), (hb2.block _ (by omega)).trans hI2, (hb2.block _ hlt).trans hI3⟩, ⟨hb2.size, fun b _ hb => hb2.block b hb⟩, RdS.lower hrd (by omega)⟩
      clear hb2 hrd
      go_wp2_with fail
      exact step_done rfl ⟨hK.out.1.1, hK.out.1.2.1, _, _, _, _, _, hK.out.1.2.2⟩ hK.out.2.1 ⟨a', c', rfl, hK.out.2.2⟩
    · obtain ⟨u0, u1, u2, u3, u4, u5, u6, a', c', u7, hrd⟩ := hV
      (try simp only [getsD, List.getD_cons_succ, List.getD_cons_zero, u0, u1, u2, u3, u4, u5, u6, u7, Act.put, List.setIfInBounds_toArray, List.set_cons_succ, List.set_cons_zero])
      clear u0 u1 u2 u3 u4 u5 u6 u7
      go_wp2_with fail
      exact step_done rfl ⟨hI1, hI2, _, _, _, _, _, hI3⟩ ⟨Nat.le_refl _, fun _ _ _ => rfl⟩ ⟨a', c', rfl, hrd⟩
    · obtain ⟨u0, u1, u2, u3, u4, u5, u6, ⟨a0', c0', u7, _⟩, a', c', u8, hrd⟩ := hV
      (try simp only [getsD, List.getD_cons_succ, List.getD_cons_zero, u0, u1, u2, u3, u4, u5, u6, u7, u8, Act.put, List.setIfInBounds_toArray, List.set_cons_succ, List.set_cons_zero])
      clear u0 u1 u2 u3 u4 u5 u6 u7 u8
      have q0 := cell_of_row W _ 0 _ _ _ hI3
      have q1 := cell_of_row W _ 1 _ _ _ hI3
      have q2 := cell_of_row W _ 2 _ _ _ hI3
      have q3 := cell_of_row W _ 3 _ _ _ hI3
      have q4 := cell_of_row W _ 4 _ _ _ hI3
      have f0 := fun i => frozen_of_row W _ i _ _ hI3
      simp only [List.getElem?_toArray, List.getElem?_cons_zero, List.getElem?_cons_succ] at q0 q1 q2 q3 q4
      have hz := hI1.size
      have HI1 := Lib.hid hI1
      have HI3 := Lib.hid hI3
      have HI2 := Lib.hid hI2
      have HRd := Lib.hid hrd
      clear hrd
      clear hI1 hI3 hI2 r1 r2 r3 r4
      go_wp2_with fail
      exact step_done (v := undef) rfl ⟨below_set5 HI1.out (by omega) _ _ _ _ _, (heap_far5 (by omega) _ _ _ _ _).trans HI2.out, _, _, _, _, _, set5 HI3.out _ _ _ _ _⟩ ⟨by rw [size_set5]; exact Nat.le_refl _, fun b hb _ => heap_far5 (by omega) _ _ _ _ _⟩ ⟨a', c', set5 HI3.out _ _ _ _ _, HRd.out.mono fun b hb => ⟨⟨hb.1, by rw [size_set5]; exact hb.2⟩, heap_far5 (by omega) _ _ _ _ _⟩⟩
  case fin =>
    intro x W hI hV
    simp only [AllV, and_true, List.length_cons, List.length_nil, List.range, List.range.loop] at hV
    obtain ⟨u0, u1, u2, u3, u4, u5, u6, ⟨a1, c1, u7, _⟩, ⟨a2, c2, u8, _⟩, a', c', uL, hrd⟩ := hV
    (try simp only [getsD, List.getD_cons_succ, List.getD_cons_zero, List.length_cons, List.length_nil, List.range, List.range.loop, u0, u1, u2, u3, u4, u5, u6, u7, u8])
    clear u0 u1 u2 u3 u4 u5 u6 u7 u8
    have k0 := cell_of_row W _ 0 _ _ _ uL
    have k1 := cell_of_row W _ 1 _ _ _ uL
    have k2 := cell_of_row W _ 2 _ _ _ uL
    have k3 := cell_of_row W _ 3 _ _ _ uL
    have k4 := cell_of_row W _ 4 _ _ _ uL
    simp only [List.getElem?_toArray, List.getElem?_cons_zero, List.getElem?_cons_succ] at k0 k1 k2 k3 k4
    have hb := hI.1
    clear hI uL
    have HRd := Lib.hid hrd
    clear hrd
    go_wp2_with fail
    (try simp only [Exit.inBlock, Exit.then])
    refine bodyPost_ret (v := .agg #[.int .i64 1, .int .i64 PB5, .int .i64 0, .slice a' o.length c', .string ⟨#[]⟩]) (by simp [results, Tryd.results21, go_sem, k0, k1, k2, k3, k4]) rfl ?_
    exact ⟨a', c', rfl, HRd.out.mono fun b hb => ⟨⟨by omega, hb.2⟩, rfl⟩, hb⟩

theorem frame_go (r : Raw) (l : List Raw) (a : Option Addr) (n c : Nat) (w : World) (hr : RdS (· < w.heap.size) w l a n c) (hk : r.ok) :
    Calls Tryd.prog 21 #[rawV r, .slice a n c] w (FramePost w (frameOf r l)) := by
  have rk := pk_range (r.kind.tdiv 4) 3 (by omega)
  have h3 : pk (r.kind.tdiv 4) 3 = 0 ∨ pk (r.kind.tdiv 4) 3 = 1 ∨ pk (r.kind.tdiv 4) 3 = 2 := by omega
  rcases h3 with h | h | h
  · exact frame_0 _ r l a n c w (fun _ h => h) hr hk h
  · exact frame_1 _ r l a n c w (fun _ h => h) hr hk h
  · exact frame_2 _ r l a n c w (fun _ h => h) hr hk h
end Go.Proofs.YtkhacogeffidoaaDoor
