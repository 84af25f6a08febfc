/- A turn in a box of its own. No condition. -/
import Derived.Test.YtkbfhgcjimfgkaaDoorPartC4
import Derived.Test.YtkbfhgcjimfgkaaDoorPartB9
import Derived.Test.YtkbfhgcjimfgkaaDoorPartB4
set_option linter.unusedVariables false
set_option linter.unusedSimpArgs false
set_option linter.unusedSimpArgs false
namespace Go.Proofs.YtkbfhgcjimfgkaaDoor
open Go.RowKit
theorem OwnO.take_in {α : Type} [Rep α] {X : Nat → Prop} {base : Nat} {a : Option Addr} {n c k : Nat} {l : List α} {w : World} (h : OwnO X base (.slice a n c) l w) (hk : k ≤ n) : OwnO X base (.slice a k c) (l.take k) w := by
  rcases h.row with ⟨a', hv, hl, h2⟩ | ⟨g', off', cap, hv, h1, h2, h3, h4, h5, h6⟩
  · injection hv with e1 e2 e3
    subst e1 e2 e3
    have hk0 : k = 0 := by omega
    subst hk0
    exact ⟨.inl ⟨a, rfl, by simp, h2⟩⟩
  · injection hv with e1 e2 e3
    subst e1 e2 e3
    have e4 : (l.take k).length = k := by rw [List.length_take]; omega
    refine ⟨.inr ⟨g', off', c, by rw [e4], h1, h2, by omega, h4, h5, fun i x hi => h6 i x ?_⟩⟩
    have hi2 := (List.getElem?_eq_some_iff.1 hi).1
    rw [List.getElem?_take_of_lt (by omega)] at hi
    exact hi
set_option maxRecDepth 100000 in
set_option maxHeartbeats 8000000 in
theorem undo_away (t : List Int) (ta : Option Addr) (tn tc : Nat) (n : Nd) (a : Option Addr) (c : Nat) (ua : Option Addr) (uc : Nat) (ma : Option Addr) (mc : Nat) (b : Int) (w : World) (hg : Good w) (ht : RdS (· < w.heap.size) w t ta tn tc)
    (h1 : RdS (· < w.heap.size) w n.sides a n.sides.length c) (h2 : RdS (· < w.heap.size) w n.undo ua n.undo.length uc) (h3 : RdS (· < w.heap.size) w n.marks ma n.marks.length mc) (hf : n.fits) (hG : NdGood t n) (hB : NdB b n) (hb : b < 1000000) (hE : n.ready = false) :
    Calls Tryd.prog 20 #[.slice ta tn tc, .agg #[.int .i64 n.me, .int .i64 n.epoch, .int .i64 n.up, .bool n.ready, .string n.text, .slice a n.sides.length c, .slice ua n.undo.length uc, .slice ma n.marks.length mc]] w (fun e w' => e = .returned (.tuple #[.agg zeroTn, .int .i64 12]) ∧ Below w.heap.size w w') := by
  have HBg := Lib.hid (fun W (hW : Below w.heap.size w W) => ndBegin_good t ta tn tc n a c ua uc ma mc W (hg.go hW) (ht.go hW) (h1.go hW) (h2.go hW) (h3.go hW) hf hG (hB.queue hG hb))
  have Hg := Lib.hid hg
  have hgz := hg.size
  have HE := Lib.hid hE
  clear ht h1 h2 h3 hf hG hB hg hb hE
  go_enter Tryd.func20, Tryd.ntmps20
  go_wp2_with fail
  refine abs_run (fun W => Below w.heap.size w W ∧ Blk w.heap.size (.cells #[.int .i64 n.me, .int .i64 n.epoch, .int .i64 n.up, .bool n.ready, .string n.text, .slice a n.sides.length c, .slice ua n.undo.length uc, .slice ma n.marks.length mc] 31 (0, 0)) W ∧ Blk (w.heap.size + 1) (.cells zeroTn 35 (0, 0)) W) ⟨by (repeat (first | exact Below.refl _ _ | assumption | (refine Below.drew ?_) | (refine below_drewN ?_ _) | (refine Below.alloc ?_ (by first | (simp; done) | (simp; omega) | omega) _) | (refine Below.setCell ?_ (by first | (simp; done) | (simp; omega) | omega) _) | (refine Below.trans ?_ (Below.mono (by assumption) (by first | (simp; done) | (simp; omega) | omega))))), (Blk.new w _).alloc _, Blk.at _ _ _ (by simp)⟩ ?_
  rintro w1 ⟨b1, x0, x1⟩
  have B1 := Lib.hid b1
  have X0 := Lib.hid x0
  have X1 := Lib.hid x1
  have hx1 := x1.lt
  clear b1 x0 x1
  refine (HBg.out w1 B1.out).mono ?_
  rintro e w2 ⟨g, vs, rfl, m2, b2⟩
  have M2 := Lib.hid m2
  have B2 := Lib.hid (up B1.out b2)
  have B12 := Lib.hid b2
  have X2 := Lib.hid (X1.out.go b2)
  have hz12 := b2.size
  obtain ⟨q0, q1, q2, q3, q4, q5, q6, q7⟩ := blk8_cells (X0.out.go b2)
  clear m2 b2 HBg X1
  rw [HE.out] at q3
  have X9 := Lib.hid X2.out
  have B9 := Lib.hid B2.out
  have hz := X9.out.lt
  obtain ⟨p0, p1, p2, p3, p4, p5, p6, p7, p8, p9⟩ := blk10_cells X9.out
  have pf := X9.out.frozen
  have G := Lib.hid (zero_turn (w := w) (b := w.heap.size + 1) (by omega) X9.out B9.out)
  go_wp2_with fail
  refine abs_ret (fun W => Blk (w.heap.size + 1) (.cells zeroTn 35 (0, 0)) W ∧ Below w.heap.size w W) G.out ?_
  rintro W ⟨y1, y2⟩
  obtain ⟨k0, k1, k2, k3, k4, k5, k6, k7, k8, k9⟩ := blk10_cells y1
  exact bodyPost_ret (v := .tuple #[.agg zeroTn, .int .i64 12]) (by simp [results, Tryd.results20, go_sem, k0, k1, k2, k3, k4, k5, k6, k7, k8, k9]) rfl ⟨rfl, y2⟩
set_option maxRecDepth 100000 in
set_option maxHeartbeats 8000000 in
theorem undo_none (t : List Int) (ta : Option Addr) (tn tc : Nat) (n : Nd) (a : Option Addr) (c : Nat) (ua : Option Addr) (uc : Nat) (ma : Option Addr) (mc : Nat) (b : Int) (w : World) (hg : Good w) (ht : RdS (· < w.heap.size) w t ta tn tc)
    (h1 : RdS (· < w.heap.size) w n.sides a n.sides.length c) (h2 : RdS (· < w.heap.size) w n.undo ua n.undo.length uc) (h3 : RdS (· < w.heap.size) w n.marks ma n.marks.length mc) (hf : n.fits) (hG : NdGood t n) (hB : NdB b n) (hb : b < 1000000) (hE : n.ready = true) (hu : n.undo = []) :
    Calls Tryd.prog 20 #[.slice ta tn tc, .agg #[.int .i64 n.me, .int .i64 n.epoch, .int .i64 n.up, .bool n.ready, .string n.text, .slice a n.sides.length c, .slice ua n.undo.length uc, .slice ma n.marks.length mc]] w (fun e w' => e = .returned (.tuple #[.agg zeroTn, .int .i64 6]) ∧ Below w.heap.size w w') := by
  have HBg := Lib.hid (fun W (hW : Below w.heap.size w W) => ndBegin_good t ta tn tc n a c ua uc ma mc W (hg.go hW) (ht.go hW) (h1.go hW) (h2.go hW) (h3.go hW) hf hG (hB.queue hG hb))
  have Hg := Lib.hid hg
  have hgz := hg.size
  have HNP := Lib.hid (fun g W => node_ptr g W)
  have HE := Lib.hid hE
  have HU := Lib.hid hu
  clear ht h1 h2 h3 hf hG hB hg hb hE hu
  go_enter Tryd.func20, Tryd.ntmps20
  go_wp2_with fail
  refine abs_run (fun W => Below w.heap.size w W ∧ Blk w.heap.size (.cells #[.int .i64 n.me, .int .i64 n.epoch, .int .i64 n.up, .bool n.ready, .string n.text, .slice a n.sides.length c, .slice ua n.undo.length uc, .slice ma n.marks.length mc] 31 (0, 0)) W ∧ Blk (w.heap.size + 1) (.cells zeroTn 35 (0, 0)) W) ⟨by (repeat (first | exact Below.refl _ _ | assumption | (refine Below.drew ?_) | (refine below_drewN ?_ _) | (refine Below.alloc ?_ (by first | (simp; done) | (simp; omega) | omega) _) | (refine Below.setCell ?_ (by first | (simp; done) | (simp; omega) | omega) _) | (refine Below.trans ?_ (Below.mono (by assumption) (by first | (simp; done) | (simp; omega) | omega))))), (Blk.new w _).alloc _, Blk.at _ _ _ (by simp)⟩ ?_
  rintro w1 ⟨b1, x0, x1⟩
  have B1 := Lib.hid b1
  have X0 := Lib.hid x0
  have X1 := Lib.hid x1
  have hx1 := x1.lt
  clear b1 x0 x1
  refine (HBg.out w1 B1.out).mono ?_
  rintro e w2 ⟨g, vs, rfl, m2, b2⟩
  have M2 := Lib.hid m2
  have B2 := Lib.hid (up B1.out b2)
  have B12 := Lib.hid b2
  have X2 := Lib.hid (X1.out.go b2)
  have hz12 := b2.size
  obtain ⟨q0, q1, q2, q3, q4, q5, q6, q7⟩ := blk8_cells (X0.out.go b2)
  clear m2 b2 HBg X1
  rw [HE.out] at q3
  obtain ⟨-, -, -, -, -, -, r6, -, -, -⟩ := blk10_cells M2.out.box
  have hgl := M2.out.lt
  obtain ⟨a1, c1, hv1⟩ := own_app (M2.out.rows 1 (by omega) : OwnO (WX w1.heap.size g vs) w1.heap.size (vs 1) n.undo w2)
  rw [hv1, HU.out] at r6
  clear hv1
  go_wp2_with fail
  refine (HNP.out g w2).mono ?_
  rintro e w3 ⟨rfl, rfl⟩
  have X9 := Lib.hid X2.out
  have B9 := Lib.hid B2.out
  have hz := X9.out.lt
  obtain ⟨p0, p1, p2, p3, p4, p5, p6, p7, p8, p9⟩ := blk10_cells X9.out
  have pf := X9.out.frozen
  have G := Lib.hid (zero_turn (w := w) (b := w.heap.size + 1) (by omega) X9.out B9.out)
  go_wp2_with fail
  refine abs_ret (fun W => Blk (w.heap.size + 1) (.cells zeroTn 35 (0, 0)) W ∧ Below w.heap.size w W) G.out ?_
  rintro W ⟨y1, y2⟩
  obtain ⟨k0, k1, k2, k3, k4, k5, k6, k7, k8, k9⟩ := blk10_cells y1
  exact bodyPost_ret (v := .tuple #[.agg zeroTn, .int .i64 6]) (by simp [results, Tryd.results20, go_sem, k0, k1, k2, k3, k4, k5, k6, k7, k8, k9]) rfl ⟨rfl, y2⟩
set_option maxRecDepth 100000 in
set_option maxHeartbeats 8000000 in
theorem undo_full (t : List Int) (ta : Option Addr) (tn tc : Nat) (n : Nd) (a : Option Addr) (c : Nat) (ua : Option Addr) (uc : Nat) (ma : Option Addr) (mc : Nat) (b : Int) (w : World) (hg : Good w) (ht : RdS (· < w.heap.size) w t ta tn tc)
    (h1 : RdS (· < w.heap.size) w n.sides a n.sides.length c) (h2 : RdS (· < w.heap.size) w n.undo ua n.undo.length uc) (h3 : RdS (· < w.heap.size) w n.marks ma n.marks.length mc) (hf : n.fits) (hG : NdGood t n) (hB : NdB b n) (hb : b < 1000000) (hE : n.ready = true) (hu : n.undo ≠ []) (hF : (⟨n, [], []⟩ : Tn).full (n.undo.getLastD []) = true) :
    Calls Tryd.prog 20 #[.slice ta tn tc, .agg #[.int .i64 n.me, .int .i64 n.epoch, .int .i64 n.up, .bool n.ready, .string n.text, .slice a n.sides.length c, .slice ua n.undo.length uc, .slice ma n.marks.length mc]] w (fun e w' => e = .returned (.tuple #[.agg zeroTn, .int .i64 8]) ∧ Below w.heap.size w w') := by
  have HBg := Lib.hid (fun W (hW : Below w.heap.size w W) => ndBegin_good t ta tn tc n a c ua uc ma mc W (hg.go hW) (ht.go hW) (h1.go hW) (h2.go hW) (h3.go hW) hf hG (hB.queue hG hb))
  have Hg := Lib.hid hg
  have hgz := hg.size
  have HNP := Lib.hid (fun g W => node_ptr g W)
  have hGu := Lib.hid hG.undo
  have HEd := Lib.hid (fun base g vs W oa oc (hg : Good W) (hM : WkM base g ((⟨n, [], []⟩ : Tn).setUndo n.undo.dropLast) vs W) (hr : RdS (NM g vs W) W (n.undo.getLastD []) oa (n.undo.getLastD []).length oc) => ndEdit_full base g _ vs _ oa oc W hg hM hr hE hG.text (undo_last hG.undo hu).1 (undo_last hG.undo hu).2.1 hF)
  have HE := Lib.hid hE
  have HU := Lib.hid hu
  clear ht h1 h2 h3 hf hG hB hg hb hF hE hu
  go_enter Tryd.func20, Tryd.ntmps20
  go_wp2_with fail
  refine abs_run (fun W => Below w.heap.size w W ∧ Blk w.heap.size (.cells #[.int .i64 n.me, .int .i64 n.epoch, .int .i64 n.up, .bool n.ready, .string n.text, .slice a n.sides.length c, .slice ua n.undo.length uc, .slice ma n.marks.length mc] 31 (0, 0)) W ∧ Blk (w.heap.size + 1) (.cells zeroTn 35 (0, 0)) W) ⟨by (repeat (first | exact Below.refl _ _ | assumption | (refine Below.drew ?_) | (refine below_drewN ?_ _) | (refine Below.alloc ?_ (by first | (simp; done) | (simp; omega) | omega) _) | (refine Below.setCell ?_ (by first | (simp; done) | (simp; omega) | omega) _) | (refine Below.trans ?_ (Below.mono (by assumption) (by first | (simp; done) | (simp; omega) | omega))))), (Blk.new w _).alloc _, Blk.at _ _ _ (by simp)⟩ ?_
  rintro w1 ⟨b1, x0, x1⟩
  have B1 := Lib.hid b1
  have X0 := Lib.hid x0
  have X1 := Lib.hid x1
  have hx1 := x1.lt
  clear b1 x0 x1
  refine (HBg.out w1 B1.out).mono ?_
  rintro e w2 ⟨g, vs, rfl, m2, b2⟩
  have M2 := Lib.hid m2
  have B2 := Lib.hid (up B1.out b2)
  have B12 := Lib.hid b2
  have X2 := Lib.hid (X1.out.go b2)
  have hz12 := b2.size
  obtain ⟨q0, q1, q2, q3, q4, q5, q6, q7⟩ := blk8_cells (X0.out.go b2)
  clear m2 b2 HBg X1
  rw [HE.out] at q3
  obtain ⟨-, -, -, -, -, -, r6, -, -, -⟩ := blk10_cells M2.out.box
  have rf6 := M2.out.box.frozen 6
  have hgl := M2.out.lt
  have hgb := M2.out.gb
  have hrow : OwnO (WX w1.heap.size g vs) w1.heap.size (vs 1) n.undo w2 := M2.out.rows 1 (by omega)
  obtain ⟨r0, o0, c0, hv1, hr1, hr2, hcn, hcm, hfz, hel⟩ : ∃ r o c, vs 1 = .slice (some ⟨r, o, none⟩) n.undo.length c ∧ w1.heap.size ≤ r ∧ r < w2.heap.size ∧ n.undo.length ≤ c ∧ c ≤ maxLen ∧ True ∧ Elems (fun b => b < w2.heap.size ∧ ¬ WX w1.heap.size g vs b ∧ b ≠ r) w2 r o n.undo := by
    rcases hrow.row with ⟨a', hv, hl, -⟩ | ⟨r, o, c, hv, h1, h2, h3, h4, h5, h6⟩
    · exact absurd hl HU.out
    · exact ⟨r, o, c, hv, h1, h2, h3, h4, trivial, h6⟩
  rw [hv1] at r6
  have hpos : 0 < n.undo.length := List.length_pos_iff.2 HU.out
  obtain ⟨K, hK⟩ : ∃ K, n.undo.length = K + 1 := ⟨n.undo.length - 1, by omega⟩
  have hget : n.undo[K]? = some (n.undo.getLastD []) := by
    rw [List.getLastD_eq_getLast?, List.getLast?_eq_getElem?, hK, Nat.add_sub_cancel]
    rw [List.getElem?_eq_getElem (by omega)]; rfl
  obtain ⟨xs, hx1, hx2⟩ := hel K _ hget
  obtain ⟨oa, on, oc, rfl, hro⟩ := hx1
  have hon := hro.1
  subst hon
  have y0 : w2.cell? ⟨r0, o0 + K, none⟩ = some (.slice oa (n.undo.getLastD []).length oc) := by
    have h := hx2 0 _ rfl
    have e1 : o0 + K * Rep.n Op + 0 = o0 + K := by show o0 + K * 1 + 0 = o0 + K; omega
    rw [e1] at h
    exact h
  have hdl : n.undo.take K = n.undo.dropLast := by rw [List.dropLast_eq_take, hK, Nat.add_sub_cancel]
  have hown2 : OwnO (WX w1.heap.size g vs) w1.heap.size (.slice (some ⟨r0, o0, none⟩) K c0) n.undo.dropLast w2 := by
    rw [← hdl]
    rw [hv1] at hrow
    exact hrow.take_in (by omega)
  obtain ⟨k1, k2, k3⟩ := WkG.setUndo (v' := .slice (some ⟨r0, o0, none⟩) K c0) M2.out (World.grownBy.refl _ _) (fun k hk => by
    have e : r0 = k := by simpa [Value.ownBlock] using hk
    subst e
    rw [hv1]; exact .inl rfl) hown2
  have K1 := Lib.hid k1
  have K2 := Lib.hid (k2.mono fun z _ hz => (M2.out.mine z hz).1)
  have R2 : Hid (RdS (NM g (fun q => if q = 1 then (.slice (some ⟨r0, o0, none⟩) K c0) else vs q) (w2.setCell ⟨g, 6, none⟩ (.slice (some ⟨r0, o0, none⟩) K c0))) (w2.setCell ⟨g, 6, none⟩ (.slice (some ⟨r0, o0, none⟩) K c0)) (n.undo.getLastD []) oa (n.undo.getLastD []).length oc) := by
    refine RdS.wk (hro.mono fun z hz => ⟨⟨hz.1, fun hm => hz.2.1 (.inr hm)⟩, rfl⟩) k2 k3
  have HKc : (K : Int) < (c0 : Int) := by omega
  have hcI : (K : Int) + 1 ≤ (c0 : Int) := by omega
  have hK1 : (K : Int) ≤ 12 := by have := (undoOk_all hGu.out).2; omega
  have hcm2 : (c0 : Int) ≤ 9223372036854775807 := by unfold maxLen at hcm; omega
  rw [hK] at r6
  clear hv1 hrow hget hx2 hro hdl hown2 k1 k2 k3 hel hcn hcm hfz hpos hK
  generalize hLO : n.undo.getLastD [] = LO at *
  clear hLO
  go_wp2_with fail
  refine (HNP.out g w2).mono ?_
  rintro e w3 ⟨rfl, rfl⟩
  go_wp2_with fail
  generalize hW4 : w2.setCell ⟨g, 6, none⟩ (.slice (some ⟨r0, o0, none⟩) K c0) = w4 at *
  have B4 := Lib.hid (B2.out.trans (K2.out.toBelow (B := w.heap.size) (by omega) (fun z hz => by omega)))
  have X4 := Lib.hid (X2.out.touch K2.out (by omega))
  refine (HEd.out _ _ _ _ _ _ (Hg.out.go B4.out) K1.out R2.out).mono ?_
  rintro e w5 ⟨rfl, b5⟩
  have X9 := Lib.hid (X4.out.go b5)
  have B9 := Lib.hid (up B4.out b5)
  have hz := X9.out.lt
  obtain ⟨p0, p1, p2, p3, p4, p5, p6, p7, p8, p9⟩ := blk10_cells X9.out
  have pf := X9.out.frozen
  have G := Lib.hid (zero_turn (w := w) (b := w.heap.size + 1) (by omega) X9.out B9.out)
  go_wp2_with fail
  refine abs_ret (fun W => Blk (w.heap.size + 1) (.cells zeroTn 35 (0, 0)) W ∧ Below w.heap.size w W) G.out ?_
  rintro W ⟨y1, y2⟩
  obtain ⟨k0, k1, k2, k3, k4, k5, k6, k7, k8, k9⟩ := blk10_cells y1
  exact bodyPost_ret (v := .tuple #[.agg zeroTn, .int .i64 8]) (by simp [results, Tryd.results20, go_sem, k0, k1, k2, k3, k4, k5, k6, k7, k8, k9]) rfl ⟨rfl, y2⟩
set_option maxRecDepth 100000 in
set_option maxHeartbeats 8000000 in
theorem undo_ok (t : List Int) (ta : Option Addr) (tn tc : Nat) (n : Nd) (a : Option Addr) (c : Nat) (ua : Option Addr) (uc : Nat) (ma : Option Addr) (mc : Nat) (b : Int) (w : World) (hg : Good w) (ht : RdS (· < w.heap.size) w t ta tn tc)
    (h1 : RdS (· < w.heap.size) w n.sides a n.sides.length c) (h2 : RdS (· < w.heap.size) w n.undo ua n.undo.length uc) (h3 : RdS (· < w.heap.size) w n.marks ma n.marks.length mc) (hf : n.fits) (hG : NdGood t n) (hB : NdB b n) (hb : b < 1000000) (hE : undoE n = 0) :
    Calls Tryd.prog 20 #[.slice ta tn tc, .agg #[.int .i64 n.me, .int .i64 n.epoch, .int .i64 n.up, .bool n.ready, .string n.text, .slice a n.sides.length c, .slice ua n.undo.length uc, .slice ma n.marks.length mc]] w (TurnP (undoT n) w) := by
  have hE1 : n.ready = true := by
    cases hr : n.ready with
    | true => rfl
    | false => unfold undoE at hE; rw [if_pos hr] at hE; exact absurd hE (by decide)
  have hu : n.undo ≠ [] := by
    intro h
    unfold undoE at hE
    rw [if_neg (by simp [hE1]), if_pos h] at hE
    exact absurd hE (by decide)
  have hF : (⟨n, [], []⟩ : Tn).full (n.undo.getLastD []) = false := by
    unfold undoE at hE
    rw [if_neg (by simp [hE1]), if_neg hu] at hE
    by_cases h : (⟨n, [], []⟩ : Tn).full (n.undo.getLastD []) = true
    · rw [if_pos h] at hE; exact absurd hE (by decide)
    · simpa using h
  have HBg := Lib.hid (fun W (hW : Below w.heap.size w W) => ndBegin_good t ta tn tc n a c ua uc ma mc W (hg.go hW) (ht.go hW) (h1.go hW) (h2.go hW) (h3.go hW) hf hG (hB.queue hG hb))
  have Hg := Lib.hid hg
  have hgz := hg.size
  have HNP := Lib.hid (fun g W => node_ptr g W)
  have hGu := Lib.hid hG.undo
  obtain ⟨l1, l2, -, -⟩ := undo_last hG.undo hu
  have HEd := Lib.hid (fun base g vs W oa oc (hg : Good W) (hM : WkM base g ((⟨n, [], []⟩ : Tn).setUndo n.undo.dropLast) vs W) (hr : RdS (NM g vs W) W (n.undo.getLastD []) oa (n.undo.getLastD []).length oc) => ndEdit_go (n := n) (u := n.undo.dropLast) (tr := t) (b := b) (by rfl) hg hM hr hG hB hb hE1 (apply_good hG.text l1 l2).1 hF)
  obtain ⟨TT, hTT⟩ : ∃ TT, Hid (TT = undoT n) := ⟨_, rfl⟩
  have hTT2 : Hid (((⟨n, [], []⟩ : Tn).setUndo n.undo.dropLast).edited (n.undo.getLastD []) = TT) := hTT.out.symm
  rw [← hTT.out]
  have HE := Lib.hid hE1
  have HU := Lib.hid hu
  clear ht h1 h2 h3 hf hG hB hg hb hE hE1 hu hF l1 l2 hTT
  go_enter Tryd.func20, Tryd.ntmps20
  go_wp2_with fail
  refine abs_run (fun W => Below w.heap.size w W ∧ Blk w.heap.size (.cells #[.int .i64 n.me, .int .i64 n.epoch, .int .i64 n.up, .bool n.ready, .string n.text, .slice a n.sides.length c, .slice ua n.undo.length uc, .slice ma n.marks.length mc] 31 (0, 0)) W ∧ Blk (w.heap.size + 1) (.cells zeroTn 35 (0, 0)) W) ⟨by (repeat (first | exact Below.refl _ _ | assumption | (refine Below.drew ?_) | (refine below_drewN ?_ _) | (refine Below.alloc ?_ (by first | (simp; done) | (simp; omega) | omega) _) | (refine Below.setCell ?_ (by first | (simp; done) | (simp; omega) | omega) _) | (refine Below.trans ?_ (Below.mono (by assumption) (by first | (simp; done) | (simp; omega) | omega))))), (Blk.new w _).alloc _, Blk.at _ _ _ (by simp)⟩ ?_
  rintro w1 ⟨b1, x0, x1⟩
  have B1 := Lib.hid b1
  have X0 := Lib.hid x0
  have X1 := Lib.hid x1
  have hx1 := x1.lt
  clear b1 x0 x1
  refine (HBg.out w1 B1.out).mono ?_
  rintro e w2 ⟨g, vs, rfl, m2, b2⟩
  have M2 := Lib.hid m2
  have B2 := Lib.hid (up B1.out b2)
  have B12 := Lib.hid b2
  have X2 := Lib.hid (X1.out.go b2)
  have hz12 := b2.size
  obtain ⟨q0, q1, q2, q3, q4, q5, q6, q7⟩ := blk8_cells (X0.out.go b2)
  clear m2 b2 HBg X1
  rw [HE.out] at q3
  obtain ⟨-, -, -, -, -, -, r6, -, -, -⟩ := blk10_cells M2.out.box
  have rf6 := M2.out.box.frozen 6
  have hgl := M2.out.lt
  have hgb := M2.out.gb
  have hrow : OwnO (WX w1.heap.size g vs) w1.heap.size (vs 1) n.undo w2 := M2.out.rows 1 (by omega)
  obtain ⟨r0, o0, c0, hv1, hr1, hr2, hcn, hcm, hfz, hel⟩ : ∃ r o c, vs 1 = .slice (some ⟨r, o, none⟩) n.undo.length c ∧ w1.heap.size ≤ r ∧ r < w2.heap.size ∧ n.undo.length ≤ c ∧ c ≤ maxLen ∧ True ∧ Elems (fun b => b < w2.heap.size ∧ ¬ WX w1.heap.size g vs b ∧ b ≠ r) w2 r o n.undo := by
    rcases hrow.row with ⟨a', hv, hl, -⟩ | ⟨r, o, c, hv, h1, h2, h3, h4, h5, h6⟩
    · exact absurd hl HU.out
    · exact ⟨r, o, c, hv, h1, h2, h3, h4, trivial, h6⟩
  rw [hv1] at r6
  have hpos : 0 < n.undo.length := List.length_pos_iff.2 HU.out
  obtain ⟨K, hK⟩ : ∃ K, n.undo.length = K + 1 := ⟨n.undo.length - 1, by omega⟩
  have hget : n.undo[K]? = some (n.undo.getLastD []) := by
    rw [List.getLastD_eq_getLast?, List.getLast?_eq_getElem?, hK, Nat.add_sub_cancel]
    rw [List.getElem?_eq_getElem (by omega)]; rfl
  obtain ⟨xs, hx1, hx2⟩ := hel K _ hget
  obtain ⟨oa, on, oc, rfl, hro⟩ := hx1
  have hon := hro.1
  subst hon
  have y0 : w2.cell? ⟨r0, o0 + K, none⟩ = some (.slice oa (n.undo.getLastD []).length oc) := by
    have h := hx2 0 _ rfl
    have e1 : o0 + K * Rep.n Op + 0 = o0 + K := by show o0 + K * 1 + 0 = o0 + K; omega
    rw [e1] at h
    exact h
  have hdl : n.undo.take K = n.undo.dropLast := by rw [List.dropLast_eq_take, hK, Nat.add_sub_cancel]
  have hown2 : OwnO (WX w1.heap.size g vs) w1.heap.size (.slice (some ⟨r0, o0, none⟩) K c0) n.undo.dropLast w2 := by
    rw [← hdl]
    rw [hv1] at hrow
    exact hrow.take_in (by omega)
  obtain ⟨k1, k2, k3⟩ := WkG.setUndo (v' := .slice (some ⟨r0, o0, none⟩) K c0) M2.out (World.grownBy.refl _ _) (fun k hk => by
    have e : r0 = k := by simpa [Value.ownBlock] using hk
    subst e
    rw [hv1]; exact .inl rfl) hown2
  have K1 := Lib.hid k1
  have K2 := Lib.hid (k2.mono fun z _ hz => (M2.out.mine z hz).1)
  have R2 : Hid (RdS (NM g (fun q => if q = 1 then (.slice (some ⟨r0, o0, none⟩) K c0) else vs q) (w2.setCell ⟨g, 6, none⟩ (.slice (some ⟨r0, o0, none⟩) K c0))) (w2.setCell ⟨g, 6, none⟩ (.slice (some ⟨r0, o0, none⟩) K c0)) (n.undo.getLastD []) oa (n.undo.getLastD []).length oc) := by
    refine RdS.wk (hro.mono fun z hz => ⟨⟨hz.1, fun hm => hz.2.1 (.inr hm)⟩, rfl⟩) k2 k3
  have HKc : (K : Int) < (c0 : Int) := by omega
  have hcI : (K : Int) + 1 ≤ (c0 : Int) := by omega
  have hK1 : (K : Int) ≤ 12 := by have := (undoOk_all hGu.out).2; omega
  have hcm2 : (c0 : Int) ≤ 9223372036854775807 := by unfold maxLen at hcm; omega
  rw [hK] at r6
  clear hv1 hrow hget hx2 hro hdl hown2 k1 k2 k3 hel hcn hcm hfz hpos hK
  generalize hLO : n.undo.getLastD [] = LO at *
  generalize hIN : invO n.text LO = IN at *
  rw [hTT2.out] at HEd
  clear hLO hTT2 hIN
  go_wp2_with fail
  refine (HNP.out g w2).mono ?_
  rintro e w3 ⟨rfl, rfl⟩
  go_wp2_with fail
  generalize hW4 : w2.setCell ⟨g, 6, none⟩ (.slice (some ⟨r0, o0, none⟩) K c0) = w4 at *
  have B4 := Lib.hid (B2.out.trans (K2.out.toBelow (B := w.heap.size) (by omega) (fun z hz => by omega)))
  refine (HEd.out _ _ _ _ _ _ (Hg.out.go B4.out) K1.out R2.out).mono ?_
  rintro e w5 ⟨ba, bc, rfl, v5, m5, t5, -, -⟩
  have M9 := Lib.hid m5
  have T9 := Lib.hid (K2.out.trans (t5.mono fun z _ hz => (K1.out.mine z hz).1))
  clear m5 t5 K1 R2 HEd
  have X9 := X2.out.touch T9.out (by omega)
  obtain ⟨a0, c0, a1, c1, a2, c2, a3, c3, a4, c4, e1, e2, e3, e4⟩ := turn_out M9.out X9 (by omega) (B := w.heap.size) (by omega) (B2.out.trans (T9.out.toBelow (B := w.heap.size) (by omega) (fun z hz => by omega)))
  obtain ⟨p0, p1, p2, p3, p4, p5, p6, p7, p8, p9⟩ := blk10_cells X9
  have pf := X9.frozen
  have hz := X9.lt
  obtain ⟨q0, q1, q2, q3, q4, q5, q6, q7, q8, q9⟩ := blk10_cells e1
  have G := Lib.hid (And.intro e2 (And.intro e3 e4))
  clear e1 e2 e3 e4 X9
  go_wp2_with fail
  refine abs_ret (fun W => Blk (w.heap.size + 1) (.cells #[.int .i64 TT.node.me, .int .i64 TT.node.epoch, .int .i64 TT.node.up, .bool TT.node.ready, .string TT.node.text, .slice a0 TT.node.sides.length c0, .slice a1 TT.node.undo.length c1, .slice a2 TT.node.marks.length c2, .slice a3 TT.posts.length c3, .slice a4 TT.recs.length c4] 35 (0, 0)) W ∧ TnVal (Fresh w.heap.size W) TT (.agg #[.int .i64 TT.node.me, .int .i64 TT.node.epoch, .int .i64 TT.node.up, .bool TT.node.ready, .string TT.node.text, .slice a0 TT.node.sides.length c0, .slice a1 TT.node.undo.length c1, .slice a2 TT.node.marks.length c2, .slice a3 TT.posts.length c3, .slice a4 TT.recs.length c4]) W ∧ Below w.heap.size w W) G.out ?_
  rintro W ⟨y1, y2, y3⟩
  obtain ⟨k0, k1, k2, k3, k4, k5, k6, k7, k8, k9⟩ := blk10_cells y1
  exact bodyPost_ret (v := .tuple #[.agg #[.int .i64 TT.node.me, .int .i64 TT.node.epoch, .int .i64 TT.node.up, .bool TT.node.ready, .string TT.node.text, .slice a0 TT.node.sides.length c0, .slice a1 TT.node.undo.length c1, .slice a2 TT.node.marks.length c2, .slice a3 TT.posts.length c3, .slice a4 TT.recs.length c4], .int .i64 0]) (by simp [results, Tryd.results20, go_sem, k0, k1, k2, k3, k4, k5, k6, k7, k8, k9]) rfl ⟨_, rfl, y2, y3⟩
theorem ndUndo_any (t : List Int) (ta : Option Addr) (tn tc : Nat) (n : Nd) (a : Option Addr) (c : Nat) (ua : Option Addr) (uc : Nat) (ma : Option Addr) (mc : Nat) (b : Int) (w : World) (hg : Good w) (ht : RdS (· < w.heap.size) w t ta tn tc)
    (h1 : RdS (· < w.heap.size) w n.sides a n.sides.length c) (h2 : RdS (· < w.heap.size) w n.undo ua n.undo.length uc) (h3 : RdS (· < w.heap.size) w n.marks ma n.marks.length mc) (hf : n.fits) (hG : NdGood t n) (hB : NdB b n) (hb : b < 1000000) :
    Calls Tryd.prog 20 #[.slice ta tn tc, .agg #[.int .i64 n.me, .int .i64 n.epoch, .int .i64 n.up, .bool n.ready, .string n.text, .slice a n.sides.length c, .slice ua n.undo.length uc, .slice ma n.marks.length mc]] w (TurnE (undoE n) (undoT n) w) := by
  by_cases hE : undoE n = 0
  · exact (undo_ok t ta tn tc n a c ua uc ma mc b w hg ht h1 h2 h3 hf hG hB hb hE).mono fun e w' h => by
      unfold TurnE; rw [if_pos hE]; exact h
  · have key : ∀ E, undoE n = E → Calls Tryd.prog 20 #[.slice ta tn tc, .agg #[.int .i64 n.me, .int .i64 n.epoch, .int .i64 n.up, .bool n.ready, .string n.text, .slice a n.sides.length c, .slice ua n.undo.length uc, .slice ma n.marks.length mc]] w (fun e w' => e = .returned (.tuple #[.agg zeroTn, .int .i64 E]) ∧ Below w.heap.size w w') → Calls Tryd.prog 20 #[.slice ta tn tc, .agg #[.int .i64 n.me, .int .i64 n.epoch, .int .i64 n.up, .bool n.ready, .string n.text, .slice a n.sides.length c, .slice ua n.undo.length uc, .slice ma n.marks.length mc]] w (TurnE (undoE n) (undoT n) w) := fun E h1 h2 => h2.mono fun e w' h => by
      unfold TurnE; rw [if_neg hE, h1]; exact h
    by_cases hr : n.ready = false
    · exact key 12 (if_pos hr) (undo_away t ta tn tc n a c ua uc ma mc b w hg ht h1 h2 h3 hf hG hB hb hr)
    · have hr' : n.ready = true := by simpa using hr
      by_cases hu : n.undo = []
      · exact key 6 ((if_neg hr).trans (if_pos hu)) (undo_none t ta tn tc n a c ua uc ma mc b w hg ht h1 h2 h3 hf hG hB hb hr' hu)
      · by_cases hF : (⟨n, [], []⟩ : Tn).full (n.undo.getLastD []) = true
        · exact key 8 ((if_neg hr).trans ((if_neg hu).trans (if_pos hF))) (undo_full t ta tn tc n a c ua uc ma mc b w hg ht h1 h2 h3 hf hG hB hb hr' hu hF)
        · exact absurd ((if_neg hr).trans ((if_neg hu).trans (if_neg hF))) hE
end Go.Proofs.YtkbfhgcjimfgkaaDoor
set_option linter.unusedSimpArgs false
namespace Go.Proofs.YtkbfhgcjimfgkaaDoor
open Go.RowKit
/-- the row of the marks is another one -/
theorem WkG.setMk {base g : Nat} {t : Tn} {vs : Nat → Value} {w w' : World} {v' : Value} {l : List Mk} (h : WkM base g t vs w) (hg : w.grownBy w' (vs 2).ownBlock) (hv : ∀ k, v'.ownBlock = some k → (vs 2).ownBlock = some k ∨ w.heap.size ≤ k) (hn : OwnO (WX base g vs) base v' l w') :
    WkM base g (t.setMarks l) (fun q => if q = 2 then v' else vs q) (w'.setCell ⟨g, 7, none⟩ v') ∧ Touch (Mine g vs) w (w'.setCell ⟨g, 7, none⟩ v') ∧ ∀ z, Mine g (fun q => if q = 2 then v' else vs q) z → Mine g vs z ∨ w.heap.size ≤ z := by
  have h1 : WkG base g (t.setMarks l) vs (fun q => if q = 2 then v' else vs q) w' := h.grow (t' := t.setMarks l) (j := 2) (by omega) hg hv hn (fun i hi X v W h => by
    match i, hi with
    | 2, hi => exact absurd rfl hi
    | 0, _ => exact h
    | 1, _ => exact h
    | 3, _ => exact h
    | 4, _ => exact h
    | i + 5, _ => trivial) rfl h.fit
  have ht := touch1 (w := w') (g := g) (i := 7) v'
  refine ⟨h1.put ht (h1.box.set 7 v') (fun i X v W h => h) h.fit, ?_, ?_⟩
  · have hg' : Touch (Mine g vs) w w' := ⟨hg.os, hg.tape, hg.output, hg.size, fun k hk hs => hg.block k hk fun e => hs (.inr ⟨2, by omega, e.symm⟩)⟩
    exact hg'.trans (ht.mono fun k _ hk => .inl hk)
  · rintro z (hz | ⟨q, hq, hz⟩)
    · exact .inl (.inl hz)
    · by_cases e : q = 2
      · subst e
        simp only [if_true] at hz
        exact (hv z hz).imp_left fun h => .inr ⟨2, by omega, h⟩
      · simp only [if_neg e] at hz
        exact .inl (.inr ⟨q, hq, hz⟩)
theorem OwnO.single {α : Type} [Rep α] {X : Nat → Prop} {base b T : Nat} {ys : List Value} {y : α} {W : World} (hb : Blk b (.cells ys.toArray T (0, 0)) W) (hy : Rep.rd (fun z => z < W.heap.size ∧ ¬ X z ∧ z ≠ b) W y ys) (h1 : base ≤ b) : OwnO X base (.slice (some ⟨b, 0, none⟩) 1 1) [y] W := by
  have hl := Rep.len hy
  refine ⟨.inr ⟨b, 0, 1, rfl, h1, hb.lt, by simp, by unfold maxLen; omega, fun j hj => ⟨?_, hb.frozen _⟩, fun i x hi => ?_⟩⟩
  · rw [hb.cell, List.getElem?_toArray, Nat.zero_add, List.getElem?_eq_getElem (by omega)]; rfl
  · have hi0 : i = 0 := by
      have := (List.getElem?_eq_some_iff.1 hi).1
      simpa using this
    subst hi0
    have e : y = x := by simpa using hi
    subst e
    refine ⟨ys, hy, fun j u hu => ?_⟩
    rw [hb.cell, List.getElem?_toArray]
    have e1 : 0 + 0 * Rep.n α + j = j := by omega
    rw [e1]; exact hu
set_option maxRecDepth 100000 in
set_option maxHeartbeats 8000000 in
theorem sel_away (t : List Int) (ta : Option Addr) (tn tc : Nat) (n : Nd) (a : Option Addr) (c : Nat) (ua : Option Addr) (uc : Nat) (ma : Option Addr) (mc : Nat) (m : Mk) (b : Int) (w : World) (hg : Good w) (ht : RdS (· < w.heap.size) w t ta tn tc)
    (h1 : RdS (· < w.heap.size) w n.sides a n.sides.length c) (h2 : RdS (· < w.heap.size) w n.undo ua n.undo.length uc) (h3 : RdS (· < w.heap.size) w n.marks ma n.marks.length mc) (hf : n.fits) (hG : NdGood t n) (hB : NdB b n) (hb : b < 1000000) (hE : n.ready = false) :
    Calls Tryd.prog 17 #[.slice ta tn tc, .agg #[.int .i64 n.me, .int .i64 n.epoch, .int .i64 n.up, .bool n.ready, .string n.text, .slice a n.sides.length c, .slice ua n.undo.length uc, .slice ma n.marks.length mc], .agg #[.int .i64 m.anchor, .int .i64 m.head]] w (fun e w' => e = .returned (.tuple #[.agg zeroTn, .int .i64 12]) ∧ Below w.heap.size w w') := by
  have HBg := Lib.hid (fun W (hW : Below w.heap.size w W) => ndBegin_good t ta tn tc n a c ua uc ma mc W (hg.go hW) (ht.go hW) (h1.go hW) (h2.go hW) (h3.go hW) hf hG (hB.queue hG hb))
  have Hg := Lib.hid hg
  have hgz := hg.size
  have HE := Lib.hid hE
  clear ht h1 h2 h3 hf hG hB hg hb hE
  go_enter Tryd.func17, Tryd.ntmps17
  go_wp2_with fail
  refine abs_run (fun W => Below w.heap.size w W ∧ Blk w.heap.size (.cells #[.int .i64 n.me, .int .i64 n.epoch, .int .i64 n.up, .bool n.ready, .string n.text, .slice a n.sides.length c, .slice ua n.undo.length uc, .slice ma n.marks.length mc] 31 (0, 0)) W ∧ Blk (w.heap.size + 1) (.cells #[.int .i64 m.anchor, .int .i64 m.head] 58 (0, 0)) W ∧ Blk (w.heap.size + 1 + 1) (.cells zeroTn 35 (0, 0)) W) ⟨by (repeat (first | exact Below.refl _ _ | assumption | (refine Below.drew ?_) | (refine below_drewN ?_ _) | (refine Below.alloc ?_ (by first | (simp; done) | (simp; omega) | omega) _) | (refine Below.setCell ?_ (by first | (simp; done) | (simp; omega) | omega) _) | (refine Below.trans ?_ (Below.mono (by assumption) (by first | (simp; done) | (simp; omega) | omega))))), ((Blk.new w _).alloc _).alloc _, (Blk.at _ _ _ (by simp)).alloc _, Blk.at _ _ _ (by simp)⟩ ?_
  rintro w1 ⟨b1, x0, y0, x1⟩
  have B1 := Lib.hid b1
  have X0 := Lib.hid x0
  have X1 := Lib.hid x1
  have Y1 := Lib.hid y0
  have hx1 := x1.lt
  clear b1 x0 x1 y0
  refine (HBg.out w1 B1.out).mono ?_
  rintro e w2 ⟨g, vs, rfl, m2, b2⟩
  have M2 := Lib.hid m2
  have B2 := Lib.hid (up B1.out b2)
  have B12 := Lib.hid b2
  have X2 := Lib.hid (X1.out.go b2)
  have hz12 := b2.size
  obtain ⟨q0, q1, q2, q3, q4, q5, q6, q7⟩ := blk8_cells (X0.out.go b2)
  have Y2 := Lib.hid (Y1.out.go b2)
  have mk0 : w2.cell? ⟨w.heap.size + 1, 0, none⟩ = some (.int .i64 m.anchor) := Y2.out.cell 0
  have mk1 : w2.cell? ⟨w.heap.size + 1, 1, none⟩ = some (.int .i64 m.head) := Y2.out.cell 1
  have hsz2 := Y2.out.lt
  clear m2 b2 HBg X1 Y1
  rw [HE.out] at q3
  have X9 := Lib.hid X2.out
  have B9 := Lib.hid B2.out
  have hz := X9.out.lt
  obtain ⟨p0, p1, p2, p3, p4, p5, p6, p7, p8, p9⟩ := blk10_cells X9.out
  have pf := X9.out.frozen
  have G := Lib.hid (zero_turn (w := w) (b := w.heap.size + 1 + 1) (by omega) X9.out B9.out)
  go_wp2_with fail
  refine abs_ret (fun W => Blk (w.heap.size + 1 + 1) (.cells zeroTn 35 (0, 0)) W ∧ Below w.heap.size w W) G.out ?_
  rintro W ⟨y1, y2⟩
  obtain ⟨k0, k1, k2, k3, k4, k5, k6, k7, k8, k9⟩ := blk10_cells y1
  exact bodyPost_ret (v := .tuple #[.agg zeroTn, .int .i64 12]) (by simp [results, Tryd.results17, go_sem, k0, k1, k2, k3, k4, k5, k6, k7, k8, k9]) rfl ⟨rfl, y2⟩
set_option maxRecDepth 100000 in
set_option maxHeartbeats 8000000 in
theorem sel_out (t : List Int) (ta : Option Addr) (tn tc : Nat) (n : Nd) (a : Option Addr) (c : Nat) (ua : Option Addr) (uc : Nat) (ma : Option Addr) (mc : Nat) (m : Mk) (b : Int) (w : World) (hg : Good w) (ht : RdS (· < w.heap.size) w t ta tn tc)
    (h1 : RdS (· < w.heap.size) w n.sides a n.sides.length c) (h2 : RdS (· < w.heap.size) w n.undo ua n.undo.length uc) (h3 : RdS (· < w.heap.size) w n.marks ma n.marks.length mc) (hf : n.fits) (hG : NdGood t n) (hB : NdB b n) (hb : b < 1000000) (hE : n.ready = true) (hm : ¬ selOk n m) :
    Calls Tryd.prog 17 #[.slice ta tn tc, .agg #[.int .i64 n.me, .int .i64 n.epoch, .int .i64 n.up, .bool n.ready, .string n.text, .slice a n.sides.length c, .slice ua n.undo.length uc, .slice ma n.marks.length mc], .agg #[.int .i64 m.anchor, .int .i64 m.head]] w (fun e w' => e = .returned (.tuple #[.agg zeroTn, .int .i64 2]) ∧ Below w.heap.size w w') := by
  have HBg := Lib.hid (fun W (hW : Below w.heap.size w W) => ndBegin_good t ta tn tc n a c ua uc ma mc W (hg.go hW) (ht.go hW) (h1.go hW) (h2.go hW) (h3.go hW) hf hG (hB.queue hG hb))
  have Hg := Lib.hid hg
  have hgz := hg.size
  have HR := Lib.hid (fun W => rc_any n.text W hf.2.2.2)
  have HE := Lib.hid hE
  have HM := Lib.hid (show (!decide (selOk n m)) = true by simp [hm])
  clear ht h1 h2 h3 hf hG hB hg hb hE hm
  go_enter Tryd.func17, Tryd.ntmps17
  go_wp2_with fail
  refine abs_run (fun W => Below w.heap.size w W ∧ Blk w.heap.size (.cells #[.int .i64 n.me, .int .i64 n.epoch, .int .i64 n.up, .bool n.ready, .string n.text, .slice a n.sides.length c, .slice ua n.undo.length uc, .slice ma n.marks.length mc] 31 (0, 0)) W ∧ Blk (w.heap.size + 1) (.cells #[.int .i64 m.anchor, .int .i64 m.head] 58 (0, 0)) W ∧ Blk (w.heap.size + 1 + 1) (.cells zeroTn 35 (0, 0)) W) ⟨by (repeat (first | exact Below.refl _ _ | assumption | (refine Below.drew ?_) | (refine below_drewN ?_ _) | (refine Below.alloc ?_ (by first | (simp; done) | (simp; omega) | omega) _) | (refine Below.setCell ?_ (by first | (simp; done) | (simp; omega) | omega) _) | (refine Below.trans ?_ (Below.mono (by assumption) (by first | (simp; done) | (simp; omega) | omega))))), ((Blk.new w _).alloc _).alloc _, (Blk.at _ _ _ (by simp)).alloc _, Blk.at _ _ _ (by simp)⟩ ?_
  rintro w1 ⟨b1, x0, y0, x1⟩
  have B1 := Lib.hid b1
  have X0 := Lib.hid x0
  have X1 := Lib.hid x1
  have Y1 := Lib.hid y0
  have hx1 := x1.lt
  clear b1 x0 x1 y0
  refine (HBg.out w1 B1.out).mono ?_
  rintro e w2 ⟨g, vs, rfl, m2, b2⟩
  have M2 := Lib.hid m2
  have B2 := Lib.hid (up B1.out b2)
  have B12 := Lib.hid b2
  have X2 := Lib.hid (X1.out.go b2)
  have hz12 := b2.size
  obtain ⟨q0, q1, q2, q3, q4, q5, q6, q7⟩ := blk8_cells (X0.out.go b2)
  have Y2 := Lib.hid (Y1.out.go b2)
  have mk0 : w2.cell? ⟨w.heap.size + 1, 0, none⟩ = some (.int .i64 m.anchor) := Y2.out.cell 0
  have mk1 : w2.cell? ⟨w.heap.size + 1, 1, none⟩ = some (.int .i64 m.head) := Y2.out.cell 1
  have hsz2 := Y2.out.lt
  clear m2 b2 HBg X1 Y1
  rw [HE.out] at q3
  go_wp2_with fail
  refine (HR.out w2).mono ?_
  rintro e w3 ⟨rfl, b3⟩
  have M3 := Lib.hid (M2.out.go b3)
  have B3 := Lib.hid (up B2.out b3)
  have X3 := Lib.hid (X2.out.go b3)
  have Y3 := Lib.hid (Y2.out.go b3)
  have hz23 := b3.size
  have T23 := Lib.hid (Touch.of_below (S := fun z => w1.heap.size ≤ z) b3)
  replace mk0 : w3.cell? ⟨w.heap.size + 1, 0, none⟩ = some (.int .i64 m.anchor) := Y3.out.cell 0
  replace mk1 : w3.cell? ⟨w.heap.size + 1, 1, none⟩ = some (.int .i64 m.head) := Y3.out.cell 1
  clear b3 q0 q1 q2 q3 q4 q5 q6 q7
  go_upto_region 7 with fail
  go_cut [31, 32, 33, 34, 35, 36, 37, 38, 39, 40, 41, 42, 43, 44, 45, 46, 47] from 28 to 47 (fun _ _ _ _ _ _ _ _ _ _ _ _ _ _ _ _ s47 W => s47 = .bool (!decide (selOk n m)) ∧ w3 = W)
  case first =>
    by_cases a1 : m.anchor < 0
    · have hs : (!decide (selOk n m)) = true := by
        have : ¬ selOk n m := fun h => by have := h.1; omega
        simp [this]
      go_wp2_with fail
      go_meet
      case rel => exact ⟨by rw [hs], rfl⟩
    · by_cases a2 : rc n.text < m.anchor
      · have hs : (!decide (selOk n m)) = true := by
          have : ¬ selOk n m := fun h => by have := h.2.1; omega
          simp [this]
        go_wp2_with fail
        go_meet
        case rel => exact ⟨by rw [hs], rfl⟩
      · by_cases a3 : m.head < 0
        · have hs : (!decide (selOk n m)) = true := by
            have : ¬ selOk n m := fun h => by have := h.2.2.1; omega
            simp [this]
          go_wp2_with fail
          go_meet
          case rel => exact ⟨by rw [hs], rfl⟩
        · by_cases a4 : rc n.text < m.head
          · have hs : (!decide (selOk n m)) = true := by
              have : ¬ selOk n m := fun h => by have := h.2.2.2; omega
              simp [this]
            go_wp2_with fail
            go_meet
            case rel => exact ⟨by rw [hs], rfl⟩
          · have hs : (!decide (selOk n m)) = false := by
              have : selOk n m := ⟨by omega, by omega, by omega, by omega⟩
              simp [this]
            go_wp2_with fail
            go_meet
            case rel => exact ⟨by rw [hs], rfl⟩
  case rest =>
    obtain ⟨rfl, rfl⟩ := hcut
    rw [HM.out]
    have X9 := Lib.hid X3.out
    have B9 := Lib.hid B3.out
    have hz := X9.out.lt
    obtain ⟨p0, p1, p2, p3, p4, p5, p6, p7, p8, p9⟩ := blk10_cells X9.out
    have pf := X9.out.frozen
    have G := Lib.hid (zero_turn (w := w) (b := w.heap.size + 1 + 1) (by omega) X9.out B9.out)
    go_wp2_with fail
    refine abs_ret (fun W => Blk (w.heap.size + 1 + 1) (.cells zeroTn 35 (0, 0)) W ∧ Below w.heap.size w W) G.out ?_
    rintro W ⟨y1, y2⟩
    obtain ⟨k0, k1, k2, k3, k4, k5, k6, k7, k8, k9⟩ := blk10_cells y1
    exact bodyPost_ret (v := .tuple #[.agg zeroTn, .int .i64 2]) (by simp [results, Tryd.results17, go_sem, k0, k1, k2, k3, k4, k5, k6, k7, k8, k9]) rfl ⟨rfl, y2⟩
set_option maxRecDepth 100000 in
set_option maxHeartbeats 8000000 in
theorem sel_ok (t : List Int) (ta : Option Addr) (tn tc : Nat) (n : Nd) (a : Option Addr) (c : Nat) (ua : Option Addr) (uc : Nat) (ma : Option Addr) (mc : Nat) (m : Mk) (b : Int) (w : World) (hg : Good w) (ht : RdS (· < w.heap.size) w t ta tn tc)
    (h1 : RdS (· < w.heap.size) w n.sides a n.sides.length c) (h2 : RdS (· < w.heap.size) w n.undo ua n.undo.length uc) (h3 : RdS (· < w.heap.size) w n.marks ma n.marks.length mc) (hf : n.fits) (hG : NdGood t n) (hB : NdB b n) (hb : b < 1000000) (hm64 : I64 m.anchor ∧ I64 m.head) (hE : n.ready = true) (hm : selOk n m) :
    Calls Tryd.prog 17 #[.slice ta tn tc, .agg #[.int .i64 n.me, .int .i64 n.epoch, .int .i64 n.up, .bool n.ready, .string n.text, .slice a n.sides.length c, .slice ua n.undo.length uc, .slice ma n.marks.length mc], .agg #[.int .i64 m.anchor, .int .i64 m.head]] w (TurnP (selT n m) w) := by
  have HBg := Lib.hid (fun W (hW : Below w.heap.size w W) => ndBegin_good t ta tn tc n a c ua uc ma mc W (hg.go hW) (ht.go hW) (h1.go hW) (h2.go hW) (h3.go hW) hf hG (hB.queue hG hb))
  have Hg := Lib.hid hg
  have hgz := hg.size
  have HR := Lib.hid (fun W => rc_any n.text W hf.2.2.2)
  have HNP := Lib.hid (fun g W => node_ptr g W)
  have HE := Lib.hid hE
  have HM := Lib.hid (show (!decide (selOk n m)) = false by simp [hm])
  have H64 := Lib.hid hm64
  obtain ⟨TT, hTT⟩ : ∃ TT, Hid (TT = selT n m) := ⟨_, rfl⟩
  rw [← hTT.out]
  clear ht h1 h2 h3 hf hG hB hg hb hE hm hm64
  go_enter Tryd.func17, Tryd.ntmps17
  go_wp2_with fail
  refine abs_run (fun W => Below w.heap.size w W ∧ Blk w.heap.size (.cells #[.int .i64 n.me, .int .i64 n.epoch, .int .i64 n.up, .bool n.ready, .string n.text, .slice a n.sides.length c, .slice ua n.undo.length uc, .slice ma n.marks.length mc] 31 (0, 0)) W ∧ Blk (w.heap.size + 1) (.cells #[.int .i64 m.anchor, .int .i64 m.head] 58 (0, 0)) W ∧ Blk (w.heap.size + 1 + 1) (.cells zeroTn 35 (0, 0)) W) ⟨by (repeat (first | exact Below.refl _ _ | assumption | (refine Below.drew ?_) | (refine below_drewN ?_ _) | (refine Below.alloc ?_ (by first | (simp; done) | (simp; omega) | omega) _) | (refine Below.setCell ?_ (by first | (simp; done) | (simp; omega) | omega) _) | (refine Below.trans ?_ (Below.mono (by assumption) (by first | (simp; done) | (simp; omega) | omega))))), ((Blk.new w _).alloc _).alloc _, (Blk.at _ _ _ (by simp)).alloc _, Blk.at _ _ _ (by simp)⟩ ?_
  rintro w1 ⟨b1, x0, y0, x1⟩
  have B1 := Lib.hid b1
  have X0 := Lib.hid x0
  have X1 := Lib.hid x1
  have Y1 := Lib.hid y0
  have hx1 := x1.lt
  clear b1 x0 x1 y0
  refine (HBg.out w1 B1.out).mono ?_
  rintro e w2 ⟨g, vs, rfl, m2, b2⟩
  have M2 := Lib.hid m2
  have B2 := Lib.hid (up B1.out b2)
  have B12 := Lib.hid b2
  have X2 := Lib.hid (X1.out.go b2)
  have hz12 := b2.size
  obtain ⟨q0, q1, q2, q3, q4, q5, q6, q7⟩ := blk8_cells (X0.out.go b2)
  have Y2 := Lib.hid (Y1.out.go b2)
  have mk0 : w2.cell? ⟨w.heap.size + 1, 0, none⟩ = some (.int .i64 m.anchor) := Y2.out.cell 0
  have mk1 : w2.cell? ⟨w.heap.size + 1, 1, none⟩ = some (.int .i64 m.head) := Y2.out.cell 1
  have hsz2 := Y2.out.lt
  clear m2 b2 HBg X1 Y1
  rw [HE.out] at q3
  go_wp2_with fail
  refine (HR.out w2).mono ?_
  rintro e w3 ⟨rfl, b3⟩
  have M3 := Lib.hid (M2.out.go b3)
  have B3 := Lib.hid (up B2.out b3)
  have X3 := Lib.hid (X2.out.go b3)
  have Y3 := Lib.hid (Y2.out.go b3)
  have hz23 := b3.size
  have T23 := Lib.hid (Touch.of_below (S := fun z => w1.heap.size ≤ z) b3)
  replace mk0 : w3.cell? ⟨w.heap.size + 1, 0, none⟩ = some (.int .i64 m.anchor) := Y3.out.cell 0
  replace mk1 : w3.cell? ⟨w.heap.size + 1, 1, none⟩ = some (.int .i64 m.head) := Y3.out.cell 1
  clear b3 q0 q1 q2 q3 q4 q5 q6 q7
  go_upto_region 7 with fail
  go_cut [31, 32, 33, 34, 35, 36, 37, 38, 39, 40, 41, 42, 43, 44, 45, 46, 47] from 28 to 47 (fun _ _ _ _ _ _ _ _ _ _ _ _ _ _ _ _ s47 W => s47 = .bool (!decide (selOk n m)) ∧ w3 = W)
  case first =>
    by_cases a1 : m.anchor < 0
    · have hs : (!decide (selOk n m)) = true := by
        have : ¬ selOk n m := fun h => by have := h.1; omega
        simp [this]
      go_wp2_with fail
      go_meet
      case rel => exact ⟨by rw [hs], rfl⟩
    · by_cases a2 : rc n.text < m.anchor
      · have hs : (!decide (selOk n m)) = true := by
          have : ¬ selOk n m := fun h => by have := h.2.1; omega
          simp [this]
        go_wp2_with fail
        go_meet
        case rel => exact ⟨by rw [hs], rfl⟩
      · by_cases a3 : m.head < 0
        · have hs : (!decide (selOk n m)) = true := by
            have : ¬ selOk n m := fun h => by have := h.2.2.1; omega
            simp [this]
          go_wp2_with fail
          go_meet
          case rel => exact ⟨by rw [hs], rfl⟩
        · by_cases a4 : rc n.text < m.head
          · have hs : (!decide (selOk n m)) = true := by
              have : ¬ selOk n m := fun h => by have := h.2.2.2; omega
              simp [this]
            go_wp2_with fail
            go_meet
            case rel => exact ⟨by rw [hs], rfl⟩
          · have hs : (!decide (selOk n m)) = false := by
              have : selOk n m := ⟨by omega, by omega, by omega, by omega⟩
              simp [this]
            go_wp2_with fail
            go_meet
            case rel => exact ⟨by rw [hs], rfl⟩
  case rest =>
    obtain ⟨rfl, rfl⟩ := hcut
    rw [HM.out]
    have hgl := M3.out.lt
    have hgb := M3.out.gb
    have hg3 := M3.out.lt
    go_upto_region 9 with fail
    obtain ⟨Vp, HV⟩ : ∃ Vp : Nat → Value → World → Prop, Hid (Vp = fun i v W => match i with
        | 0 => v = .pointer (some ⟨g, 0, none⟩)
        | 1 => v = .pointer (some ⟨g, 0, none⟩)
        | 2 => v = .agg #[.int .i64 m.anchor, .int .i64 m.head]
        | 3 => ∃ b, v = .slice (some ⟨b, 0, none⟩) 1 1 ∧ Blk b (.cells #[.int .i64 m.anchor, .int .i64 m.head] 58 (0, 0)) W ∧ w3.heap.size ≤ b
        | 4 => v = .pointer (some ⟨g, 0, none⟩)
        | 5 => v = .pointer (some ⟨g, 7, none⟩)
        | _ => v = undef) := ⟨_, rfl⟩
    obtain ⟨Ip, HIp⟩ : ∃ Ip : (Nat → Bool) → (Nat → Value) → World → Prop, Hid (Ip = fun L x W => ((L 6 = false → Below w3.heap.size w3 W) ∧ (L 6 = true → Touch (Mine g vs) w3 W ∧ ∃ v2, WkM w1.heap.size g TT v2 W))) := ⟨_, rfl⟩
    refine region_lit3 (by kernel_rfl) (by kernel_rfl) (by kernel_rfl) [[], [0], [], [2], [0, 1], [0, 1, 4], [0, 1, 2, 3, 4, 5]] (by kernel_rfl) [some 49, some 50, some 51, some 52, some 53, some 54, none] (by kernel_rfl) [[0, 1, 4, 5, 6], [1, 4, 5, 6], [2, 3, 6], [3, 6], [4, 5, 6], [5, 6], [6]] (by kernel_rfl) [[], [], [], [6], [], [], []] [[], [0], [], [2], [1], [4], [3, 5]] (by kernel_rfl)
      Ip
      Vp
      (fun j W W' => match j with
        | 6 => Touch (fun z => z = g) W W'
        | _ => Below W.heap.size W W')
      [fun x => ⟨(fZm 8 (.pointer (some ⟨g, 0, none⟩)) (fEm 41)).toArray, []⟩,
   fun x => ⟨(fZm 49 (x 0) (fEm 1)).toArray, []⟩,
   fun x => ⟨(fZm 5 (.pointer (some ⟨w.heap.size + 1, 0, none⟩)) (fEm 46)).toArray, []⟩,
   fun x => ⟨(fZm 51 (x 2) (fEm 1)).toArray, []⟩,
   fun x => ⟨(fZm 50 (x 1) (fEm 3)).toArray, []⟩,
   fun x => ⟨(fZm 53 (x 4) (fEm 1)).toArray, []⟩,
   fun x => ⟨(fZm 52 (x 3) (fZm 1 (x 5) [])).toArray, []⟩]
      ?hF ?mono ?h0 ?step [0, 1, 2, 4, 5, 6] (by kernel_rfl) ?fin
    case hF =>
      iterate 7 refine ⟨fun x => ⟨by kernel_rfl, by kernel_rfl⟩, ?_⟩
      trivial
    case mono =>
      intro i j hi hj hne hna hnk v W W' hE hv
      rw [HV.out] at hv ⊢
      simp only [List.length_cons, List.length_nil] at hi hj
      match i, hi with
      | 0, _ | 1, _ | 2, _ | 4, _ | 5, _ | 6, _ => exact hv
      | 3, _ =>
        match j, hj with
        | 3, _ => exact absurd rfl hne
        | 2, _ => exact absurd (by simp) hna
        | 6, _ => exact absurd (by simp) hnk
        | 0, _ | 1, _ | 4, _ | 5, _ => exact (by obtain ⟨b, h1, h2, h3⟩ := hv; exact ⟨b, h1, h2.go hE, h3⟩)
        | m + 7, h => exact absurd h (by omega)
      | m + 7, h => exact absurd h (by omega)
    case h0 => intro x; exact toI HIp ⟨(fun _ => (Below.refl _ _).drew), (fun h => by cases h)⟩
    case step =>
      refine ⟨?_, ?_, ?_, ?_, ?_, ?_, ?_, trivial⟩
      all_goals
        intro x W L hI hL hV
        replace hI : ((L 6 = false → Below w3.heap.size w3 W) ∧ (L 6 = true → Touch (Mine g vs) w3 W ∧ ∃ v2, WkM w1.heap.size g TT v2 W)) := ofI HIp hI
        rw [HV.out] at hV
        simp only [AllV, and_true] at hV
        dsimp only [fZm, fEm, List.reduceReplicate, List.cons_append, List.nil_append]
      · clear hV
        have HI := Lib.hid hI
        clear hI
        go_wp2_with fail
        refine step3_done rfl ?_ ?_ ?_
        · exact (toI HIp HI.out)
        · exact (Below.refl _ _)
        · exact (toV HV rfl)
      · have u0 := hV
        clear hV
        simp only [u0]
        clear u0
        have HL := Lib.hid hL
        have HI := Lib.hid hI
        clear hI hL
        go_wp2_with fail
        refine (HNP.out g W).mono ?_
        rintro e W' ⟨rfl, rfl⟩
        go_wp2_with fail
        refine step3_done rfl ?_ ?_ ?_
        · exact (toI HIp HI.out)
        · exact (Below.refl _ _)
        · exact (toV HV rfl)
      · clear hV
        have hb := Y3.out.go (hI.1 (hL.2 6 (by simp)))
        have c0 : W.cell? ⟨w.heap.size + 1, 0, none⟩ = some (.int .i64 m.anchor) := hb.cell 0
        have c1 : W.cell? ⟨w.heap.size + 1, 1, none⟩ = some (.int .i64 m.head) := hb.cell 1
        have HI := Lib.hid hI
        clear hI hb
        go_wp2_with fail
        refine step3_done rfl ?_ ?_ ?_
        · exact (toI HIp HI.out)
        · exact (Below.refl _ _)
        · exact (toV HV rfl)
      · have u2 := hV
        clear hV
        simp only [u2]
        clear u2
        have hb := hI.1 (hL.2 6 (by simp))
        have hzW := hb.size
        have HB := Lib.hid hb
        have HL := Lib.hid hL
        have HI := Lib.hid hI
        clear hI hL hb
        go_wp2_with fail
        have uW : ∀ o, Below W.heap.size W (W.alloc o) := fun o => (Below.refl _ _).alloc (Nat.le_refl _) o
        refine step3_done rfl ?_ ?_ ?_
        · exact (toI HIp ⟨(fun _ => up HB.out (uW _)), (fun h => absurd ((HL.out.2 6 (by simp)).symm.trans h) (by simp))⟩)
        · exact (uW _)
        · exact (toV HV ⟨_, rfl, Blk.new _ _, hzW⟩)
      · have u1 := hV
        clear hV
        simp only [u1]
        clear u1
        have HI := Lib.hid hI
        clear hI
        go_wp2_with fail
        refine step3_done rfl ?_ ?_ ?_
        · exact (toI HIp HI.out)
        · exact (Below.refl _ _)
        · exact (toV HV rfl)
      · have u4 := hV
        clear hV
        simp only [u4]
        clear u4
        have HI := Lib.hid hI
        clear hI
        go_wp2_with fail
        refine step3_done rfl ?_ ?_ ?_
        · exact (toI HIp HI.out)
        · exact (Below.refl _ _)
        · exact (toV HV rfl)
      · obtain ⟨⟨g9, u3, b9, l9⟩, u5⟩ := hV
        simp only [u3, u5]
        have U3 := Lib.hid u3
        clear u3 u5
        have hb := hI.1 (hL.2 6 (by simp))
        have hM := M3.out.go hb
        have hzW := hb.size
        have hO : OwnO (WX w1.heap.size g vs) w1.heap.size (.slice (some ⟨g9, 0, none⟩) 1 1) [m] W := OwnO.single (ys := [.int .i64 m.anchor, .int .i64 m.head]) b9 ⟨rfl, H64.out.1, H64.out.2⟩ (by omega)
        obtain ⟨k1, k2, k3⟩ := WkG.setMk (v' := .slice (some ⟨g9, 0, none⟩) 1 1) M3.out (w' := W) ⟨hb.os, hb.tape, hb.output, hb.size, fun k hk _ => hb.block k hk⟩ (fun k hk => by
          have e : g9 = k := by simpa [Value.ownBlock] using hk
          subst e
          exact .inr l9) hO
        rw [show (⟨n, [], []⟩ : Tn).setMarks [m] = TT from hTT.out.symm] at k1
        have K1 := Lib.hid k1
        have K2 := Lib.hid k2
        obtain ⟨-, -, -, -, -, -, -, p7, -, -⟩ := blk10_cells hM.box
        have fW := hM.box.frozen
        have hlt := hM.lt
        have HL := Lib.hid hL
        have HI := Lib.hid hI
        clear hI hL hM hO k1 k2 k3 hb
        go_wp2_with fail
        have ht := touch1 (w := W) (g := g) (i := 7) (.slice (some ⟨g9, 0, none⟩) 1 1)
        refine step3_done (v := undef) rfl ?_ ?_ ?_
        · exact toI HIp ⟨(fun h => absurd h (by simp [setB])), (fun _ => ⟨K2.out, _, K1.out⟩)⟩
        · exact ht
        · exact toV HV rfl
    case fin =>
      intro x W L hL hI hV
      replace hI : ((L 6 = false → Below w3.heap.size w3 W) ∧ (L 6 = true → Touch (Mine g vs) w3 W ∧ ∃ v2, WkM w1.heap.size g TT v2 W)) := ofI HIp hI
      rw [HV.out] at hV
      simp only [AllV, and_true] at hV
      obtain ⟨u0, u1, u2, u4, u5, u6⟩ := hV
      simp only [getsD, List.getD_cons_succ, List.getD_cons_zero, List.length_cons, List.length_nil, List.range, List.range.loop, u0, u1, u2, u4, u5, u6, Act.put, List.setIfInBounds_toArray, List.set_cons_succ, List.set_cons_zero]
      clear u0 u1 u2 u4 u5 u6
      obtain ⟨hT2, v2, hM2⟩ := hI.2 (hL 6 (by simp))
      have M9 := Lib.hid hM2
      have T9 := Lib.hid (T23.out.trans (hT2.mono fun z _ hz => (M3.out.mine z hz).1))
      clear hI hL hM2 hT2
      have X9 := X2.out.touch T9.out (by omega)
      obtain ⟨a0, c0, a1, c1, a2, c2, a3, c3, a4, c4, e1, e2, e3, e4⟩ := turn_out M9.out X9 (by omega) (B := w.heap.size) (by omega) (B2.out.trans (T9.out.toBelow (B := w.heap.size) (by omega) (fun z hz => by omega)))
      obtain ⟨p0, p1, p2, p3, p4, p5, p6, p7, p8, p9⟩ := blk10_cells X9
      have pf := X9.frozen
      have hz := X9.lt
      obtain ⟨q0, q1, q2, q3, q4, q5, q6, q7, q8, q9⟩ := blk10_cells e1
      have G := Lib.hid (And.intro e2 (And.intro e3 e4))
      clear e1 e2 e3 e4 X9
      go_wp2_with fail
      refine abs_ret (fun W => Blk (w.heap.size + 1 + 1) (.cells #[.int .i64 TT.node.me, .int .i64 TT.node.epoch, .int .i64 TT.node.up, .bool TT.node.ready, .string TT.node.text, .slice a0 TT.node.sides.length c0, .slice a1 TT.node.undo.length c1, .slice a2 TT.node.marks.length c2, .slice a3 TT.posts.length c3, .slice a4 TT.recs.length c4] 35 (0, 0)) W ∧ TnVal (Fresh w.heap.size W) TT (.agg #[.int .i64 TT.node.me, .int .i64 TT.node.epoch, .int .i64 TT.node.up, .bool TT.node.ready, .string TT.node.text, .slice a0 TT.node.sides.length c0, .slice a1 TT.node.undo.length c1, .slice a2 TT.node.marks.length c2, .slice a3 TT.posts.length c3, .slice a4 TT.recs.length c4]) W ∧ Below w.heap.size w W) G.out ?_
      rintro W ⟨y1, y2, y3⟩
      obtain ⟨k0, k1, k2, k3, k4, k5, k6, k7, k8, k9⟩ := blk10_cells y1
      exact bodyPost_ret (v := .tuple #[.agg #[.int .i64 TT.node.me, .int .i64 TT.node.epoch, .int .i64 TT.node.up, .bool TT.node.ready, .string TT.node.text, .slice a0 TT.node.sides.length c0, .slice a1 TT.node.undo.length c1, .slice a2 TT.node.marks.length c2, .slice a3 TT.posts.length c3, .slice a4 TT.recs.length c4], .int .i64 0]) (by simp [results, Tryd.results17, go_sem, k0, k1, k2, k3, k4, k5, k6, k7, k8, k9]) rfl ⟨_, rfl, y2, y3⟩
theorem ndSelect_any (t : List Int) (ta : Option Addr) (tn tc : Nat) (n : Nd) (a : Option Addr) (c : Nat) (ua : Option Addr) (uc : Nat) (ma : Option Addr) (mc : Nat) (m : Mk) (b : Int) (w : World) (hg : Good w) (ht : RdS (· < w.heap.size) w t ta tn tc)
    (h1 : RdS (· < w.heap.size) w n.sides a n.sides.length c) (h2 : RdS (· < w.heap.size) w n.undo ua n.undo.length uc) (h3 : RdS (· < w.heap.size) w n.marks ma n.marks.length mc) (hf : n.fits) (hG : NdGood t n) (hB : NdB b n) (hb : b < 1000000) (hm64 : I64 m.anchor ∧ I64 m.head) :
    Calls Tryd.prog 17 #[.slice ta tn tc, .agg #[.int .i64 n.me, .int .i64 n.epoch, .int .i64 n.up, .bool n.ready, .string n.text, .slice a n.sides.length c, .slice ua n.undo.length uc, .slice ma n.marks.length mc], .agg #[.int .i64 m.anchor, .int .i64 m.head]] w (TurnE (selE n m) (selT n m) w) := by
  by_cases hr : n.ready = false
  · have e : selE n m = 12 := if_pos hr
    exact (sel_away t ta tn tc n a c ua uc ma mc m b w hg ht h1 h2 h3 hf hG hB hb hr).mono fun e' w' h => by
      unfold TurnE; rw [if_neg (by rw [e]; decide), e]; exact h
  · have hr' : n.ready = true := by simpa using hr
    by_cases hm : selOk n m
    · have e : selE n m = 0 := (if_neg hr).trans (if_neg (by simpa using hm))
      exact (sel_ok t ta tn tc n a c ua uc ma mc m b w hg ht h1 h2 h3 hf hG hB hb hm64 hr' hm).mono fun e' w' h => by
        unfold TurnE; rw [if_pos e]; exact h
    · have e : selE n m = 2 := (if_neg hr).trans (if_pos hm)
      exact (sel_out t ta tn tc n a c ua uc ma mc m b w hg ht h1 h2 h3 hf hG hB hb hr' hm).mono fun e' w' h => by
        unfold TurnE; rw [if_neg (by rw [e]; decide), e]; exact h
end Go.Proofs.YtkbfhgcjimfgkaaDoor
set_option linter.unusedSimpArgs false
namespace Go.Proofs.YtkbfhgcjimfgkaaDoor
open Go.RowKit
/-- a turn in the box b; what it reaches is not older than B, and is not the box -/
def TnBox (B b : Nat) (t : Tn) (W : World) : Prop := ∃ a0 c0 a1 c1 a2 c2 a3 c3 a4 c4, Blk b (.cells #[.int .i64 t.node.me, .int .i64 t.node.epoch, .int .i64 t.node.up, .bool t.node.ready, .string t.node.text, .slice a0 t.node.sides.length c0, .slice a1 t.node.undo.length c1, .slice a2 t.node.marks.length c2, .slice a3 t.posts.length c3, .slice a4 t.recs.length c4] 35 (0, 0)) W ∧ B ≤ b ∧
  TnVal (fun z => B ≤ z ∧ z < W.heap.size ∧ z ≠ b) t (.agg #[.int .i64 t.node.me, .int .i64 t.node.epoch, .int .i64 t.node.up, .bool t.node.ready, .string t.node.text, .slice a0 t.node.sides.length c0, .slice a1 t.node.undo.length c1, .slice a2 t.node.marks.length c2, .slice a3 t.posts.length c3, .slice a4 t.recs.length c4]) W
/-- what a turn's value reads as, its letters known -/
theorem TnVal.at {A : Nat → Prop} {t : Tn} {w : World} {a0 a1 a2 a3 a4 : Option Addr} {c0 c1 c2 c3 c4 : Nat} (h : TnVal A t (.agg #[.int .i64 t.node.me, .int .i64 t.node.epoch, .int .i64 t.node.up, .bool t.node.ready, .string t.node.text, .slice a0 t.node.sides.length c0, .slice a1 t.node.undo.length c1, .slice a2 t.node.marks.length c2, .slice a3 t.posts.length c3, .slice a4 t.recs.length c4]) w) : t.node.fits ∧
    RdS A w t.node.sides a0 t.node.sides.length c0 ∧ RdS A w t.node.undo a1 t.node.undo.length c1 ∧ RdS A w t.node.marks a2 t.node.marks.length c2 ∧ RdS A w t.posts a3 t.posts.length c3 ∧ RdS A w t.recs a4 t.recs.length c4 := by
  obtain ⟨b0, d0, b1, d1, b2, d2, b3, d3, b4, d4, e, hf, r0, r1, r2, r3, r4⟩ := h.open
  injection e with e
  simp only [Array.mk.injEq, List.cons.injEq, and_true, Value.slice.injEq, true_and] at e
  obtain ⟨⟨rfl, rfl⟩, ⟨rfl, rfl⟩, ⟨rfl, rfl⟩, ⟨rfl, rfl⟩, ⟨rfl, rfl⟩⟩ := e
  exact ⟨hf, r0, r1, r2, r3, r4⟩
theorem lone_tree' {b T : Nat} {W : World} (h : Blk b (.cells #[.int .i64 (-1)] T (0, 0)) W) : RdS (· < W.heap.size) W ([-1] : List Int) (some ⟨b, 0, none⟩) 1 1 := by
  refine ⟨rfl, Nat.le_refl _, by unfold maxLen; omega, (fun h => by cases h), fun _ => ⟨b, 0, rfl, h.lt, h.lt, fun i x hi => ?_⟩⟩
  have hi0 : i = 0 := by
    have := (List.getElem?_eq_some_iff.1 hi).1
    simpa using this
  subst hi0
  have e : (-1 : Int) = x := by simpa using hi
  subst e
  refine ⟨[.int .i64 (-1)], ⟨rfl, by unfold I64; omega⟩, fun j u hu => ?_⟩
  match j, hu with
  | 0, hu => exact (h.cell 0).trans hu
  | j + 1, hu => cases hu
end Go.Proofs.YtkbfhgcjimfgkaaDoor
