/- The arguments of laws opened: strings, bools, raw things; and the tables of package unicode/utf8 off the row's list. (open_slice_fields, open_agg5: lines of the guide's, to be copied by its word.) -/
import Derived.Test.YtkbfhgcjimfgkaaDoorPartC1
import Derived.Test.YtkbfhgcjimfgkaaDoorRows
import Derived.Test.YtkbfhgcjimfgkaaDoorPartA0
import Derived.ProofKit
import Derived.OpenShut
import Derived.Test.YtkbfhgcjimfgkaaDoorPartA3
import Derived.Test.YtkbfhgcjimfgkaaDoorShelf
import Derived.Deep.Slices
import Derived.Deep.Fields
import Derived.ChangeSame
import Derived.Lib.SmallJoins
import Derived.Lib.LaidIn
import Derived.Lib.LaidU8T
import Derived.PinnedBridge
import Derived.Deep.DeepHandedRow
import Derived.Deep.DeepWitnessRowRef
import Derived.SizedLaws
set_option linter.unusedVariables false
set_option linter.unusedSimpArgs false
set_option linter.unusedSimpArgs false
namespace Go.Proofs.YtkbfhgcjimfgkaaDoor
open Go.RowKit
set_option maxRecDepth 100000 in
set_option maxHeartbeats 8000000 in
theorem edit_ok (t : List Int) (ta : Option Addr) (tn tc : Nat) (n : Nd) (a : Option Addr) (c : Nat) (ua : Option Addr) (uc : Nat) (ma : Option Addr) (mc : Nat) (o : Op) (oa : Option Addr) (oc : Nat) (b : Int) (w : World) (hg : Good w) (ht : RdS (· < w.heap.size) w t ta tn tc)
    (h1 : RdS (· < w.heap.size) w n.sides a n.sides.length c) (h2 : RdS (· < w.heap.size) w n.undo ua n.undo.length uc) (h3 : RdS (· < w.heap.size) w n.marks ma n.marks.length mc) (hf : n.fits) (ho : RdS (· < w.heap.size) w o oa o.length oc) (hG : NdGood t n) (hB : NdB b n) (hb : b < 1000000) (hE : editE n o = 0) :
    Calls Tryd.prog 16 #[.slice ta tn tc, .agg #[.int .i64 n.me, .int .i64 n.epoch, .int .i64 n.up, .bool n.ready, .string n.text, .slice a n.sides.length c, .slice ua n.undo.length uc, .slice ma n.marks.length mc], .slice oa o.length oc] w (TurnP (editT n o) w) := by
  obtain ⟨e1, e2, e3⟩ := editE_zero hE
  have HBg := Lib.hid (fun W (hW : Below w.heap.size w W) => ndBegin_good t ta tn tc n a c ua uc ma mc W (hg.go hW) (ht.go hW) (h1.go hW) (h2.go hW) (h3.go hW) hf hG (hB.queue hG hb))
  have HEd := Lib.hid (fun base g vs W (hg : Good W) (hM : WkM base g ⟨n, [], []⟩ vs W) (hr : RdS (NM g vs W) W o oa o.length oc) => ndEdit_go (n := n) (u := n.undo) rfl hg hM hr hG hB hb e1 e2 e3)
  have Hnm := Lib.hid (fun base g vs W (hM : WkM base g ⟨n, [], []⟩ vs W) (h1 : w.heap.size ≤ base) (h2 : Below w.heap.size w W) => hM.nm ho h2 h1)
  have Hg := Lib.hid hg
  have hgz := hg.size
  have HNP := Lib.hid (fun g W => node_ptr g W)
  obtain ⟨BK, hBK⟩ : ∃ BK, Hid (BK = invO n.text o) := ⟨_, rfl⟩
  rw [← hBK.out] at HEd
  obtain ⟨i0, hi, hz0, hz1, hz2⟩ := info_parts infoO
  have Hi := Lib.hid hi
  have Hz0 := Lib.hid hz0
  have Hz1 := Lib.hid hz1
  have Hz2 := Lib.hid hz2
  obtain ⟨TT, hTT⟩ : ∃ TT, Hid (TT = editT n o) := ⟨_, rfl⟩
  rw [← hTT.out]
  obtain ⟨TE, hTE⟩ : ∃ TE, Hid (TE = (⟨n, [], []⟩ : Tn).edited o) := ⟨_, rfl⟩
  have hul : TE.node.undo = n.undo := by
    obtain ⟨ss, q1, -⟩ := edited_node n n.undo o
    have q2 := congrArg Nd.undo q1
    rw [hTE.out]
    exact q2
  have hu12 := (undoOk_all hG.undo).2
  have HTT : Hid (TT = TE.setUndo (pushed n.undo BK)) := by
    unfold Hid
    rw [hTT.out, hBK.out, ← hul, hTE.out]
    rfl
  have hel : Hid (∀ base g vs W, WkM base g ⟨n, [], []⟩ vs W → Good W → RdS (NM g vs W) W o oa o.length oc → Calls Tryd.prog 34 #[.pointer (some ⟨g, 0, none⟩), .slice oa o.length oc] W fun e w' => ∃ (ba : Option Addr) (bc : Nat), e = .returned (.tuple #[.slice ba BK.length bc, .int .i64 0]) ∧
      ∃ v2, WkM base g TE v2 w' ∧ Touch (Mine g vs) W w' ∧ (∀ z, Mine g v2 z → Mine g vs z ∨ W.heap.size ≤ z) ∧ RdS (fun z => z < w'.heap.size ∧ W.heap.size ≤ z ∧ ¬ Mine g v2 z) w' BK ba BK.length bc) := by
    unfold Hid
    intro base g vs W hM hg hr
    rw [hTE.out]
    exact HEd.out base g vs W hg hM hr
  have Hul := Lib.hid hul
  have hpush : Hid (pushed n.undo BK = if 12 < n.undo.length + 1 then (n.undo ++ [BK]).drop 1 else n.undo ++ [BK]) := by
    unfold Hid pushed; rw [List.length_append]; rfl
  generalize hUL : n.undo.length = ul at *
  have HUL := Lib.hid hUL
  clear hul hTT hTE hBK HEd hi hz0 hz1 hz2 e1 e2 e3 hE ht h1 h2 h3 hf ho hG hB hb hg hUL
  go_enter Tryd.func16, Tryd.ntmps16
  go_wp2_with fail
  refine abs_run (fun W => Below w.heap.size w W ∧ Blk (w.heap.size + 1) (.cells zeroTn 35 (0, 0)) W) ⟨by (repeat (first | exact Below.refl _ _ | assumption | (refine Below.drew ?_) | (refine below_drewN ?_ _) | (refine Below.alloc ?_ (by first | (simp; done) | (simp; omega) | omega) _) | (refine Below.setCell ?_ (by first | (simp; done) | (simp; omega) | omega) _) | (refine Below.trans ?_ (Below.mono (by assumption) (by first | (simp; done) | (simp; omega) | omega))))), Blk.at _ _ _ (by simp)⟩ ?_
  rintro w1 ⟨b1, x1⟩
  have B1 := Lib.hid b1
  have X1 := Lib.hid x1
  have hx1 := x1.lt
  clear b1 x1
  refine (HBg.out w1 B1.out).mono ?_
  rintro e w2 ⟨g, vs, rfl, m2, b2⟩
  have M2 := Lib.hid m2
  have B2 := Lib.hid (up B1.out b2)
  have X2 := Lib.hid (X1.out.go b2)
  have hz12 := b2.size
  clear m2 b2 HBg X1
  go_wp2_with fail
  refine (hel.out _ _ _ _ M2.out (Hg.out.go B2.out) (Hnm.out _ _ _ _ M2.out (by omega) B2.out)).mono ?_
  rintro e w3 ⟨ba, bc, rfl, v2, m3, t3, h3, r3⟩
  have M3 := Lib.hid m3
  have T3 := Lib.hid (t3.mono fun z _ hz => (M2.out.mine z hz).1)
  have R3 := Lib.hid r3
  have hgb := m3.gb
  have hgl := m3.lt
  have X3 := Lib.hid (X2.out.touch T3.out (by omega))
  have B3 := Lib.hid (B2.out.trans (T3.out.toBelow (B := w.heap.size) (by omega) (fun z hz => by omega)))
  have hzB := B3.out.size
  clear m3 t3 h3 r3 hel M2
  go_wp2_with fail
  refine (HNP.out g w3).mono ?_
  rintro e w3' ⟨rfl, rfl⟩
  obtain ⟨-, -, -, -, -, -, p6, -, -, -⟩ := blk10_cells M3.out.box
  obtain ⟨u1, hv1⟩ : ∃ u1, Hid (u1 = v2 1) := ⟨_, rfl⟩
  have pf := M3.out.box.frozen 6
  rw [← hv1.out] at p6
  have hown1 : OwnO (WX w1.heap.size g v2) w1.heap.size u1 n.undo w3 := by rw [hv1.out, ← Hul.out]; exact M3.out.rows 1 (by omega)
  have HO1 := Lib.hid hown1
  have Hy : Hid (Rep.rd (fun z => z < (w3.alloc (.cells #[.slice ba BK.length bc] 42)).heap.size ∧ ¬ WX w1.heap.size g v2 z ∧ u1.ownBlock ≠ some z) (w3.alloc (.cells #[.slice ba BK.length bc] 42)) BK [.slice ba BK.length bc]) := by
    refine ⟨ba, _, bc, rfl, R3.out.mono fun z hz => ⟨⟨by rw [alloc_sz]; omega, fun hx => ?_, fun e => ?_⟩, ((Below.refl w3.heap.size w3).alloc (Nat.le_refl _) _).block z hz.1⟩⟩
    · rcases hx with hx | hx
      · omega
      · exact hz.2.2 hx
    · rw [hv1.out] at e
      exact hz.2.2 (.inr ⟨1, by omega, e⟩)
  have hbz : w1.heap.size ≤ (w3.alloc (.cells #[.slice ba BK.length bc] 42)).heap.size := by rw [alloc_sz]; omega
  have Hbz := Lib.hid hbz
  clear hown1 hbz
  go_wp2_with (at_builtin; refine wpList_append_oneO rfl _ _ _ (by rfl) w1.heap.size 42 i0 _ 24 Tryd.underlying28 Hi.out Hz0.out Hz1.out Hz2.out rfl u1 n.undo (by rfl) (HO1.out.go ((Below.refl _ w3).alloc (Nat.le_refl _) _)) w3.heap.size 1 _ [.slice ba BK.length bc] BK (by rfl) (Blk.new w3 _) Hy.out (by rw [HUL.out]; unfold maxLen; omega) (by rw [HUL.out]; omega) Hbz.out ?_)
  intro g2 o2 cap w5 hown hgrow hat hlt5
  have M4 := Lib.hid (M3.out.go ((Below.refl _ w3).alloc (Nat.le_refl _) (.cells #[.slice ba BK.length bc] 42)))
  have hsu := WkG.setUndo (v' := .slice (some ⟨g2, o2, none⟩) (n.undo.length + 1) cap) M4.out (by rw [← hv1.out]; exact hgrow) (fun k hk => by
    have e : g2 = k := by simpa [Value.ownBlock] using hk
    subst e
    rw [← hv1.out, alloc_sz]; exact hat) hown
  obtain ⟨k1, k2, k3⟩ := hsu
  have K1 := Lib.hid k1
  have K2 : Hid (Touch (fun z => w1.heap.size ≤ z) w2 (w5.setCell ⟨g, 6, none⟩ (.slice (some ⟨g2, o2, none⟩) (n.undo.length + 1) cap))) :=
    (T3.out.alloc _).trans (k2.mono fun z _ hz => (M4.out.mine z hz).1)
  have HOw := Lib.hid (hown.go (Below.refl _ _))
  rw [HUL.out] at K1 K2 HOw
  have hM5 := (M4.out.box.grown hgrow (fun e => M4.out.ne 1 (by omega) g (by rw [← hv1.out]; exact e.symm) rfl))
  obtain ⟨-, -, -, -, -, -, p6', -, -, -⟩ := blk10_cells hM5
  have pf5 := hM5.frozen 6
  have hgl5 := hM5.lt
  rw [HUL.out]
  clear hown hgrow hat hM5 k1 k2 k3 p6 Hy HO1 pf hv1 T3 R3
  go_upto_region 9 with fail
  generalize hW6 : w5.setCell ⟨g, 6, none⟩ (.slice (some ⟨g2, o2, none⟩) (ul + 1) cap) = w6 at *
  obtain ⟨-, -, -, -, -, -, p6, -, -, -⟩ := blk10_cells K1.out.box
  have pf6 := K1.out.box.frozen 6
  have hgl6 := K1.out.lt
  simp only [if_true] at p6
  clear p6' pf5 hgl5 hlt5
  by_cases h12 : 12 < ul + 1
  · have h12' : (12 : Int) < (ul : Int) + 1 := by omega
    have hcap : ul + 1 ≤ cap ∧ cap ≤ maxLen := by
      rcases HOw.out.row with ⟨a', hv, -⟩ | ⟨r, q, cp, hv, -, -, z3, z4, -⟩
      · cases hv
      · injection hv with e1 e2 e3
        subst e3
        rw [List.length_append, HUL.out] at z3
        exact ⟨z3, z4⟩
    have hcap1 : (ul : Int) + 1 ≤ (cap : Int) := by omega
    have hcap2 : (cap : Int) ≤ 9223372036854775807 := by have := hcap.2; unfold maxLen at this; omega
    have hd := HOw.out.drop_in (k := 1) (by omega) (by omega)
    have e6 : o2 + 1 * Rep.n Op = o2 + 1 := by show o2 + 1 * 1 = o2 + 1; omega
    rw [e6, Nat.add_sub_cancel] at hd
    have hK1 := K1.out
    have hd6 : OwnO (WX w1.heap.size g fun q => if q = 1 then .slice (some ⟨g2, o2, none⟩) (ul + 1) cap else v2 q) w1.heap.size (.slice (some ⟨g2, o2 + 1, none⟩) ul (cap - 1)) ((n.undo ++ [BK]).drop 1) w6 := by
      have hr := hK1.rows 1 (by omega)
      have hr' : OwnO (WX w1.heap.size g fun q => if q = 1 then .slice (some ⟨g2, o2, none⟩) (ul + 1) cap else v2 q) w1.heap.size (.slice (some ⟨g2, o2, none⟩) (ul + 1) cap) (n.undo ++ [BK]) w6 := hr
      have := hr'.drop_in (k := 1) (by omega) (by omega)
      rwa [e6, Nat.add_sub_cancel] at this
    obtain ⟨k1, k2, k3⟩ := WkG.setUndo (v' := .slice (some ⟨g2, o2 + 1, none⟩) ul (cap - 1)) hK1 (World.grownBy.refl _ _) (fun k hk => by
      have e : g2 = k := by simpa [Value.ownBlock] using hk
      subst e
      exact .inl rfl) hd6
    have eT : (TE.setUndo (n.undo ++ [BK])).setUndo ((n.undo ++ [BK]).drop 1) = TT := by
      rw [HTT.out, hpush.out, if_pos h12]
      rfl
    rw [eT] at k1
    have M9 := Lib.hid k1
    have T9 := Lib.hid (K2.out.trans (k2.mono fun z _ hz => (hK1.mine z hz).1))
    clear k1 k2 k3 hK1 hd hd6 HOw hW6 K1 K2
    go_upto_region 11 with fail
    have X9 := X2.out.touch T9.out (by omega)
    obtain ⟨a0, c0, a1, c1, a2, c2, a3, c3, a4, c4, e1, e2, e3, e4⟩ := turn_out M9.out X9 (by omega) (B := w.heap.size) (by omega) (B2.out.trans (T9.out.toBelow (B := w.heap.size) (by omega) (fun z hz => by omega)))
    obtain ⟨p0, p1, p2, p3, p4, p5, p6, p7, p8, p9⟩ := blk10_cells X9
    have pf := X9.frozen
    have hz := X9.lt
    obtain ⟨q0, q1, q2, q3, q4, q5, q6, q7, q8, q9⟩ := blk10_cells e1
    have G := Lib.hid (And.intro e2 (And.intro e3 e4))
    clear e1 e2 e3 e4 X9
    go_wp2_with fail
    refine abs_ret (fun W => Blk (w.heap.size + 1) (.cells #[.int .i64 TT.node.me, .int .i64 TT.node.epoch, .int .i64 TT.node.up, .bool TT.node.ready, .string TT.node.text, .slice a0 TT.node.sides.length c0, .slice a1 TT.node.undo.length c1, .slice a2 TT.node.marks.length c2, .slice a3 TT.posts.length c3, .slice a4 TT.recs.length c4] 35 (0, 0)) W ∧ TnVal (Fresh w.heap.size W) TT (.agg #[.int .i64 TT.node.me, .int .i64 TT.node.epoch, .int .i64 TT.node.up, .bool TT.node.ready, .string TT.node.text, .slice a0 TT.node.sides.length c0, .slice a1 TT.node.undo.length c1, .slice a2 TT.node.marks.length c2, .slice a3 TT.posts.length c3, .slice a4 TT.recs.length c4]) W ∧ Below w.heap.size w W) G.out ?_
    rintro W ⟨y1, y2, y3⟩
    obtain ⟨k0, k1, k2, k3, k4, k5, k6, k7, k8, k9⟩ := blk10_cells y1
    exact bodyPost_ret (v := .tuple #[.agg #[.int .i64 TT.node.me, .int .i64 TT.node.epoch, .int .i64 TT.node.up, .bool TT.node.ready, .string TT.node.text, .slice a0 TT.node.sides.length c0, .slice a1 TT.node.undo.length c1, .slice a2 TT.node.marks.length c2, .slice a3 TT.posts.length c3, .slice a4 TT.recs.length c4], .int .i64 0]) (by simp [results, Tryd.results16, go_sem, k0, k1, k2, k3, k4, k5, k6, k7, k8, k9]) rfl ⟨_, rfl, y2, y3⟩
  · have h12' : ¬ ((12 : Int) < (ul : Int) + 1) := by omega
    have eT : TE.setUndo (n.undo ++ [BK]) = TT := by rw [HTT.out, hpush.out, if_neg h12]
    rw [eT] at K1
    have M9 := K1
    have T9 := K2
    clear HOw hW6 K1
    go_upto_region 11 with fail
    clear p6 pf6
    have X9 := X2.out.touch T9.out (by omega)
    obtain ⟨a0, c0, a1, c1, a2, c2, a3, c3, a4, c4, e1, e2, e3, e4⟩ := turn_out M9.out X9 (by omega) (B := w.heap.size) (by omega) (B2.out.trans (T9.out.toBelow (B := w.heap.size) (by omega) (fun z hz => by omega)))
    obtain ⟨p0, p1, p2, p3, p4, p5, p6, p7, p8, p9⟩ := blk10_cells X9
    have pf := X9.frozen
    have hz := X9.lt
    obtain ⟨q0, q1, q2, q3, q4, q5, q6, q7, q8, q9⟩ := blk10_cells e1
    have G := Lib.hid (And.intro e2 (And.intro e3 e4))
    clear e1 e2 e3 e4 X9
    go_wp2_with fail
    refine abs_ret (fun W => Blk (w.heap.size + 1) (.cells #[.int .i64 TT.node.me, .int .i64 TT.node.epoch, .int .i64 TT.node.up, .bool TT.node.ready, .string TT.node.text, .slice a0 TT.node.sides.length c0, .slice a1 TT.node.undo.length c1, .slice a2 TT.node.marks.length c2, .slice a3 TT.posts.length c3, .slice a4 TT.recs.length c4] 35 (0, 0)) W ∧ TnVal (Fresh w.heap.size W) TT (.agg #[.int .i64 TT.node.me, .int .i64 TT.node.epoch, .int .i64 TT.node.up, .bool TT.node.ready, .string TT.node.text, .slice a0 TT.node.sides.length c0, .slice a1 TT.node.undo.length c1, .slice a2 TT.node.marks.length c2, .slice a3 TT.posts.length c3, .slice a4 TT.recs.length c4]) W ∧ Below w.heap.size w W) G.out ?_
    rintro W ⟨y1, y2, y3⟩
    obtain ⟨k0, k1, k2, k3, k4, k5, k6, k7, k8, k9⟩ := blk10_cells y1
    exact bodyPost_ret (v := .tuple #[.agg #[.int .i64 TT.node.me, .int .i64 TT.node.epoch, .int .i64 TT.node.up, .bool TT.node.ready, .string TT.node.text, .slice a0 TT.node.sides.length c0, .slice a1 TT.node.undo.length c1, .slice a2 TT.node.marks.length c2, .slice a3 TT.posts.length c3, .slice a4 TT.recs.length c4], .int .i64 0]) (by simp [results, Tryd.results16, go_sem, k0, k1, k2, k3, k4, k5, k6, k7, k8, k9]) rfl ⟨_, rfl, y2, y3⟩
theorem ndEdit_any (t : List Int) (ta : Option Addr) (tn tc : Nat) (n : Nd) (a : Option Addr) (c : Nat) (ua : Option Addr) (uc : Nat) (ma : Option Addr) (mc : Nat) (o : Op) (oa : Option Addr) (oc : Nat) (b : Int) (w : World) (hg : Good w) (ht : RdS (· < w.heap.size) w t ta tn tc)
    (h1 : RdS (· < w.heap.size) w n.sides a n.sides.length c) (h2 : RdS (· < w.heap.size) w n.undo ua n.undo.length uc) (h3 : RdS (· < w.heap.size) w n.marks ma n.marks.length mc) (hf : n.fits) (ho : RdS (· < w.heap.size) w o oa o.length oc) (hG : NdGood t n) (hB : NdB b n) (hb : b < 1000000) :
    Calls Tryd.prog 16 #[.slice ta tn tc, .agg #[.int .i64 n.me, .int .i64 n.epoch, .int .i64 n.up, .bool n.ready, .string n.text, .slice a n.sides.length c, .slice ua n.undo.length uc, .slice ma n.marks.length mc], .slice oa o.length oc] w (TurnE (editE n o) (editT n o) w) := by
  by_cases hE : editE n o = 0
  · exact (edit_ok t ta tn tc n a c ua uc ma mc o oa oc b w hg ht h1 h2 h3 hf ho hG hB hb hE).mono fun e w' h => by
      unfold TurnE; rw [if_pos hE]; exact h
  · exact edit_bad t ta tn tc n a c ua uc ma mc o oa oc b w hg ht h1 h2 h3 hf ho hG hB hb hE
end Go.Proofs.YtkbfhgcjimfgkaaDoor
set_option linter.unusedSimpArgs false
namespace Go.Proofs.YtkbfhgcjimfgkaaDoor
open Go.RowKit
theorem OwnO.single {α : Type} [Rep α] {X : Nat → Prop} {base b T : Nat} {ys : List Value} {y : α} {W : World} (hb : Blk b (.cells ys.toArray T (0, 0)) W) (hy : Rep.rd (fun z => z < W.heap.size ∧ ¬ X z ∧ z ≠ b) W y ys) (h1 : base ≤ b) : OwnO X base (.slice (some ⟨b, 0, none⟩) 1 1) [y] W := by
  have hl := Rep.len hy
  refine ⟨.inr ⟨b, 0, 1, rfl, h1, hb.lt, by simp, by unfold maxLen; omega, fun j hj => ⟨?_, hb.frozen _⟩, fun i x hi => ?_⟩⟩
  · rw [hb.cell, List.getElem?_toArray, Nat.zero_add, List.getElem?_eq_getElem (by omega)]; rfl
  · have hi0 : i = 0 := by
      have := (List.getElem?_eq_some_iff.1 hi).1
      simpa using this
    subst hi0
    have e : y = x := by simpa using hi
    subst e
    refine ⟨ys, hy, fun j u hu => ?_⟩
    rw [hb.cell, List.getElem?_toArray]
    have e1 : 0 + 0 * Rep.n α + j = j := by omega
    rw [e1]; exact hu
end Go.Proofs.YtkbfhgcjimfgkaaDoor
set_option linter.unusedSimpArgs false
namespace Go.Proofs.YtkbfhgcjimfgkaaDoor
open Go.RowKit
theorem infoU8 : (Tryd.prog.info? 5).map (fun i => (i.zero, i.size, i.bytes)) = some (some (.int .u8 0), 1, 1) := by kernel_rfl
theorem rep_set' {α : Type} (n j : Nat) (c z : α) (h : j < n) : (List.replicate j c ++ List.replicate (n - j) z).set j c = List.replicate (j + 1) c ++ List.replicate (n - (j + 1)) z := by
  rw [List.set_append_right _ _ (by simp)]
  obtain ⟨m, hm⟩ : ∃ m, n - j = m + 1 := ⟨n - j - 1, by omega⟩
  have h2 : n - (j + 1) = m := by omega
  rw [hm, h2, List.replicate_succ (n := m), List.length_replicate, Nat.sub_self, List.set_cons_zero, List.replicate_succ' (n := j)]
  simp
/-- a tree of one node, in its block -/
theorem lone_tree {b T : Nat} {W : World} (h : Blk b (.cells #[.int .i64 (-1)] T (0, 0)) W) : RdS (· < W.heap.size) W ([-1] : List Int) (some ⟨b, 0, none⟩) 1 1 := by
  have hy : Rep.rd (fun z => z < W.heap.size ∧ ¬ False ∧ z ≠ b) W (-1 : Int) [.int .i64 (-1)] := ⟨rfl, by unfold I64; omega⟩
  obtain ⟨a, c, e, hr⟩ := (OwnO.single (α := Int) (X := fun _ => False) (base := 0) (ys := [.int .i64 (-1)]) (y := (-1 : Int)) h hy (Nat.zero_le _)).rd (A := (· < W.heap.size)) (fun b hb _ => hb) (fun k hk => by
    have e : b = k := by simpa [Value.ownBlock] using hk
    subst e
    exact h.lt)
  injection e with e1 e2 e3
  subst e1 e3
  exact hr
theorem parts_two {b T : Nat} {W : World} {x y : Int} (h : Blk b (.cells #[.int .i64 1, .int .i64 x, .string noText, .int .i64 3, .int .i64 y, .string noText] T (0, 0)) W) (hx : I64 x) (hy : I64 y) : RdS (· < W.heap.size) W ([⟨1, x, noText⟩, ⟨3, y, noText⟩] : Op) (some ⟨b, 0, none⟩) 2 2 := by
  refine ⟨rfl, Nat.le_refl _, by unfold maxLen; omega, (fun h => by cases h), fun _ => ⟨b, 0, rfl, h.lt, h.lt, fun i p hi => ?_⟩⟩
  have hn : (noText : Str).size ≤ strMax := by rw [noText_size]; unfold strMax; omega
  match i, hi with
  | 0, hi =>
    have e : (⟨1, x, noText⟩ : Part) = p := by simpa using hi
    subst e
    refine ⟨partCells ⟨1, x, noText⟩, ⟨rfl, (by show I64 1; unfold I64; omega), hx, hn⟩, fun j u hu => ?_⟩
    match j, hu with
    | 0, hu => exact (h.cell 0).trans hu
    | 1, hu => exact (h.cell 1).trans hu
    | 2, hu => exact (h.cell 2).trans hu
    | j + 3, hu => cases hu
  | 1, hi =>
    have e : (⟨3, y, noText⟩ : Part) = p := by simpa using hi
    subst e
    refine ⟨partCells ⟨3, y, noText⟩, ⟨rfl, (by show I64 3; unfold I64; omega), hy, hn⟩, fun j u hu => ?_⟩
    match j, hu with
    | 0, hu => exact (h.cell 3).trans hu
    | 1, hu => exact (h.cell 4).trans hu
    | 2, hu => exact (h.cell 5).trans hu
    | j + 3, hu => cases hu
  | i + 2, hi => cases hi
set_option maxRecDepth 100000 in
set_option maxHeartbeats 8000000 in
theorem editFull_walk (w : World) (hg : Good w) (x : Int) (hx : I64 x) (y : Int) (hy : I64 y) (take : Bool) :
    Calls Tryd.prog 5 #[.int .i64 x, .int .i64 y, .bool take] w fun e w' => e = .returned (.bool true) ∧ Below w.heap.size w w' := by
  obtain ⟨i0, hi, hz0, hz1, hz2⟩ := info_parts infoU8
  have Hp := Lib.hid (fun W => picked_any x 10 W hx (by omega) (by omega))
  have Hq := Lib.hid (fun W => picked_any y 9 W hy (by omega) (by omega))
  have r := pk_range x 10 (by omega)
  have r' := pk_range y 9 (by omega)
  clear hx hy
  generalize pk x 10 = qq at *
  generalize pk y 9 = mm at *
  obtain ⟨q, rfl⟩ := Int.eq_ofNat_of_zero_le r.1
  obtain ⟨m', rfl⟩ := Int.eq_ofNat_of_zero_le r'.1
  have hq : q < 10 := by omega
  have hm' : m' < 9 := by omega
  clear r r'
  have Hg := Lib.hid hg
  have hg2 := hg.size
  clear hg
  go_enter Tryd.func5, Tryd.ntmps5
  go_wp2_with fail
  refine abs_run (fun W => Below w.heap.size w W ∧ Blk w.heap.size (.cells #[.int .i64 (-1)] 3 (0, 0)) W) ⟨(Below.refl _ _).alloc (Nat.le_refl _) _, Blk.new w _⟩ ?_
  rintro w0 ⟨b0, x0⟩
  have B0 := Lib.hid b0
  have X0 := Lib.hid x0
  have hx0 := x0.lt
  clear b0 x0
  refine (Hp.out _).mono ?_
  rintro e w1 ⟨rfl, rfl⟩
  go_wp2_with (at_make; refine wpList_make_full _ rfl _ _ 50 rfl w0.heap.size 5 i0 (.int .u8 0) 1 Tryd.underlying50 hi hz0 hz1 _ _ _ _ (295 + q) rfl rfl (by omega) (by omega) ?b2 ?b3 ?b4 ?_)
  case b2 => rw [hz2]; omega
  case b3 => unfold maxLen; omega
  case b4 => exact Nat.le_refl _
  intro w1 hown hgrow
  have hb1 : Below w0.heap.size w0 w1 := (Below.refl _ _).grown hgrow (Nat.le_refl _) (fun g hg => by cases hg)
  have hown0 : w1.ownsRow w0.heap.size 5 1 (.slice (some ⟨w0.heap.size, 0, none⟩) (295 + q) (295 + q)) (295 + q) (List.replicate 0 (.int .u8 97) ++ List.replicate (295 + q - 0) (.int .u8 0)) := by
    rw [toList_madeCells_one] at hown
    simpa using hown
  clear hown hgrow hi hz0 hz1 hz2 i0 Hp
  generalize hn : 295 + q = n at *
  have hnq : 295 + (q : Int) = (n : Int) := by omega
  rw [hnq]
  obtain ⟨g, hgd⟩ : ∃ g, g = w0.heap.size := ⟨_, rfl⟩
  have hge : w0.heap.size ≤ g := by omega
  rw [← hgd] at hown0
  rw [← hgd]
  have Hgd := Lib.hid hgd
  clear hgd
  go_wp2_with fail
  go_loopw [25] (fun i wr => ∃ k : Nat, k ≤ n ∧ i = .int .i64 k ∧ wr.ownsRow w0.heap.size 5 1 (.slice (some ⟨g, 0, none⟩) n n) n (List.replicate k (.int .u8 97) ++ List.replicate (n - k) (.int .u8 0)) ∧ Below w0.heap.size w0 wr) (fun i _ => n - (intOf i).toNat)
  case atStart => exact ⟨0, by omega, rfl, by rw [← Hgd.out]; exact hown0, hb1⟩
  case round =>
    obtain ⟨k, hk, rfl, hown, hb⟩ := hrel
    by_cases hlt : k < n
    · have hcell : wr.cell? ⟨g, k, none⟩ = some (.int .u8 0) := by
        rw [hown.cellAt k (by omega)]
        rw [List.getElem?_append_right (by simp), List.length_replicate, Nat.sub_self, List.getElem?_replicate, if_pos (by omega)]
      have hfz : wr.frozen? ⟨g, k, none⟩ = false := hown.frozenAt k
      have hst := (hown.stored k (.int .u8 97)).1
      have hset := rep_set' n k (Value.int .u8 97) (.int .u8 0) hlt
      have Hst := Lib.hid hst
      have Hset := Lib.hid hset
      have Hb := Lib.hid hb
      have hz := hb.size
      clear hst hset hown hb
      go_wp2_with fail
      go_roundw
      case rel => exact ⟨k + 1, by omega, by go_num, by have h := Hst.out; rw [Hset.out] at h; exact h, Hb.out.setCell (p := ⟨g, k, none⟩) hge _⟩
      case measure => simp [intOf]; omega
    · have hkn : k = n := by omega
      subst hkn
      have hA : AllA g k wr := by
        refine ⟨(hown.lt g rfl).2, fun i hi => ?_⟩
        rw [hown.cellAt i (by omega), List.getElem?_append_left (by simpa using hi), List.getElem?_replicate, if_pos hi]
      have HA := Lib.hid hA
      have hcv := hA.conv (c := k) (Nat.le_refl k)
      have B1 := Lib.hid (B0.out.trans (hb.mono (by omega)))
      have XT := Lib.hid (lone_tree (X0.out.touch (Touch.of_below (S := fun _ => False) (hb.mono (Nat.le_refl _))) (fun h => h)))
      have hlt' : ¬ ((k : Int) < (k : Int)) := by omega
      obtain ⟨s1, s2, s3⟩ := as_laws k (by omega)
      obtain ⟨hGood, hNB⟩ := lone_good s1
      have HBo := Lib.hid (fun W (hW : Good W) (hR : RdS (· < W.heap.size) W ([-1] : List Int) (some ⟨w.heap.size, 0, none⟩) 1 1) => begin_ok [-1] _ 1 1 0 1 (asT k) W hW hR (by unfold I64; omega) (by unfold strMax; omega) (lone_beginE s1))
      rw [lone_begin] at HBo
      have hcv2 : ∀ W m c, Below wr.heap.size wr W → m ≤ k → (convert 50 9 (.slice (some ⟨g, 0, none⟩) m c)).run Tryd.prog W = .ok (.string (asT m)) W := fun W m c hW hm => (HA.out.go hW).conv hm
      have Hcv2 := Lib.hid hcv2
      have hLaw := full_law k (1 + m') take (by omega) (by omega) (by omega) (by omega)
      have hO := fullO_laws k (1 + m') take (by omega) (by omega) (by omega) (by omega)
      have HLaw := Lib.hid hLaw
      have HO := Lib.hid hO
      have HGd := Lib.hid (And.intro hGood hNB)
      have Hs := Lib.hid (And.intro s1 (And.intro s2 s3))
      have Hkq := Lib.hid (show 295 ≤ k ∧ k ≤ 304 by omega)
      have hk304 : (k : Int) ≤ 304 := by omega
      have hk295 : 295 ≤ (k : Int) := by omega
      clear hown hb hA hcv2 hLaw hO hGood hNB s1 s2 s3 hn hq Hgd hk hlt
      go_wp2_with fail
      refine (HBo.out wr (Hg.out.go B1.out) XT.out).mono ?_
      rintro e w2 ⟨v, rfl, hv, b2⟩
      obtain ⟨a0, c0, a1, c1, a2, c2, a3, c3, a4, c4, rfl, hf, r0, r1, r2, r3, r5⟩ := hv.open
      have hlt : ∀ z, Fresh wr.heap.size w2 z → z < w2.heap.size ∧ w2.heap[z]? = w2.heap[z]? := fun z hz => ⟨hz.2, rfl⟩
      have HR2 := Lib.hid (And.intro (r0.mono hlt) (And.intro (r1.mono hlt) (r2.mono hlt)))
      have Hf := Lib.hid hf
      have B2 := Lib.hid (up B1.out b2)
      have B12 := Lib.hid b2
      have XT2 := Lib.hid (XT.out.go b2)
      clear b2 hv r0 r1 r2 r3 r5 hf hlt HBo hcv
      go_wp2_with fail
      refine abs_run (fun W => Below w2.heap.size w2 W ∧ Blk w2.heap.size (.cells #[.int .i64 0, .int .i64 4096, .int .i64 0, .bool true, .string (asT k), .slice a0 0 c0, .slice a1 0 c1, .slice a2 0 c2, .slice a3 0 c3, .slice a4 0 c4] 35 (0, 0)) W) ⟨(Below.refl _ _).alloc (Nat.le_refl _) _, Blk.new w2 _⟩ ?_
      rintro w3 ⟨b3, x3⟩
      have B3 := Lib.hid (up B2.out b3)
      have B13 := Lib.hid (up B12.out b3)
      have X3 := Lib.hid x3
      have HR3 := Lib.hid (And.intro (HR2.out.1.go b3) (And.intro (HR2.out.2.1.go b3) (HR2.out.2.2.go b3)))
      have XT3 := Lib.hid (XT2.out.go b3)
      clear b3 x3 HR2 XT2 B2 B12
      refine (Hq.out _).mono ?_
      rintro e w4 ⟨rfl, rfl⟩
      clear Hq
      have hcm := Hcv2.out w3 (1 + m') k B13.out (by have := Hkq.out; omega)
      have HHr := Lib.hid (fun W => here_any k k (List.replicate (1 + m') 97) W (as_vr _) (Nat.le_refl _) (by have := Hkq.out; omega) (by rw [List.length_replicate]; omega))
      have hHr : ∀ W, Calls Tryd.prog 15 #[.int .i64 (k : Int), .int .i64 (k : Int), .string (asT (1 + m'))] W fun e w' => ∃ a c, e = .returned (.slice a (hereO k k (List.replicate (1 + m') 97)).length c) ∧
          RdS (fun z => W.heap.size ≤ z ∧ z < w'.heap.size) w' (hereO k k (List.replicate (1 + m') 97)) a (hereO k k (List.replicate (1 + m') 97)).length c ∧ Below W.heap.size W w' := HHr.out
      clear HHr
      have HHr := Lib.hid hHr
      have hmk : (1 + (m' : Int)) ≤ (k : Int) := by omega
      clear hHr
      go_wp2_with fail
      refine (HHr.out _).mono ?_
      rintro e w5 ⟨ha, hc, rfl, hr5, b5⟩
      have B5 := Lib.hid b5
      have HR5 := Lib.hid (hr5.mono fun z hz => (⟨hz.2, rfl⟩ : z < w5.heap.size ∧ w5.heap[z]? = w5.heap[z]?))
      clear hr5 b5 hcm HHr
      go_upto_if 49 with fail
      go_cut [14] from 50 to 56 (fun s14 W => ∃ oa oc, s14 = .slice oa (fullO k (1 + m') take).length oc ∧ Below w3.heap.size w3 W ∧ RdS (· < W.heap.size) W (fullO k (1 + m') take) oa (fullO k (1 + m') take).length oc)
      case first =>
        cases take with
        | false =>
          go_wp2_with fail
          go_meet
          case rel => exact ⟨_, _, rfl, B5.out, HR5.out⟩
        | true =>
          have hkm1 : -9223372036854775808 ≤ (k : Int) - (1 + (m' : Int)) := by omega
          have hkm2 : (k : Int) - (1 + (m' : Int)) ≤ 9223372036854775807 := by omega
          go_wp2_with fail
          go_meet
          case rel =>
            refine ⟨some ⟨w5.heap.size, 0, none⟩, 2, rfl, B5.out.trans ?_, ?_⟩
            · exact (Below.refl _ _).alloc B5.out.size _
            · exact parts_two (Blk.new w5 _) (by unfold I64; omega) (by unfold I64; omega)
      case rest =>
        obtain ⟨oa, oc, rfl, b6, r6⟩ := hcut
        have hne := HGd.out.1
        have B6 := Lib.hid (up B3.out b6)
        have X6 := Lib.hid (X3.out.go b6)
        have HR6 := Lib.hid (And.intro (HR3.out.1.go b6) (And.intro (HR3.out.2.1.go b6) (HR3.out.2.2.go b6)))
        have XT6 := Lib.hid (XT3.out.go b6)
        have hx6 := X6.out.lt
        obtain ⟨p0, p1, p2, p3, p4, p5, p6, p7, p8, p9⟩ := blk10_cells X6.out
        have HE := Lib.hid (ndEdit_any [-1] _ 1 1 (lone (asT k)) a0 c0 a1 c1 a2 c2 (fullO k (1 + m') take) oa oc 0 wc (Hg.out.go B6.out) XT6.out HR6.out.1 HR6.out.2.1 HR6.out.2.2 Hf.out r6 HGd.out.1 HGd.out.2 (by omega))
        clear b6 r6 hne B3 X3 HR3 XT3 HR5 B5
        go_wp2_with fail
        refine HE.out.mono ?_
        rintro e w7 h7
        have HL := HLaw.out
        unfold TurnE at h7
        rw [HL] at h7
        by_cases hle : take = true ∨ k + (1 + m') ≤ 300
        · rw [if_pos hle] at h7
          simp only [if_true] at h7
          obtain ⟨v, rfl, hv, b7⟩ := h7
          obtain ⟨d0, f0, d1, f1, d2, f2, d3, f3, d4, f4, rfl, -, -, -, -, -, -⟩ := hv.open
          have B7 := Lib.hid (up B6.out b7)
          clear hv b7 HE HL HLaw X6 HR6 XT6 HO HGd Hs Hg
          have hz7 := B7.out.size
          cases take with
          | true =>
            go_wp2_with fail
            go_ret
            exact ⟨rfl, B7.out.alloc hz7 _⟩
          | false =>
            have hle' : (k : Int) + (1 + (m' : Int)) ≤ 300 := by simp at hle; omega
            go_wp2_with fail
            go_ret
            exact ⟨rfl, B7.out.alloc hz7 _⟩
        · rw [if_neg hle] at h7
          simp only [show ¬ ((8 : Int) = 0) by decide, if_false] at h7
          obtain ⟨rfl, b7⟩ := h7
          have B7 := Lib.hid (up B6.out b7)
          have hz7 := B7.out.size
          clear b7 HE HL HLaw X6 HR6 XT6 HO HGd Hs Hg
          cases take with
          | true => exact absurd (.inl rfl) hle
          | false =>
            have hle' : ¬ ((k : Int) + (1 + (m' : Int)) ≤ 300) := by simp at hle; omega
            go_wp2_with fail
            go_ret
            exact ⟨rfl, B7.out.alloc hz7 _⟩
end Go.Proofs.YtkbfhgcjimfgkaaDoor
set_option maxRecDepth 100000
namespace Go.Proofs.YtkbfhgcjimfgkaaDoor
open Go.RowKit Go.ChangeShapes Go.WideShapes Go.ChangeAt
open Go.ChangeMaps (open_string)
theorem laidOut : laidOutB Tryd.prog = true := by kernel_rfl
theorem own : ownKnob Tryd.prog.godebug = none := by kernel_rfl
section
variable {H : Type} {enc : TypeId × Value → H} {W W' : World}
theorem all_below : ∀ {ts : List TypeId} {vs : List Value} {ds : List (DataW H)} {ps : List MemPlace}, (∀ t ∈ ts, Tryd.prog.readableRec t = true ∧ t < Tryd.prog.types.size) →
    DataW.TrodAll enc Tryd.prog W 0 (fun _ => true) true ts vs ds ps → (∀ x ∈ ps, x.block < W.heap.size) → Below W.heap.size W W' →
    DataW.TrodAll enc Tryd.prog W' 0 (fun b => decide (b < W.heap.size)) true ts vs ds ps
  | [], vs, ds, ps, _, h, _, _ => by
    obtain ⟨rfl, rfl, rfl⟩ := trodAll_nil h
    exact rfl
  | t :: ts, vs, ds, ps, hr, h, hp, hb => by
    obtain ⟨v, vs', d, ds', p, q, rfl, rfl, rfl, h1, h2⟩ := trodAll_cons h
    refine ⟨p, q, ?_, all_below (fun t ht => hr t (by simp [ht])) h2 (fun x hx => hp x (by simp [hx])) hb, rfl⟩
    exact Below.trod laidOut (hr t (by simp)).1 (hr t (by simp)).2 h1 hb (fun x hx => hp x (by simp [hx]))
/-- A law that returned true and left what was there as it was. -/
theorem law_post {f : Func} {s : ChangeSpec} {args : Array Value} {ds gs : List (DataW H)} {before : List MemPlace} (hr : ∀ t ∈ f.params.toList, Tryd.prog.readableRec t = true ∧ t < Tryd.prog.types.size)
    (hv : s.vars = []) (hrt : f.resultTypes = #[4]) (hs : ∀ xs, xs = ds → (s.fn H xs).results = [.lit (.bool true)] ∧ (s.fn H xs).args = xs ∧ (s.fn H xs).vars = [])
    (hW : DataW.Whole enc Tryd.prog f.params.toList s.vars false W args.toList ds gs before) (hb : Below W.heap.size W W') :
    s.post enc Tryd.prog f false true false false W args (.bool true) W' := by
  have hlt : ∀ p ∈ before, p.block < W.heap.size := fun p hp => hW.lt p hp
  have hW' := hW
  obtain ⟨p, q, hA, hV, rfl, hz, hn⟩ := hW
  rw [hv] at hV
  obtain ⟨rfl, rfl⟩ := trodVars_none hV
  obtain ⟨e1, e2, e3⟩ := hs (ds ++ []) (by simp)
  refine ⟨ds, [], _, [], p, [], hW', ?_, ?_, ?_, hb.frame _, fun h => by cases h⟩
  · rw [hrt, e1]
    exact ⟨[], [], shut_bool Tryd.underlying4 true, rfl, rfl⟩
  · rw [e2, List.append_nil]
    exact all_below hr hA (fun x hx => hlt x (by simp [hx])) hb
  · rw [hv, e3]
    exact rfl
theorem arg_int {v : Value} {d : DataW H} {p : List MemPlace} (hv : Value.okWide Tryd.prog W .any 0 3 v) (h : DataW.Trod enc Tryd.prog W 0 (fun _ => true) true 3 v d p) : ∃ x, v = .int .i64 x ∧ I64 x := by
  obtain ⟨x, rfl, _, _, wx⟩ := open_int Tryd.underlying3 hv h
  refine ⟨x, rfl, ?_⟩
  simpa [I64, Lit.wf, IntKind.min, IntKind.max, IntKind.bits, IntKind.signed] using wx
end
end Go.Proofs.YtkbfhgcjimfgkaaDoor
set_option maxRecDepth 100000
namespace Go.Proofs.YtkbfhgcjimfgkaaDoor
open Go.RowKit Go.ChangeShapes Go.WideShapes Go.ChangeAt Go.Deep Go.Joins
open Go.ChangeMaps (open_string)
section
variable {H : Type} {enc : TypeId × Value → H} {P : Program} {w : World} {base : Nat} {spare : Nat → Bool} {held : Bool}
end
section
variable {H : Type} {enc : TypeId × Value → H} {P : Program} {w : World} {base : Nat} {spare : Nat → Bool} {held : Bool}
end
section
variable {H : Type} {enc : TypeId × Value → H} {W W' : World}
theorem arg_bool {v : Value} {d : DataW H} {p : List MemPlace} (hv : Value.okWide Tryd.prog W .any 0 4 v) (h : DataW.Trod enc Tryd.prog W 0 (fun _ => true) true 4 v d p) : ∃ x : Bool, v = .bool x := by
  obtain ⟨x, rfl, _⟩ := open_bool Tryd.underlying4 hv h
  exact ⟨x, rfl⟩
end
theorem accept_eq : (Rows.laid_unicode_utf8_acceptRanges : DataW Unit) = Lib.acceptData := by kernel_rfl
theorem first_eq : Rows.laid_unicode_utf8_first = Lib.firstData := Pinned.utf8First_eq
theorem good_of {W : World} (hL : laidMetH Tryd.prog [("unicode/utf8.acceptRanges", Rows.laid_unicode_utf8_acceptRanges), ("unicode/utf8.first", Rows.laid_unicode_utf8_first)] W) : Good W := by
  have hL2 : laidMet Tryd.prog [("unicode/utf8.acceptRanges", Rows.laid_unicode_utf8_acceptRanges), ("unicode/utf8.first", Rows.laid_unicode_utf8_first)] W := hL
  rw [accept_eq, first_eq] at hL2
  have htab : Lib.Utf8Tabs (Tryd.lays196_ren.g 3) (Tryd.lays196_ren.g 4) W :=
    utf8Tabs_of_readsT (U8Types.of196 Tryd.lays196) ⟨by kernel_rfl, by kernel_rfl, by kernel_rfl, by kernel_rfl, by kernel_rfl, by kernel_rfl, by kernel_rfl⟩ (Lib.laidMet.reads hL2 (.tail _ (.head _))) (Lib.laidMet.reads hL2 (.head _))
  have h1 := World.block_lt_of_cell? W _ (htab.2 0 (by omega)).1
  have h0 := World.block_lt_of_cell? W _ (htab.1 0 (by omega))
  refine ⟨?_, htab⟩
  have e1 : Tryd.lays196_ren.g 4 = 1 := rfl
  have e0 : Tryd.lays196_ren.g 3 = 0 := rfl
  rw [e1] at h1
  rw [e0] at h0
  simp only at h0 h1
  omega
/-- THE WITNESS: the settled world, the two variables holding what their initialisers lay. -/
noncomputable def laidWorld (os : Os) : World :=
  let w0 := World.holding Tryd.prog os ⟨#[], #[], []⟩
  let put (h : Array Obj) (g : Nat) (cs : Array Value) : Array Obj := h.modify g fun
    | .cells _ t frozen => .cells cs t frozen
    | o => o
  let h1 := put w0.heap 0 (Lib.firstTab.map fun z => Value.int .u8 z).toArray
  let h2 := put h1 1 ((List.range 16).flatMap fun i => [Value.int .u8 (Lib.accLo i), Value.int .u8 (Lib.accHi i)]).toArray
  { w0 with heap := h2 }
theorem laid_met (os : Os) (args : Array Value) : laidMet Tryd.prog [("unicode/utf8.acceptRanges", Rows.laid_unicode_utf8_acceptRanges), ("unicode/utf8.first", Rows.laid_unicode_utf8_first)] ((laidWorld os).forCall (fun _ _ => 0) ⟨#[], args, []⟩).memory := by
  rw [accept_eq, first_eq]
  exact (LaidIn.of_run (l := [("unicode/utf8.acceptRanges", Lib.acceptData), ("unicode/utf8.first", Lib.firstData)]) [1, 0] 8 (by kernel_rfl) (by kernel_rfl) (by kernel_rfl) (by kernel_rfl)).met
end Go.Proofs.YtkbfhgcjimfgkaaDoor
