/- The walk of node.undo. -/
import Derived.RangeFuncFrom
import Derived.Test.YtkbfhgcjimfgkaaDoorBack
import Derived.Test.YtkbfhgcjimfgkaaDoorText2
set_option linter.unusedVariables false
set_option linter.unusedSimpArgs false
namespace Go.Proofs.YtkbfhgcjimfgkaaDoor
open Go.RowKit Go.Shelf
attribute [local go_sem] Oper.semAt_some

/-- what would be undone fits, one behind the other -/
def undoFrom (x : Int) : List Op → Bool
  | [] => true
  | o :: r => if check o ≠ 0 then false else if sumF o ≠ x then false else undoFrom (sumT o) r
def undoOk (n : Nd) : Bool := undoFrom (rc n.text) n.undo.reverse && decide (n.undo.length ≤ 12)
def undoAt (x : Int) : List Op → Int
  | [] => x
  | o :: r => undoAt (sumT o) r
theorem undoFrom_snoc : ∀ (l : List Op) (x : Int) (o : Op) (r : List Op), undoFrom x l = true → undoFrom x (l ++ o :: r) = undoFrom (undoAt x l) (o :: r)
  | [], _, _, _, _ => rfl
  | p :: l, x, o, r, h => by
    unfold undoFrom at h
    show undoFrom x (p :: (l ++ o :: r)) = undoFrom (undoAt (sumT p) l) (o :: r)
    by_cases h1 : check p = 0
    · rw [if_neg (by simpa using h1)] at h
      by_cases h2 : sumF p = x
      · rw [if_neg (by simpa using h2)] at h
        rw [undoFrom, if_neg (by simpa using h1), if_neg (by simpa using h2)]
        exact undoFrom_snoc l (sumT p) o r h
      · rw [if_pos h2] at h; cases h
    · rw [if_pos h1] at h; cases h
theorem undoAt_snoc : ∀ (l : List Op) (x : Int) (o : Op), undoAt x (l ++ [o]) = sumT o
  | [], _, _ => rfl
  | p :: l, x, o => undoAt_snoc l (sumT p) o
set_option maxRecDepth 100000 in
set_option maxHeartbeats 4000000 in
theorem undo_any (n : Nd) (a : Option Addr) (c : Nat) (ua : Option Addr) (uc : Nat) (ma : Option Addr) (mc : Nat) (w : World) (hg : Good w) (hn : n.text.size ≤ strMax) (hr : RdS (· < w.heap.size) w n.undo ua n.undo.length uc) (hsm : ∀ o ∈ n.undo, Small o) :
    Calls Tryd.prog 29 #[.agg #[.int .i64 n.me, .int .i64 n.epoch, .int .i64 n.up, .bool n.ready, .string n.text, .slice a n.sides.length c, .slice ua n.undo.length uc, .slice ma n.marks.length mc]] w
      fun e w' => e = .returned (.bool (undoOk n)) ∧ Below w.heap.size w w' := by
  refine (callsIn_wide (n := 5)).1 ?_
  refine callsIn_of_wp_marks Tryd.func29 rfl trivial ?_ rfl
  simp only [Tryd.ntmps29, List.size_toArray, List.length_cons, List.length_nil, Nat.reduceAdd, Nat.reduceSub, Array.replicate_succ, Array.replicate_zero, List.push_toArray, List.append_toArray, List.nil_append, List.cons_append]
  have HR := fun W => rc_any n.text W hn
  obtain ⟨cn, hcn⟩ : ∃ cn : Obj, cn = .cells #[.int .i64 n.me, .int .i64 n.epoch, .int .i64 n.up, .bool n.ready, .string n.text, .slice a n.sides.length c, .slice ua n.undo.length uc, .slice ma n.marks.length mc] 31 (0, 0) := ⟨_, rfl⟩
  have U0 : Hid (Below w.heap.size w ((w.alloc cn).alloc (.cells #[.bool false] 4))) := by unfold Hid; (repeat (first | exact Below.refl _ _ | assumption | (refine Below.drew ?_) | (refine below_drewN ?_ _) | (refine Below.alloc ?_ (by first | (simp; done) | (simp; omega) | omega) _) | (refine Below.setCell ?_ (by first | (simp; done) | (simp; omega) | omega) _) | (refine Below.trans ?_ (Below.mono (by assumption) (by first | (simp; done) | (simp; omega) | omega)))))
  have X0 : Hid (Blk w.heap.size cn ((w.alloc cn).alloc (.cells #[.bool false] 4))) := (Blk.new w _).alloc _
  have Y0 : Hid (Blk (w.heap.size + 1) (.cells #[.bool false] 4 (0, 0)) ((w.alloc cn).alloc (.cells #[.bool false] 4))) := Blk.at (w.alloc cn) _ _ (by simp)
  gi_wp2
  refine ⟨trivial, ?_⟩
  rw [← hcn]
  refine (callsIn_wide.2 (HR _)).mono ?_
  rintro e w1 ⟨rfl, b1⟩
  have B1 : Below w.heap.size w w1 := up U0.out b1
  have X1 := X0.out.go b1
  have Y1 := Y0.out.go b1
  rw [hcn] at X1
  have q6 : w1.cell? ⟨w.heap.size, 6, none⟩ = some (.slice ua n.undo.length uc) := X1.cell 6
  have hx1 := Y1.lt
  have hx0 := X1.lt
  have HB1 := Lib.hid B1
  have HX1 := Lib.hid X1
  have HY1 := Lib.hid Y1
  clear U0 X0 Y0 b1 B1 X1 Y1
  gi_wp2
  refine ⟨trivial, ?_⟩
  refine (back_in Fence.wide 4 trivial rfl _ _ _ _).mono ?_
  rintro e w2 ⟨rfl, hw2⟩
  obtain ⟨W0, hW0⟩ : ∃ W0, W0 = w2 := ⟨_, rfl⟩
  have hsz : W0.heap.size = w1.heap.size + 1 + 1 := by rw [hW0, hw2]; simp
  have hA0 : Hid (Blk w1.heap.size (.cells #[.int .i64 (rc n.text)] 3 (0, 0)) W0) := by rw [hW0, hw2]; exact (Blk.new w1 _).alloc _
  have hC0 : Hid (Blk (w1.heap.size + 1) (.cells #[.slice ua n.undo.length uc] 28 (0, 0)) W0) := by rw [hW0, hw2]; exact Blk.at (w1.alloc _) _ _ (by simp)
  have hB01 : Below w1.heap.size w1 W0 := by rw [hW0, hw2]; exact ((Below.refl _ _).alloc (Nat.le_refl _) _).alloc (by simp) _
  have HB0 := Lib.hid (up HB1.out hB01)
  have HX0 := Lib.hid (HX1.out.go hB01)
  have HY0 := Lib.hid (HY1.out.go hB01)
  rw [← hW0]
  clear hW0 hw2 hB01
  gi_wp2
  refine wpIn_rangeFunc_ownF rfl (by omega) (gf := 72) (lb := #[.pointer (some ⟨w1.heap.size + 1, 0, none⟩)]) rfl trivial (enters_of Tryd.func72 (by kernel_rfl) rfl)
    (back_stops Fence.wide 4 trivial rfl (by omega) w W0 (w1.heap.size + 1) n.undo ua uc hr hsm HB0.out (by omega) (by omega) (hC0.out.cell 0)) keepB_t (keepB_b HB0.out.size (by omega)) (Below.refl _ _) (fun _ => rfl)
    (fun pre W => undoFrom (rc n.text) (pre.map Seen.o) = true ∧ Blk w1.heap.size (.cells #[.int .i64 (undoAt (rc n.text) (pre.map Seen.o))] 3 (0, 0)) W ∧ Touch (fun z => z = w1.heap.size) W0 W)
    (fun co pre W => co = .ret ∧ (∀ r, undoFrom (rc n.text) (pre.map Seen.o ++ r) = false) ∧ Blk (w.heap.size + 1) (.cells #[.bool false] 4 (0, 0)) W ∧ Touch (fun z => z = w1.heap.size ∨ z = w.heap.size + 1) W0 W)
    ?hI ?hIx ?h0
    (fun x => { tmps := #[.agg #[.int .i64 n.me, .int .i64 n.epoch, .int .i64 n.up, .bool n.ready, .string n.text, .slice a n.sides.length c, .slice ua n.undo.length uc, .slice ma n.marks.length mc], .pointer (some ⟨w.heap.size, 0, none⟩), .pointer (some ⟨w.heap.size + 1, 0, none⟩), .pointer (some ⟨w1.heap.size, 0, none⟩), undef, .slice x.a x.o.length x.c, undef, undef, .pointer (some ⟨w.heap.size, 4, none⟩), .string n.text, .int .i64 (rc n.text), .pointer (some ⟨w.heap.size, 6, none⟩), .slice ua n.undo.length uc, .func (.func 72) #[] #[.pointer (some ⟨w1.heap.size + 1, 0, none⟩)], .int .i64 (x.i : Int), .slice x.a x.o.length x.c, undef, undef, undef, undef, undef, undef, undef, undef, undef, undef, undef, undef, undef, undef, undef, undef, undef, undef], defers := [] }) ?assign ?body ?done ?stop
  case hI =>
    rintro s W W' row ⟨k1, k2, k3⟩ hg hrow
    exact ⟨k1, k2.grown hg (fun e => by have := (hrow _ e.symm).1; omega), k3.grown hg (fun k e => .inr (hrow k e).1)⟩
  case hIx =>
    rintro co s W W' row ⟨k0, k1, k2, k3⟩ hg hrow
    exact ⟨k0, k1, k2.grown hg (fun e => by have := (hrow _ e.symm).1; omega), k3.grown hg (fun k e => .inr (hrow k e).1)⟩
  case h0 => exact ⟨rfl, hA0.out, Touch.refl _ _⟩
  case assign =>
    intro l x W K hK
    simp only [Seen.enc]
    gi_wp2
    exact hK
  case body =>
    rintro l pre x W ⟨k1, k2, k3⟩ hlt
    have hbW : Below w.heap.size w W := HB0.out.trans (k3.toBelow HB0.out.size (fun z hz => by omega))
    have hgW : Good W := hg.below hbW hg.size
    have hsn := undoFrom_snoc (pre.map Seen.o) (rc n.text) x.o
    have hms : (pre ++ [x]).map Seen.o = pre.map Seen.o ++ [x.o] := by simp
    have hat := undoAt_snoc (pre.map Seen.o) (rc n.text) x.o
    generalize undoAt (rc n.text) (pre.map Seen.o) = A1 at *
    have hrx := Lib.hid x.rd
    have hsx := Lib.hid x.sm
    have HK1 := Lib.hid k1
    have HK2 := Lib.hid k2
    have HK3 := Lib.hid k3
    have HW := Lib.hid hbW
    have HGW := Lib.hid hgW
    have Hsn := Lib.hid hsn
    have Hms := Lib.hid hms
    have Hat := Lib.hid hat
    have hz0 := k2.lt
    clear k1 k2 k3 hbW hgW hsn hms hat
    gi_wp2
    refine ⟨trivial, ?_⟩
    refine (CallsIn.inRound l (callsIn_wide.2 (lengths_any (· < W.heap.size) x.o x.a _ x.c W (hrx.out.go HW.out) hsx.out))).mono ?_
    rintro e W2 ⟨rfl, b2⟩
    have hW2 := Lib.hid (up HW.out b2)
    have B2 := Lib.hid b2
    clear b2
    gi_wp2
    refine ⟨trivial, ?_⟩
    refine (CallsIn.inRound l (callsIn_wide.2 (check_any (· < W2.heap.size) x.o x.a _ x.c W2 (HGW.out.go B2.out) (fun _ h => h) (hrx.out.go hW2.out)))).mono ?_
    rintro e W3 ⟨rfl, b3⟩
    have B3 := Lib.hid (up B2.out b3)
    have X3 : Blk w1.heap.size (.cells #[.int .i64 A1] 3 (0, 0)) W3 := HK2.out.go B3.out
    have T3 : Hid (Touch (fun z => z = w1.heap.size) W0 W3) := HK3.out.trans (Touch.of_below B3.out)
    have Y3 : Blk (w.heap.size + 1) (.cells #[.bool false] 4 (0, 0)) W3 := HY0.out.touch T3.out (by omega)
    have p3 : W3.cell? ⟨w1.heap.size, 0, none⟩ = some (.int .i64 A1) := X3.cell 0
    have f3 : W3.frozen? ⟨w1.heap.size, 0, none⟩ = false := X3.frozen 0
    have hz3 := X3.lt
    have r3 : W3.cell? ⟨w.heap.size + 1, 0, none⟩ = some (.bool false) := Y3.cell 0
    have g3 : W3.frozen? ⟨w.heap.size + 1, 0, none⟩ = false := Y3.frozen 0
    have hy3 := Y3.lt
    have HX3 := Lib.hid X3
    have HY3 := Lib.hid Y3
    have KO : Hid (KeepsOthers W W3) := KeepsOthers.of_below B3.out
    clear b3 X3 Y3
    by_cases hc0 : check x.o = 0
    · by_cases hc1 : sumF x.o = A1
      · have hb1 : (sumF x.o == A1) = true := by simpa using hc1
        have hb1' : (sumF x.o != A1) = false := by simpa using hc1
        have hun : undoFrom (rc n.text) ((pre ++ [x]).map Seen.o) = true := by
          rw [Hms.out, Hsn.out [] HK1.out]
          unfold undoFrom
          rw [if_neg (by simpa using hc0), if_neg (by simpa using hc1)]
          rfl
        have Hun := Lib.hid hun
        have HN : Hid (KeepsOthers W (W3.setCell ⟨w1.heap.size, 0, none⟩ (.int .i64 (sumT x.o))) ∧ KeepB w.heap.size (w1.heap.size + 1) W (W3.setCell ⟨w1.heap.size, 0, none⟩ (.int .i64 (sumT x.o))) ∧ Blk w1.heap.size (.cells #[.int .i64 (undoAt (rc n.text) ((pre ++ [x]).map Seen.o))] 3 (0, 0)) (W3.setCell ⟨w1.heap.size, 0, none⟩ (.int .i64 (sumT x.o))) ∧ Touch (fun z => z = w1.heap.size) W0 (W3.setCell ⟨w1.heap.size, 0, none⟩ (.int .i64 (sumT x.o)))) := by
          have ht := touch1 (w := W3) (g := w1.heap.size) (i := 0) (.int .i64 (sumT x.o))
          refine ⟨KO.out.trans (KeepsOthers.setCell _ _ _), ⟨?_, ?_⟩, ?_, T3.out.trans ht⟩
          · exact (Touch.of_below (S := fun z => w.heap.size ≤ z) B3.out |>.trans (ht.mono fun z _ hz => by omega)).toBelow (by have := HW.out.size; omega) (fun z hz => hz)
          · have hC := hC0.out.touch HK3.out (by omega)
            have hC3 := hC.go B3.out
            exact ((ht.block _ hC3.lt (by omega)).trans hC3).trans hC.symm
          · rw [Hms.out, Hat.out]
            exact HX3.out.set 0 _
        clear hun hc1
        gi_wp2
        exact ⟨HN.out.1, HN.out.2.1, Hun.out, HN.out.2.2⟩
      · have hb1 : (sumF x.o == A1) = false := by simpa using hc1
        have hb1' : (sumF x.o != A1) = true := by simpa using hc1
        have hr4 := touch1 (w := W3) (g := w.heap.size + 1) (i := 0) (.bool false)
        have HX : Hid (KeepsOthers W (W3.setCell ⟨w.heap.size + 1, 0, none⟩ (.bool false)) ∧ (∀ r, undoFrom (rc n.text) ((pre ++ [x]).map Seen.o ++ r) = false) ∧ Blk (w.heap.size + 1) (.cells #[.bool false] 4 (0, 0)) (W3.setCell ⟨w.heap.size + 1, 0, none⟩ (.bool false)) ∧ Touch (fun z => z = w1.heap.size ∨ z = w.heap.size + 1) W0 (W3.setCell ⟨w.heap.size + 1, 0, none⟩ (.bool false))) := by
          refine ⟨KO.out.trans (KeepsOthers.setCell _ _ _), fun r => ?_, HY3.out.set 0 _, (T3.out.mono fun z _ hz => .inl hz).trans (hr4.mono fun z _ hz => .inr hz)⟩
          rw [Hms.out, List.append_assoc, List.singleton_append, Hsn.out r HK1.out]
          unfold undoFrom
          rw [if_neg (by simpa using hc0), if_pos hc1]
        clear hr4
        clear hc1
        gi_wp2
        exact ⟨HX.out.1, rfl, HX.out.2⟩
    · have hb0 : (check x.o != 0) = true := by simpa using hc0
      have hr4 := touch1 (w := W3) (g := w.heap.size + 1) (i := 0) (.bool false)
      have HX : Hid (KeepsOthers W (W3.setCell ⟨w.heap.size + 1, 0, none⟩ (.bool false)) ∧ (∀ r, undoFrom (rc n.text) ((pre ++ [x]).map Seen.o ++ r) = false) ∧ Blk (w.heap.size + 1) (.cells #[.bool false] 4 (0, 0)) (W3.setCell ⟨w.heap.size + 1, 0, none⟩ (.bool false)) ∧ Touch (fun z => z = w1.heap.size ∨ z = w.heap.size + 1) W0 (W3.setCell ⟨w.heap.size + 1, 0, none⟩ (.bool false))) := by
        refine ⟨KO.out.trans (KeepsOthers.setCell _ _ _), fun r => ?_, HY3.out.set 0 _, (T3.out.mono fun z _ hz => .inl hz).trans (hr4.mono fun z _ hz => .inr hz)⟩
        rw [Hms.out, List.append_assoc, List.singleton_append, Hsn.out r HK1.out]
        unfold undoFrom
        rw [if_pos hc0]
      clear hr4
      clear hc0
      gi_wp2
      exact ⟨HX.out.1, rfl, HX.out.2⟩
  case done =>
    rintro D ys W hD hys ⟨k1, k2, k3⟩ hK
    have hys' : ys.map Seen.o = n.undo.reverse := hys
    rw [hys'] at k1
    have X3 := HX0.out.touch k3 (by omega)
    have Y3 := HY0.out.touch k3 (by omega)
    have x6 : W.cell? ⟨w.heap.size, 6, none⟩ = some (.slice ua n.undo.length uc) := X3.cell 6
    have r3 : W.cell? ⟨w.heap.size + 1, 0, none⟩ = some (.bool false) := Y3.cell 0
    have g3 : W.frozen? ⟨w.heap.size + 1, 0, none⟩ = false := Y3.frozen 0
    have hy3 := Y3.lt
    have hOk : undoOk n = decide ((n.undo.length : Int) ≤ 12) := by
      unfold undoOk
      rw [k1, Bool.true_and]
      by_cases h : n.undo.length ≤ 12
      · rw [decide_eq_true h, decide_eq_true (by omega)]
      · rw [decide_eq_false h, decide_eq_false (by omega)]
    have HOk := Lib.hid hOk
    have HK3 := Lib.hid k3
    have HY3 := Lib.hid Y3
    have Hx6 := Lib.hid hK
    clear k1 k2 k3 X3 Y3 hOk hys hys'
    gi_wp2
    have hK' := (KeepsOthers.setCell W ⟨w.heap.size + 1, 0, none⟩ (.bool (decide ((n.undo.length : Int) ≤ 12)))).same D _ Hx6.out rfl
    refine ⟨by simp, .inl ⟨_, _, rfl, run_takeDeferred hK', ?_⟩⟩
    have hc5 := cell_kept ((HY3.out.set 0 (.bool (decide ((n.undo.length : Int) ≤ 12)))).cell 0) (grownBy_putObj' _ D (.deferred none)) (fun r e => by cases e; exact ⟨_, hK', rfl⟩)
    have hB : Below w.heap.size w W := HB0.out.trans (HK3.out.toBelow HB0.out.size (fun z hz => by omega))
    refine ⟨.bool (decide ((n.undo.length : Int) ≤ 12)), ?_, by rw [HOk.out], (hB.setCell (p := ⟨w.heap.size + 1, 0, none⟩) (by simp) _).trans (belowK_b (w := w) (Nat.le_refl _) _ D _ _ (by omega) hK' rfl rfl)⟩
    simp only [List.setIfInBounds_toArray, List.set_cons_zero, List.getElem?_toArray, List.getElem?_cons_zero] at hc5
    simp [results, Tryd.results29, go_sem, hc5]
  case stop =>
    rintro D co pre W hD hpre ⟨rfl, k1, k2, k3⟩ hK
    have hU : undoOk n = false := by
      obtain ⟨r, hr2⟩ := hpre
      unfold undoOk
      rw [← hr2, k1 r]; rfl
    have HU := Lib.hid hU
    have HK2 := Lib.hid k2
    have HK3 := Lib.hid k3
    clear hU k1 k2 k3 hpre
    gi_wp2
    refine ⟨by simp, .inl ⟨_, _, rfl, run_takeDeferred hK, ?_⟩⟩
    have hc5 := cell_kept (HK2.out.cell 0) (grownBy_putObj' _ D (.deferred none)) (fun r e => by cases e; exact ⟨_, hK, rfl⟩)
    have hB : Below w.heap.size w W := HB0.out.trans (HK3.out.toBelow HB0.out.size (fun z hz => by omega))
    refine ⟨.bool false, ?_, by rw [HU.out], hB.trans (belowK_b (w := w) (Nat.le_refl _) W D _ _ (by omega) hK rfl rfl)⟩
    simp [results, Tryd.results29, go_sem, hc5]
end Go.Proofs.YtkbfhgcjimfgkaaDoor
