/- The walk of CrashJust. -/
import Derived.Test.YtdbdhpjjndhjiaaDoorTapeCrash
import Derived.Test.YtdbdhpjjndhjiaaDoorTapeRecs
import Derived.BigQuiet
set_option linter.unusedSimpArgs false
namespace Go.Proofs.YtdbdhpjjndhjiaaDoor
open Go.RowKit

set_option maxRecDepth 100000 in
set_option maxHeartbeats 6000000 in
theorem crashJust_walk (w : World) (hg : Good w) (a1 : Option Addr) (n1 c1 : Nat) (l1 : List Raw) (r1 : RdS (· < w.heap.size) w l1 a1 n1 c1) (x y : Int) (hx : I64 x) (hy : I64 y) :
    Calls Tryd.prog 4 #[.slice a1 n1 c1, .int .i64 x, .int .i64 y] w fun e w' => e = .returned (.bool true) ∧ Below w.heap.size w w' := by
  have hn1 := r1.1
  have HRc := Lib.hid (fun W (u : Below w.heap.size w W) => records_any l1 a1 n1 c1 15 W (r1.go u) (by omega))
  rw [show ((15 : Nat) : Int) = 15 from rfl] at HRc
  have hrs := recsOf_ok l1 (min n1 15) (by omega)
  have HT := Lib.hid (fun a c W hg hr => taped_ok (recsOf l1 (min n1 15)) a (min n1 15) c W hg hr (by omega) hrs)
  have htl := tapeB_len (recsOf l1 (min n1 15)) (fun r hr => (hrs r hr).1)
  rw [recsOf_len] at htl
  have htl2 : (tapeB (recsOf l1 (min n1 15))).length ≤ 600195 := by omega
  generalize tapeB (recsOf l1 (min n1 15)) = t at *
  have ry := pk_range y 200 (by omega)
  have rx := pk_range x ((t.length : Int) + 1) (by omega)
  have HY := Lib.hid (fun W => picked_any y 200 W hy (by omega) (by omega))
  have HX := Lib.hid (fun W => picked_any x ((t.length : Int) + 1) W hx (by omega) (by omega))
  generalize pk y 200 = keep at *
  generalize pk x ((t.length : Int) + 1) = s at *
  obtain ⟨m, hm⟩ : ∃ m : Nat, (m : Int) = s + min keep (t.length - s) := ⟨(s + min keep (t.length - s)).toNat, by omega⟩
  have hmt : (m : Int) = min (s + keep) t.length := by omega
  have HC1 := Lib.hid (fun a c W hr => crash_ok t s keep m a c W hr (by omega) (by omega) (by omega) (by omega) (by omega) hm)
  have HC2 := Lib.hid (fun a c W hr => crash_neg t s (-1 - keep) a c W hr (by omega) (by omega) (by omega) (by omega))
  have Hm := Lib.hid hm
  have Hmt := Lib.hid hmt
  have g0 := Lib.hid hg
  have B0 := Lib.hid (Below.refl w.heap.size w)
  clear hm hmt hrs htl hg hx hy r1 hn1
  generalize recsOf l1 (min n1 15) = rs at *
  generalize min n1 15 = K at *
  go_enter Tryd.func4, Tryd.ntmps4
  go_wp2_with fail
  refine (HRc.out _ (Below.refl _ _)).mono ?_
  rintro e w1 ⟨ar, cr, rfl, rr, hb⟩
  have B1 := Lib.hid (up B0.out hb)
  have g1 := Lib.hid (g0.out.below' hb)
  have rr1 := Lib.hid rr
  clear B0 g0 hb rr
  go_wp2_with fail
  refine (HT.out _ _ _ g1.out rr1.out).mono ?_
  rintro e w2 ⟨a7, c7, rfl, rt, hb⟩
  have B2 := Lib.hid (up B1.out hb)
  have g2 := Lib.hid (g1.out.below' hb)
  have rr2 := Lib.hid (rr1.out.go hb)
  have rt2 := Lib.hid rt
  clear B1 g1 rr1 hb rt
  clear rr2
  go_wp2_with fail
  refine (HY.out _).mono ?_
  rintro e W' ⟨rfl, rfl⟩
  go_wp2_with fail
  refine (HX.out _).mono ?_
  rintro e W' ⟨rfl, rfl⟩
  go_wp2_with fail
  refine abs_run (fun W => Below w2.heap.size w2 W ∧ Blk w2.heap.size (.cells #[.slice a7 t.length c7, .int .i64 s] 27 (0, 0)) W) ⟨(by (repeat (first | exact Below.refl _ _ | assumption | (refine Below.drew ?_) | (refine below_drewN ?_ _) | (refine Below.alloc ?_ (by first | (simp; done) | (simp; omega) | omega) _) | (refine Below.setCell ?_ (by first | (simp; done) | (simp; omega) | omega) _) | (refine Below.trans ?_ (Below.mono (by assumption) (by first | (simp; done) | (simp; omega) | omega)))))), Blk.new w2 _⟩ ?_
  rintro w3 ⟨hb, bt⟩
  have B3 := Lib.hid (up B2.out hb)
  have g3 := Lib.hid (g2.out.below' hb)
  have rt3 := Lib.hid (rt2.out.go hb)
  have bt3 := Lib.hid bt
  clear B2 g2 rt2 hb bt
  refine (HC1.out _ _ _ rt3.out).mono ?_
  rintro e w4 ⟨a8, c8, rfl, r8, hb⟩
  have B4 := Lib.hid (up B3.out hb)
  have g4 := Lib.hid (g3.out.below' hb)
  have rt4 := Lib.hid (rt3.out.go hb)
  have bt4 := Lib.hid (bt3.out.go hb)
  have r84 := Lib.hid r8
  clear B3 g3 rt3 bt3 hb r8
  have q0 := bt4.out.cell 0
  have q1 := bt4.out.cell 1
  simp only [List.getElem?_toArray, List.getElem?_cons_zero, List.getElem?_cons_succ] at q0 q1
  have l0 := bt4.out.lt
  go_wp2_with fail
  refine abs_run (fun W => Below w4.heap.size w4 W ∧ Blk w4.heap.size (.cells #[.slice a8 m c8, .int .i64 m] 27 (0, 0)) W) ⟨(by (repeat (first | exact Below.refl _ _ | assumption | (refine Below.drew ?_) | (refine below_drewN ?_ _) | (refine Below.alloc ?_ (by first | (simp; done) | (simp; omega) | omega) _) | (refine Below.setCell ?_ (by first | (simp; done) | (simp; omega) | omega) _) | (refine Below.trans ?_ (Below.mono (by assumption) (by first | (simp; done) | (simp; omega) | omega)))))), Blk.new w4 _⟩ ?_
  rintro w5 ⟨hb, bc⟩
  have B5 := Lib.hid (up B4.out hb)
  have g5 := Lib.hid (g4.out.below' hb)
  have rt5 := Lib.hid (rt4.out.go hb)
  have bt5 := Lib.hid (bt4.out.go hb)
  have r85 := Lib.hid (r84.out.go hb)
  have bc5 := Lib.hid bc
  clear B4 g4 rt4 bt4 r84 hb bc
  refine (HC2.out _ _ _ rt5.out).mono ?_
  rintro e w6 ⟨rfl, hb⟩
  have B6 := Lib.hid (up B5.out hb)
  have g6 := Lib.hid (g5.out.below' hb)
  have rt6 := Lib.hid (rt5.out.go hb)
  have bt6 := Lib.hid (bt5.out.go hb)
  have r86 := Lib.hid (r85.out.go hb)
  have bc6 := Lib.hid (bc5.out.go hb)
  clear B5 g5 rt5 bt5 r85 bc5 hb
  clear q0 q1 l0
  have p0 := bt6.out.cell 0
  have p1 := bt6.out.cell 1
  have q0 := bc6.out.cell 0
  have q1 := bc6.out.cell 1
  simp only [List.getElem?_toArray, List.getElem?_cons_zero, List.getElem?_cons_succ] at p0 p1 q0 q1
  have hbz : ∀ n, Below w6.heap.size w6 ((w6.alloc (.cells #[.slice none 0 0, .int .i64 0] 27)).drewN n) := fun n => below_drewN ((Below.refl _ _).alloc (Nat.le_refl _) _) n
  have hcv1 := fun n => (r86.out.go (hbz n)).conv
  have l0 := bt6.out.lt
  have l1' := bc6.out.lt
  simp only [← Hmt.out]
  have hml : m ≤ t.length := by have := Hmt.out; omega
  have hcv2 := fun n => ((rt6.out.go (hbz n)).upto m hml).conv
  clear hbz
  have hc7 := rt6.out.2.1
  have i1 : (0 : Int) ≤ (m : Int) := by omega
  have i2 : (m : Int) ≤ (c7 : Int) := by omega
  have hal : Option.map (fun x : Addr => x.add 0) a7 = a7 := by cases a7 <;> simp [Addr.add]
  go_wp2_with fail
  have hend := fun n => up B6.out (below_drewN ((Below.refl w6.heap.size w6).alloc (Nat.le_refl _) (.cells #[.slice none 0 0, .int .i64 0] 27)) n)
  have Hend := Lib.hid hend
  clear hend
  go_quiet (fail)
  go_wp2_with fail
  go_ret
  exact ⟨rfl, Hend.out _⟩
end Go.Proofs.YtdbdhpjjndhjiaaDoor
