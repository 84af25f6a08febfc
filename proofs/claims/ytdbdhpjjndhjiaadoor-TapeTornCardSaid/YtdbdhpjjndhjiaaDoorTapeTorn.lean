/- The walk of TapeTorn. -/
import Derived.Test.YtdbdhpjjndhjiaaDoorFirst
set_option linter.unusedSimpArgs false
namespace Go.Proofs.YtdbdhpjjndhjiaaDoor
open Go.RowKit

/-- a whole tape is recovered whole -/
theorem recover_all (rs : List Rec) (hrs : ∀ r ∈ rs, checkRecord r = 0 ∧ I64 r.epoch) (hlen : rs.length ≤ 100) (N K : Nat) (hN : N = (tapeB rs).length) (hK : K = rs.length) (s : Int) (h0 : 0 ≤ s) (h1 : s ≤ N) (a : Option Addr) (c : Nat) (w : World) (hg : Good w) (hr : RdS (· < w.heap.size) w (tapeB rs) a N c) :
    Calls Tryd.prog 28 #[.agg #[.slice a N c, .int .i64 s]] w fun e w' => ∃ (ao : Option Addr) (co : Nat) (au : Option Addr) (cu : Nat), e = .returned (.tuple #[.slice ao K co, .agg #[.slice au N cu, .int .i64 s], .int .i64 0]) ∧ RdS (· < w'.heap.size) w' rs ao K co ∧ RdS (· < w'.heap.size) w' (tapeB rs) au N cu ∧ Below w.heap.size w w' := by
  have hr2 : RdS (· < w.heap.size) w ((tapeB rs).take N) a N c := by rw [List.take_of_length_le (by omega)]; exact hr
  refine (recover_ok rs hrs hlen N (by omega) s h0 h1 a c w hg hr2).mono ?_
  rintro e w' ⟨j, ao, au, co, cu, h1', h2, h3, rfl, h5, h6, h7⟩
  have hj : j = rs.length := by
    by_cases h : j < rs.length
    · have := h3 h
      have := offR_le rs (j + 1)
      omega
    · omega
  have ho : offR rs j = N := by rw [hj, offR_all]; omega
  have hmin : min s (N : Int) = s := by omega
  rw [hj, List.take_length] at h5 h6
  rw [← hj, ho] at h6
  rw [ho, hmin, hj, ← hK]
  rw [← hK] at h5
  exact ⟨ao, co, au, cu, rfl, h5, h6, h7⟩
set_option maxRecDepth 100000 in
set_option maxHeartbeats 6000000 in
theorem tapeTorn_walk (w : World) (hg : Good w) (a1 : Option Addr) (n1 c1 : Nat) (l1 : List Raw) (r1 : RdS (· < w.heap.size) w l1 a1 n1 c1) (x : Int) (hx : I64 x) :
    Calls Tryd.prog 10 #[.slice a1 n1 c1, .int .i64 x] w fun e w' => e = .returned (.bool true) ∧ Below w.heap.size w w' := by
  have hn1 := r1.1
  have HRc := Lib.hid (fun W (u : Below w.heap.size w W) => records_any l1 a1 n1 c1 15 W (r1.go u) (by omega))
  rw [show ((15 : Nat) : Int) = 15 from rfl] at HRc
  have hrs := recsOf_ok l1 (min n1 15) (by omega)
  have HT := Lib.hid (fun a c W hg hr => taped_ok (recsOf l1 (min n1 15)) a (min n1 15) c W hg hr (by omega) hrs)
  have hlen : min n1 15 = (recsOf l1 (min n1 15)).length := (recsOf_len l1 _).symm
  have hK : min n1 15 ≤ 15 := by omega
  have Hrs := Lib.hid hrs
  have Hlen := Lib.hid hlen
  have HA := Lib.hid recover_bad
  have g0 := Lib.hid hg
  have B0 := Lib.hid (Below.refl w.heap.size w)
  clear hg r1 hn1 hrs hlen
  generalize recsOf l1 (min n1 15) = rs at *
  generalize min n1 15 = K at *
  have htl : (tapeB rs).length ≤ 600195 := by have := tapeB_len rs (fun r hr => (Hrs.out r hr).1); have := Hlen.out; omega
  have rx := pk_range x (((tapeB rs).length : Int) + 1) (by omega)
  have HX := Lib.hid (fun W => picked_any x (((tapeB rs).length : Int) + 1) W hx (by omega) (by omega))
  generalize pk x (((tapeB rs).length : Int) + 1) = s at *
  obtain ⟨m, rfl⟩ : ∃ m : Nat, s = m := ⟨s.toNat, by omega⟩
  have hm : m ≤ (tapeB rs).length := by omega
  have HR := Lib.hid (fun a c W hg hr => recover_ok rs Hrs.out (by have := Hlen.out; omega) m hm 0 (by omega) (by omega) a c W hg hr)
  have HR2 := Lib.hid (fun j N (hj : j ≤ rs.length) (hN : N = (tapeB (rs.take j)).length) s h0 h1 a c W hg hr => recover_all (rs.take j) (fun r h => Hrs.out r (List.mem_of_mem_take h)) (by rw [List.length_take]; have := Hlen.out; omega) N j hN (by rw [List.length_take]; omega) s h0 h1 a c W hg hr)
  have HB := Lib.hid (fun j (hj : j ≤ rs.length) a1 a2 n1 c1 n2 c2 W h1 h2 => begins_ok (rs.take j) rs (by rw [List.length_take]; omega) (fun k h h2 => by simp) a1 a2 n1 c1 n2 c2 W h1 h2)
  have Hle := Lib.hid (offR_le rs)
  have Hall := Lib.hid (offR_all rs)
  generalize ht : tapeB rs = t at *
  clear ht rx hx
  go_enter Tryd.func10, Tryd.ntmps10
  go_wp2_with fail
  refine (HRc.out _ (Below.refl _ _)).mono ?_
  rintro e w1 ⟨ar, cr, rfl, rr, hb⟩
  have B1 := Lib.hid (up B0.out hb)
  have g1 := Lib.hid (g0.out.below' hb)
  have rr1 := Lib.hid rr
  clear B0 g0 hb rr
  go_wp2_with fail
  refine (HT.out _ _ _ g1.out rr1.out).mono ?_
  rintro e w2 ⟨a7, c7, rfl, rt, hb⟩
  have B2 := Lib.hid (up B1.out hb)
  have g2 := Lib.hid (g1.out.below' hb)
  have rr2 := Lib.hid (rr1.out.go hb)
  have rt2 := Lib.hid rt
  clear B1 g1 rr1 hb rt
  go_wp2_with fail
  refine (HX.out _).mono ?_
  rintro e W' ⟨rfl, rfl⟩
  have hc7 := rt2.out.2.1
  have i1 : (0 : Int) ≤ (m : Int) := by omega
  have i2 : (m : Int) ≤ (c7 : Int) := by omega
  have hal : Option.map (fun x : Addr => x.add 0) a7 = a7 := by cases a7 <;> simp [Addr.add]
  go_wp2_with fail
  refine abs_run (fun W => Below w2.heap.size w2 W ∧ Blk w2.heap.size (.cells #[.slice a7 t.length c7, .int .i64 0] 27 (0, 0)) W) ⟨(by (repeat (first | exact Below.refl _ _ | assumption | (refine Below.drew ?_) | (refine below_drewN ?_ _) | (refine Below.alloc ?_ (by first | (simp; done) | (simp; omega) | omega) _) | (refine Below.setCell ?_ (by first | (simp; done) | (simp; omega) | omega) _) | (refine Below.trans ?_ (Below.mono (by assumption) (by first | (simp; done) | (simp; omega) | omega)))))), Blk.new w2 _⟩ ?_
  rintro w3 ⟨hb, bt⟩
  have B3 := Lib.hid (up B2.out hb)
  have g3 := Lib.hid (g2.out.below' hb)
  have rr3 := Lib.hid (rr2.out.go hb)
  have rt3 := Lib.hid (rt2.out.go hb)
  have bt3 := Lib.hid bt
  clear B2 g2 rr2 rt2 hb bt
  refine (HR.out _ _ _ g3.out ((rt3.out.upto m hm).cap)).mono ?_
  rintro e w4 ⟨j, ag, au, cg, cu, hj1, hj2, hj3, rfl, rg, ru, hb⟩
  have B4 := Lib.hid (up B3.out hb)
  have g4 := Lib.hid (g3.out.below' hb)
  have rr4 := Lib.hid (rr3.out.go hb)
  have rt4 := Lib.hid (rt3.out.go hb)
  have bt4 := Lib.hid (bt3.out.go hb)
  have rg4 := Lib.hid rg
  have ru4 := Lib.hid ru
  clear B3 g3 rr3 rt3 bt3 hb rg ru
  clear i1 i2 hal
  have hmin : min (0 : Int) ((offR rs j : Nat) : Int) = 0 := by omega
  go_wp2_with fail
  refine abs_run (fun W => Below w4.heap.size w4 W ∧ Blk w4.heap.size (.cells #[.slice au (offR rs j) cu, .int .i64 0] 27 (0, 0)) W) ⟨(by (repeat (first | exact Below.refl _ _ | assumption | (refine Below.drew ?_) | (refine below_drewN ?_ _) | (refine Below.alloc ?_ (by first | (simp; done) | (simp; omega) | omega) _) | (refine Below.setCell ?_ (by first | (simp; done) | (simp; omega) | omega) _) | (refine Below.trans ?_ (Below.mono (by assumption) (by first | (simp; done) | (simp; omega) | omega)))))), Blk.new w4 _⟩ ?_
  rintro w5 ⟨hb, b10⟩
  have B5 := Lib.hid (up B4.out hb)
  have g5 := Lib.hid (g4.out.below' hb)
  have rr5 := Lib.hid (rr4.out.go hb)
  have rt5 := Lib.hid (rt4.out.go hb)
  have bt5 := Lib.hid (bt4.out.go hb)
  have rg5 := Lib.hid (rg4.out.go hb)
  have ru5 := Lib.hid (ru4.out.go hb)
  have b105 := Lib.hid b10
  clear B4 g4 rr4 rt4 bt4 rg4 ru4 hb b10
  refine (HR2.out j (offR rs j) hj1 rfl 0 (by omega) (by omega) _ _ _ g5.out ru5.out).mono ?_
  rintro e w6 ⟨ah, ch, av, cv, rfl, rh, rv, hb⟩
  have B6 := Lib.hid (up B5.out hb)
  have g6 := Lib.hid (g5.out.below' hb)
  have rr6 := Lib.hid (rr5.out.go hb)
  have rt6 := Lib.hid (rt5.out.go hb)
  have bt6 := Lib.hid (bt5.out.go hb)
  have rg6 := Lib.hid (rg5.out.go hb)
  have ru6 := Lib.hid (ru5.out.go hb)
  have b106 := Lib.hid (b105.out.go hb)
  have rh6 := Lib.hid rh
  have rv6 := Lib.hid rv
  clear B5 g5 rr5 rt5 bt5 rg5 ru5 b105 hb rh rv
  go_wp2_with fail
  refine abs_run (fun W => Below w6.heap.size w6 W ∧ Blk w6.heap.size (.cells #[.slice av (offR rs j) cv, .int .i64 0] 27 (0, 0)) W) ⟨(by (repeat (first | exact Below.refl _ _ | assumption | (refine Below.drew ?_) | (refine below_drewN ?_ _) | (refine Below.alloc ?_ (by first | (simp; done) | (simp; omega) | omega) _) | (refine Below.setCell ?_ (by first | (simp; done) | (simp; omega) | omega) _) | (refine Below.trans ?_ (Below.mono (by assumption) (by first | (simp; done) | (simp; omega) | omega)))))), Blk.new w6 _⟩ ?_
  rintro w7 ⟨hb, b13⟩
  have B7 := Lib.hid (up B6.out hb)
  have g7 := Lib.hid (g6.out.below' hb)
  have rr7 := Lib.hid (rr6.out.go hb)
  have rt7 := Lib.hid (rt6.out.go hb)
  have bt7 := Lib.hid (bt6.out.go hb)
  have rg7 := Lib.hid (rg6.out.go hb)
  have ru7 := Lib.hid (ru6.out.go hb)
  have b107 := Lib.hid (b106.out.go hb)
  have rh7 := Lib.hid (rh6.out.go hb)
  have rv7 := Lib.hid (rv6.out.go hb)
  have b137 := Lib.hid b13
  clear B6 g6 rr6 rt6 bt6 rg6 ru6 b106 rh6 rv6 hb b13
  refine (HA.out _).mono ?_
  rintro e w8 ⟨rfl, hb⟩
  have B8 := Lib.hid (up B7.out hb)
  have g8 := Lib.hid (g7.out.below' hb)
  have rr8 := Lib.hid (rr7.out.go hb)
  have rt8 := Lib.hid (rt7.out.go hb)
  have bt8 := Lib.hid (bt7.out.go hb)
  have rg8 := Lib.hid (rg7.out.go hb)
  have ru8 := Lib.hid (ru7.out.go hb)
  have b108 := Lib.hid (b107.out.go hb)
  have rh8 := Lib.hid (rh7.out.go hb)
  have rv8 := Lib.hid (rv7.out.go hb)
  have b138 := Lib.hid (b137.out.go hb)
  clear B7 g7 rr7 rt7 bt7 rg7 ru7 b107 rh7 rv7 b137 hb
  go_wp2_with fail
  refine abs_run (fun W => Below w8.heap.size w8 W) (by (repeat (first | exact Below.refl _ _ | assumption | (refine Below.drew ?_) | (refine below_drewN ?_ _) | (refine Below.alloc ?_ (by first | (simp; done) | (simp; omega) | omega) _) | (refine Below.setCell ?_ (by first | (simp; done) | (simp; omega) | omega) _) | (refine Below.trans ?_ (Below.mono (by assumption) (by first | (simp; done) | (simp; omega) | omega)))))) ?_
  rintro w9 hb
  have B9 := Lib.hid (up B8.out hb)
  have g9 := Lib.hid (g8.out.below' hb)
  have rr9 := Lib.hid (rr8.out.go hb)
  have rt9 := Lib.hid (rt8.out.go hb)
  have bt9 := Lib.hid (bt8.out.go hb)
  have rg9 := Lib.hid (rg8.out.go hb)
  have ru9 := Lib.hid (ru8.out.go hb)
  have b109 := Lib.hid (b108.out.go hb)
  have rh9 := Lib.hid (rh8.out.go hb)
  have rv9 := Lib.hid (rv8.out.go hb)
  have b139 := Lib.hid (b138.out.go hb)
  clear B8 g8 rr8 rt8 bt8 rg8 ru8 b108 rh8 rv8 b138 hb
  refine (HB.out j hj1 _ _ _ _ _ _ _ rg9.out rr9.out).mono ?_
  rintro e w10 ⟨rfl, hb⟩
  have B10 := Lib.hid (up B9.out hb)
  have g10 := Lib.hid (g9.out.below' hb)
  have rr10 := Lib.hid (rr9.out.go hb)
  have rt10 := Lib.hid (rt9.out.go hb)
  have bt10 := Lib.hid (bt9.out.go hb)
  have rg10 := Lib.hid (rg9.out.go hb)
  have ru10 := Lib.hid (ru9.out.go hb)
  have b1010 := Lib.hid (b109.out.go hb)
  have rh10 := Lib.hid (rh9.out.go hb)
  have rv10 := Lib.hid (rv9.out.go hb)
  have b1310 := Lib.hid (b139.out.go hb)
  clear B9 g9 rr9 rt9 bt9 rg9 ru9 b109 rh9 rv9 b139 hb
  have hcv1 := ru10.out.conv
  have hcv2 := rv10.out.conv
  have p0 := bt10.out.cell 0
  have p1 := b1010.out.cell 0
  have p2 := b1310.out.cell 0
  simp only [List.getElem?_toArray, List.getElem?_cons_zero, List.getElem?_cons_succ] at p0 p1 p2
  have hd1 : decide (((offR rs j : Nat) : Int) ≤ (m : Int)) = true := by simp; omega
  have hfin : (((j : Int) == (K : Int)) = true ∧ ((m : Int) == (t.length : Int)) = true) ∨ (((j : Int) == (K : Int)) = false ∧ ((m : Int) == (t.length : Int)) = false) := by
    have e1 := Hlen.out
    have e2 := Hall.out
    by_cases hjK : j = K
    · left
      subst hjK
      rw [e1] at hj2
      exact ⟨by simp, by simp; omega⟩
    · right
      have h1 := hj3 (by omega)
      have h2 := Hle.out (j + 1)
      exact ⟨by simp; omega, by simp; omega⟩
  clear hj3
  rcases hfin with ⟨f1, f2⟩ | ⟨f1, f2⟩ <;>
  · go_wp2_with fail
    go_ret
    exact ⟨rfl, B10.out⟩
end Go.Proofs.YtdbdhpjjndhjiaaDoor
