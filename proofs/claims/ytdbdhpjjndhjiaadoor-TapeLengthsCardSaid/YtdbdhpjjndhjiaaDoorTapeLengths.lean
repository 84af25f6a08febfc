/- The walk of TapeLengths. -/
import Derived.Test.YtdbdhpjjndhjiaaDoorFirst
import Derived.BigQuiet
set_option linter.unusedSimpArgs false
namespace Go.Proofs.YtdbdhpjjndhjiaaDoor
open Go.RowKit

set_option maxRecDepth 100000 in
set_option maxHeartbeats 6000000 in
theorem tapeLengths_walk (w : World) (hg : Good w) (a1 : Option Addr) (n1 c1 : Nat) (l1 : List Raw) (r1 : RdS (· < w.heap.size) w l1 a1 n1 c1) :
    Calls Tryd.prog 3 #[.slice a1 n1 c1] w fun e w' => e = .returned (.bool true) ∧ Below w.heap.size w w' := by
  have hn1 := r1.1
  have HRc := Lib.hid (fun W (u : Below w.heap.size w W) => records_any l1 a1 n1 c1 10 W (r1.go u) (by omega))
  rw [show ((10 : Nat) : Int) = 10 from rfl] at HRc
  have hrs := recsOf_ok l1 (min n1 10) (by omega)
  have HT := Lib.hid (fun a c W hg hr => taped_ok (recsOf l1 (min n1 10)) a (min n1 10) c W hg hr (by omega) hrs)
  have hlen : min n1 10 = (recsOf l1 (min n1 10)).length := (recsOf_len l1 _).symm
  have hK : min n1 10 ≤ 10 := by omega
  have Hrs := Lib.hid hrs
  have Hlen := Lib.hid hlen
  have HA := Lib.hid append_bad
  have g0 := Lib.hid hg
  have B0 := Lib.hid (Below.refl w.heap.size w)
  clear hg r1 hn1 hrs hlen
  generalize recsOf l1 (min n1 10) = rs at *
  generalize min n1 10 = K at *
  have htl : (tapeB rs).length ≤ 400130 := by have := tapeB_len rs (fun r hr => (Hrs.out r hr).1); have := Hlen.out; omega
  have HH := Lib.hid (fun k (h : k < rs.length) (hm : offR rs k + 3 ≤ (tapeB rs).length) i (hi : i < 3) => tape_hdr rs k (tapeB rs).length i h hi hm)
  rw [List.take_length] at HH
  have Hnx := Lib.hid (offR_next rs)
  have Hle := Lib.hid (offR_le rs)
  have Hall := Lib.hid (offR_all rs)
  have Hz := Lib.hid (offR_zero rs)
  generalize tapeB rs = t at *
  go_enter Tryd.func3, Tryd.ntmps3
  go_wp2_with fail
  refine (HRc.out _ (Below.refl _ _)).mono ?_
  rintro e w1 ⟨ar, cr, rfl, rr, hb⟩
  have B1 := Lib.hid (up B0.out hb)
  have g1 := Lib.hid (g0.out.below' hb)
  have rr1 := Lib.hid rr
  clear B0 g0 hb rr
  go_wp2_with fail
  refine (HT.out _ _ _ g1.out rr1.out).mono ?_
  rintro e w2 ⟨a7, c7, rfl, rt, hb⟩
  have B2 := Lib.hid (up B1.out hb)
  have g2 := Lib.hid (g1.out.below' hb)
  have rr2 := Lib.hid (rr1.out.go hb)
  have rt2 := Lib.hid rt
  clear B1 g1 rr1 hb rt
  go_wp2_with fail
  refine abs_w (fun W => Below w2.heap.size w2 W ∧ Blk w2.heap.size (.cells #[.slice a7 t.length c7, .int .i64 0] 27 (0, 0)) W) ⟨by (repeat (first | exact Below.refl _ _ | assumption | (refine Below.drew ?_) | (refine below_drewN ?_ _) | (refine Below.alloc ?_ (by first | (simp; done) | (simp; omega) | omega) _) | (refine Below.setCell ?_ (by first | (simp; done) | (simp; omega) | omega) _) | (refine Below.trans ?_ (Below.mono (by assumption) (by first | (simp; done) | (simp; omega) | omega))))), Blk.new _ _⟩ ?_
  rintro w3 ⟨u3, b3⟩
  have U3 := Lib.hid u3
  have B3 := Lib.hid b3
  clear u3 b3
  go_loopw [6, 22] (fun nv i wr => ∃ k : Nat, k ≤ K ∧ i = .int .i64 k ∧ nv = .int .i64 (offR rs k : Nat) ∧ Below w2.heap.size w2 wr ∧ Blk w2.heap.size (.cells #[.slice a7 t.length c7, .int .i64 0] 27 (0, 0)) wr) (fun _ i _ => K - (intOf i).toNat)
  case atStart => exact ⟨0, by omega, rfl, by rw [Hz.out]; rfl, U3.out, B3.out⟩
  case round =>
    obtain ⟨k, hk, rfl, rfl, hb, bt⟩ := hrel
    clear U3 B3
    have q0 : wr.cell? ⟨w2.heap.size, 0, none⟩ = some (.slice a7 t.length c7) := bt.cell 0
    have qz := bt.lt
    by_cases hlt : k < K
    · obtain ⟨b, off, rfl, hAb, hbs, hcs⟩ := (rr2.out.go hb).recs (by omega)
      have hkl : k < rs.length := by have := Hlen.out; omega
      obtain ⟨xa, xn, xc, x1, hx, d0, d1⟩ := hcs k hkl
      have x0 := (Hrs.out rs[k] (List.getElem_mem hkl)).1
      have hnx := Hnx.out k hkl
      have hl1 := Hle.out (k + 1)
      have hh := HH.out k hkl (by omega)
      have hrl := rec_len x0
      have HE := Lib.hid (fun W (u : Below wr.heap.size wr W) => encRecord_go rs[k] xa xn xc W (g2.out.go (up hb u)) (hx.go u) x1 x0)
      generalize rs[k] = rr at *
      generalize hN : (recB rr).length = N at *
      generalize offR rs k = at_ at *
      obtain ⟨b7, off7, rfl, hA7, hb7, hc7⟩ := (rt2.out.go hb).byte (by omega)
      obtain ⟨c0, c1, c2⟩ := hdr_read hrl.1 hh hc7
      have HC := Lib.hid (And.intro c0 (And.intro c1 c2))
      have HB := Lib.hid hb
      have HBt := Lib.hid bt
      clear hcs hx hb bt c0 c1 c2 hh hc7 x0 x1
      go_wp2_with fail
      refine abs_run (fun W => Below wr.heap.size wr W) (by (repeat (first | exact Below.refl _ _ | assumption | (refine Below.drew ?_) | (refine below_drewN ?_ _) | (refine Below.alloc ?_ (by first | (simp; done) | (simp; omega) | omega) _) | (refine Below.setCell ?_ (by first | (simp; done) | (simp; omega) | omega) _) | (refine Below.trans ?_ (Below.mono (by assumption) (by first | (simp; done) | (simp; omega) | omega)))))) ?_
      intro W u
      refine (HE.out W u).mono ?_
      rintro e W2 ⟨ae, ce, rfl, re, u2⟩
      have u3 := up u u2
      have c0 := (u3.cell (p := ⟨b7, off7 + at_, none⟩) hb7).trans HC.out.1
      have c1 := (u3.cell (p := ⟨b7, off7 + (at_ + 1), none⟩) hb7).trans HC.out.2.1
      have c2 := (u3.cell (p := ⟨b7, off7 + (at_ + 2), none⟩) hb7).trans HC.out.2.2
      have p0 : W2.cell? ⟨w2.heap.size, 0, none⟩ = some (.slice (some ⟨b7, off7, none⟩) t.length c7) := (HBt.out.go u3).cell 0
      have hz3 := u3.size
      have Hend := Lib.hid (And.intro (up HB.out u3) (HBt.out.go u3))
      have j0 : at_ + 2 < t.length := by omega
      have t1 : ((at_ : Int) + 1).toNat = at_ + 1 := by omega
      have t2 : ((at_ : Int) + 2).toNat = at_ + 2 := by omega
      have hbt := shl_or N hrl.1
      have hd1 : decide ((t.length : Int) < (at_ : Int) + 3) = false := by simp; omega
      clear u u2 u3 q0 d0 d1 HC HB HBt re HE
      go_wp2_with fail
      go_quiet (fail)
      clear hbt c0 c1 c2 p0
      go_wp2_with fail
      go_roundw
      case rel => exact ⟨k + 1, by omega, by go_num, by rw [hnx]; go_num, below_drewN Hend.out.1 _, Hend.out.2⟩
      case measure => simp [intOf]; omega
    · have hkK : k = K := by omega
      have hof : offR rs k = t.length := by rw [hkK, Hlen.out]; exact Hall.out
      rw [hof]
      have HB := Lib.hid (up B2.out hb)
      have HBt := Lib.hid bt
      have hsz := hb.size
      clear hb bt hof
      go_wp2_with fail
      refine (HA.out _ _ _ _ _ rfl _).mono ?_
      rintro e W ⟨rfl, u⟩
      have p0 : W.cell? ⟨w2.heap.size, 0, none⟩ = some (.slice a7 t.length c7) := (HBt.out.go u).cell 0
      have l0 := (HBt.out.go u).lt
      have HU := Lib.hid (up HB.out u)
      clear u q0
      go_wp2_with fail
      go_ret
      exact ⟨rfl, up HU.out (by (repeat (first | exact Below.refl _ _ | assumption | (refine Below.drew ?_) | (refine below_drewN ?_ _) | (refine Below.alloc ?_ (by first | (simp; done) | (simp; omega) | omega) _) | (refine Below.setCell ?_ (by first | (simp; done) | (simp; omega) | omega) _) | (refine Below.trans ?_ (Below.mono (by assumption) (by first | (simp; done) | (simp; omega) | omega))))))⟩
end Go.Proofs.YtdbdhpjjndhjiaaDoor
