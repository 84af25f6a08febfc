/- The walk of PacketFixed. -/
import Derived.Test.YtdbdhpjjndhjiaaDoorFirst
set_option linter.unusedSimpArgs false
namespace Go.Proofs.YtdbdhpjjndhjiaaDoor
open Go.RowKit

theorem decPkt_nil : decPkt [] = (noPkt, 5) := by
  have h : rdPktR ⟨[], 0⟩ = (⟨0, 0, true, 0, bareFr⟩, ⟨[], 5⟩) := by
    have t : Rd.take ⟨[], 0⟩ = (0, ⟨[], 5⟩) := rfl
    unfold rdPktR
    rw [t, take_5, take_5]; rfl
  have hd : (rdPkt []).2 = ⟨[], 5⟩ := by unfold rdPkt; rw [h]; rfl
  have hf : pktFault [] = 5 := by unfold pktFault; rw [hd]; rfl
  unfold decPkt
  rw [if_neg (by simp), if_neg (by rw [hf]; decide), hf]
set_option maxRecDepth 100000 in
set_option maxHeartbeats 6000000 in
theorem packetFixed_walk (w : World) (hg : Good w) (a2 : Option Addr) (n2 c2 : Nat) (l2 : Bs) (r2 : RdS (· < w.heap.size) w l2 a2 n2 c2) (hb0 : n2 ≤ 140737488351232) :
    Calls Tryd.prog 9 #[.slice a2 n2 c2] w fun e w' => e = .returned (.bool true) ∧ Below w.heap.size w w' := by
  have HD := Lib.hid (fun a n c W hg hr => decPkt_go l2 a n c W hg hr)
  have HD0 := Lib.hid (fun W hg => decPkt_go [] none 0 0 W hg (RdS.nil _ _))
  rw [decPkt_nil] at HD0
  have Hn2 := Lib.hid r2.1
  have hnil : w.ownsRow w.heap.size 5 1 (.slice none 0 0) ([] : Bs).length (bb []) := World.ownsRow_nil _ _ _ _
  have g0 := Lib.hid hg
  have B0 := Lib.hid (Below.refl w.heap.size w)
  have rb0 := Lib.hid r2
  clear r2 hg
  by_cases h : (decPkt l2).2 = 0
  · obtain ⟨z0, z1⟩ := pkt_inv h
    rw [h] at HD
    have HE := Lib.hid (fun a n c W hg hr => encPkt_go (decPkt l2).1 a n c W hg hr z0)
    rw [z1] at HE
    clear h z0 z1
    generalize (decPkt l2).1 = p at *
    obtain ⟨pe, pn, pb, pa, fk, fh, fe, fo, ft⟩ := p
    simp only [pktC] at *
    generalize fo.length = lx at *
    go_enter Tryd.func9, Tryd.ntmps9
    go_wp2_with (at_builtin; go_must (refine wpList_append_bytes rfl _ _ (by rfl) w.heap.size (.slice none 0 0) [] l2 (by rfl) hnil a2 n2 c2 (by rfl) rb0.out (fun _ => rfl) (by simp; omega) (by simp) ?_))
    intro aq cq w1 hown hfq hgrow
    have hb : Below w.heap.size w w1 := (Below.refl _ _).grown hgrow (by simp) (fun g hg => by simp [Value.ownBlock] at hg)
    have hown3 : w1.ownsRow w.heap.size 5 1 (.slice aq l2.length cq) l2.length (bb l2) := hown
    obtain ⟨aq3, cq3, hv3, -, rq⟩ := rd_bytes hown3 (A := (· < w1.heap.size)) (fun k hk => (hown3.lt k hk).2)
    injection hv3 with hv4 hv5 hv6
    subst hv4 hv6
    clear hv5 hown hown3 hgrow hfq hnil
    have B1 := Lib.hid (up B0.out hb)
    have g1 := Lib.hid (g0.out.below' hb)
    have rb1 := Lib.hid (rb0.out.go hb)
    have rq1 := Lib.hid rq
    clear B0 g0 rb0 hb rq
    go_wp2_with fail
    refine (HD.out _ _ _ _ g1.out rq1.out).mono ?_
    rintro e w2 ⟨ax, cx, rfl, rx, hb⟩
    have B2 := Lib.hid (up B1.out hb)
    have g2 := Lib.hid (g1.out.below' hb)
    have rb2 := Lib.hid (rb1.out.go hb)
    have rq2 := Lib.hid (rq1.out.go hb)
    have rx2 := Lib.hid rx
    clear B1 g1 rb1 rq1 hb rx
    go_wp2_with fail
    refine abs_run (fun W => Below w2.heap.size w2 W) (by (repeat (first | exact Below.refl _ _ | assumption | (refine Below.drew ?_) | (refine below_drewN ?_ _) | (refine Below.alloc ?_ (by first | (simp; done) | (simp; omega) | omega) _) | (refine Below.setCell ?_ (by first | (simp; done) | (simp; omega) | omega) _) | (refine Below.trans ?_ (Below.mono (by assumption) (by first | (simp; done) | (simp; omega) | omega)))))) ?_
    rintro w3 hb
    have B3 := Lib.hid (up B2.out hb)
    have g3 := Lib.hid (g2.out.below' hb)
    have rb3 := Lib.hid (rb2.out.go hb)
    have rq3 := Lib.hid (rq2.out.go hb)
    have rx3 := Lib.hid (rx2.out.go hb)
    clear B2 g2 rb2 rq2 rx2 hb
    refine (HE.out _ _ _ _ g3.out rx3.out).mono ?_
    rintro e w4 ⟨ad, cd, rfl, rd, hb⟩
    have B4 := Lib.hid (up B3.out hb)
    have g4 := Lib.hid (g3.out.below' hb)
    have rb4 := Lib.hid (rb3.out.go hb)
    have rq4 := Lib.hid (rq3.out.go hb)
    have rx4 := Lib.hid (rx3.out.go hb)
    have rd4 := Lib.hid rd
    clear B3 g3 rb3 rq3 rx3 hb rd
    have hcv1 := rd4.out.conv
    have hcv2 := rb4.out.conv
    generalize strOf l2 = S at *
    go_wp2_with fail
    go_ret
    exact ⟨rfl, B4.out⟩
  · have hbad := pkt_bad h
    rw [hbad] at HD
    generalize (decPkt l2).2 = F at *
    have hF1 : (F != 0) = true := by simpa using h
    have hF2 : (F == 0) = false := by simpa using h
    clear h hbad
    simp only [pktC, noPkt, bareFr] at *
    generalize noText = nt at *
    go_enter Tryd.func9, Tryd.ntmps9
    go_wp2_with (at_builtin; go_must (refine wpList_append_bytes rfl _ _ (by rfl) w.heap.size (.slice none 0 0) [] l2 (by rfl) hnil a2 n2 c2 (by rfl) rb0.out (fun _ => rfl) (by simp; omega) (by simp) ?_))
    intro aq cq w1 hown hfq hgrow
    have hb : Below w.heap.size w w1 := (Below.refl _ _).grown hgrow (by simp) (fun g hg => by simp [Value.ownBlock] at hg)
    have hown3 : w1.ownsRow w.heap.size 5 1 (.slice aq l2.length cq) l2.length (bb l2) := hown
    obtain ⟨aq3, cq3, hv3, -, rq⟩ := rd_bytes hown3 (A := (· < w1.heap.size)) (fun k hk => (hown3.lt k hk).2)
    injection hv3 with hv4 hv5 hv6
    subst hv4 hv6
    clear hv5 hown hown3 hgrow hfq hnil
    have B1 := Lib.hid (up B0.out hb)
    have g1 := Lib.hid (g0.out.below' hb)
    have rb1 := Lib.hid (rb0.out.go hb)
    have rq1 := Lib.hid rq
    clear B0 g0 rb0 hb rq
    go_wp2_with fail
    refine (HD.out _ _ _ _ g1.out rq1.out).mono ?_
    rintro e w2 ⟨ax, cx, rfl, rx, hb⟩
    have B2 := Lib.hid (up B1.out hb)
    have g2 := Lib.hid (g1.out.below' hb)
    have rb2 := Lib.hid (rb1.out.go hb)
    have rq2 := Lib.hid (rq1.out.go hb)
    have rx2 := Lib.hid rx
    clear B1 g1 rb1 rq1 hb rx
    go_wp2_with fail
    refine abs_run (fun W => Below w2.heap.size w2 W ∧ Blk w2.heap.size (.cells #[.int .i64 0, .int .i64 0, .bool false, .int .i64 0, .int .i64 0, .int .i64 0, .int .i64 0, .slice ax ([] : Op).length cx, .string nt] 55 (0, 0)) W) ⟨(by (repeat (first | exact Below.refl _ _ | assumption | (refine Below.drew ?_) | (refine below_drewN ?_ _) | (refine Below.alloc ?_ (by first | (simp; done) | (simp; omega) | omega) _) | (refine Below.setCell ?_ (by first | (simp; done) | (simp; omega) | omega) _) | (refine Below.trans ?_ (Below.mono (by assumption) (by first | (simp; done) | (simp; omega) | omega)))))), Blk.new w2 _⟩ ?_
    rintro w3 ⟨hb, bx⟩
    have B3 := Lib.hid (up B2.out hb)
    have g3 := Lib.hid (g2.out.below' hb)
    have rb3 := Lib.hid (rb2.out.go hb)
    have rq3 := Lib.hid (rq2.out.go hb)
    have rx3 := Lib.hid (rx2.out.go hb)
    have bx3 := Lib.hid bx
    clear B2 g2 rb2 rq2 rx2 hb bx
    refine (HD0.out _ g3.out).mono ?_
    rintro e w4 ⟨az, cz, rfl, -, hb⟩
    have B4 := Lib.hid (up B3.out hb)
    have g4 := Lib.hid (g3.out.below' hb)
    have rb4 := Lib.hid (rb3.out.go hb)
    have rq4 := Lib.hid (rq3.out.go hb)
    have rx4 := Lib.hid (rx3.out.go hb)
    have bx4 := Lib.hid (bx3.out.go hb)
    clear B3 g3 rb3 rq3 rx3 bx3 hb
    obtain ⟨q0, q1, q2, q3, q4, q5, q6, q7, q8⟩ := blk_cells9 bx4.out
    have l0 := bx4.out.lt
    go_wp2_with fail
    go_ret
    exact ⟨rfl, up B4.out (by (repeat (first | exact Below.refl _ _ | assumption | (refine Below.drew ?_) | (refine below_drewN ?_ _) | (refine Below.alloc ?_ (by first | (simp; done) | (simp; omega) | omega) _) | (refine Below.setCell ?_ (by first | (simp; done) | (simp; omega) | omega) _) | (refine Below.trans ?_ (Below.mono (by assumption) (by first | (simp; done) | (simp; omega) | omega))))))⟩
end Go.Proofs.YtdbdhpjjndhjiaaDoor
