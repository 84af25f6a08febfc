/- The walk of ComposeThree. -/
import Derived.Test.YtajijhnnnekhmaaDoorCoLaw
import Derived.Test.YtajijhnnnekhmaaDoorTells
set_option linter.unusedSimpArgs false
namespace Go.Proofs.YtajijhnnnekhmaaDoor
open Go.RowKit

set_option maxRecDepth 100000 in
set_option maxHeartbeats 4000000 in
theorem composeThree_walk (w : World) (hg : Good w) (s : Str) (hs : s.size ≤ maxLen) (a1 : Option Addr) (n1 c1 : Nat) (l1 : List Raw) (r1 : RdS (· < w.heap.size) w l1 a1 n1 c1) (a2 : Option Addr) (n2 c2 : Nat) (l2 : List Raw) (r2 : RdS (· < w.heap.size) w l2 a2 n2 c2) (a3 : Option Addr) (n3 c3 : Nat) (l3 : List Raw) (r3 : RdS (· < w.heap.size) w l3 a3 n3 c3) :
    Calls Tryd.prog 8 #[.string s, .slice a1 n1 c1, .slice a2 n2 c2, .slice a3 n3 c3] w fun e w' => e = .returned (.bool true) ∧ Below w.heap.size w w' := by
  have HTe := Lib.hid tells_any
  have HL := Lib.hid (fun W => letters_any s 20 W hs (by omega))
  obtain ⟨t0, t1, t2, t3⟩ := letters_ok s 20 (by omega)
  generalize letters s 20 = T at *
  have HR := Lib.hid (fun W => runes_any T W (by omega))
  obtain ⟨o0, o1, o2, o3⟩ := mkOp_ok (rc T) l1 t1 (by omega)
  have HO := Lib.hid (fun W (h : RdS (· < W.heap.size) W l1 a1 n1 c1) => mkOp_go (rc T) l1 a1 n1 c1 W h t1 (by omega))
  generalize mkOp (rc T) l1 = o at *
  obtain ⟨q0, q1, q2, q3⟩ := mkOp_ok (sumT o) l2 o2 (by omega)
  have HQ := Lib.hid (fun W (h : RdS (· < W.heap.size) W l2 a2 n2 c2) => mkOp_go (sumT o) l2 a2 n2 c2 W h o2 (by omega))
  generalize mkOp (sumT o) l2 = q at *
  obtain ⟨p0, p1, p2, p3⟩ := mkOp_ok (sumT q) l3 q2 (by omega)
  have HP := Lib.hid (fun W (h : RdS (· < W.heap.size) W l3 a3 n3 c3) => mkOp_go (sumT q) l3 a3 n3 c3 W h q2 (by omega))
  generalize mkOp (sumT q) l3 = p at *
  obtain ⟨x0, x1, x2, -⟩ := co_laws o0 q0 (by omega)
  obtain ⟨y0, y1, y2, -⟩ := co_laws q0 p0 (by omega)
  obtain ⟨u0, u1, u2, -⟩ := co_laws x0 p0 (by omega)
  obtain ⟨v0, v1, v2, -⟩ := co_laws o0 y0 (by omega)
  obtain ⟨A1, A2, A3, A4, A5, A6⟩ := apply_good t0 o0 o1
  obtain ⟨E1, E2⟩ := co_apply t0 o0 q0 o1 (by omega)
  obtain ⟨F1, F2⟩ := co_apply t0 x0 p0 (by omega) (by omega)
  obtain ⟨G1, G2⟩ := co_apply t0 o0 y0 o1 (by omega)
  obtain ⟨J1, J2⟩ := co_apply A5 q0 p0 (by omega) (by omega)
  have hlast : applyS T (coOp o (coOp q p)) = applyS T (coOp (coOp o q) p) := by rw [F2, G2, J2, E2]
  have HLo := Lib.hid (fun a n c W hr => lengths_go o a n c W hr o0)
  have HLq := Lib.hid (fun a n c W hr => lengths_go q a n c W hr q0)
  have HC1 := Lib.hid (fun a b n c m d W hg h1 h2 => compose_go o q a b n c m d W hg h1 h2 o0 q0 (by omega))
  have HC2 := Lib.hid (fun a b n c m d W hg h1 h2 => compose_go q p a b n c m d W hg h1 h2 q0 p0 (by omega))
  have HC3 := Lib.hid (fun a b n c m d W hg h1 h2 => compose_go (coOp o q) p a b n c m d W hg h1 h2 x0 p0 (by omega))
  have HC4 := Lib.hid (fun a b n c m d W hg h1 h2 => compose_go o (coOp q p) a b n c m d W hg h1 h2 o0 y0 (by omega))
  have HA1 := Lib.hid (fun a n c W hg hr => apply_any T (coOp (coOp o q) p) a n c W hg hr (by omega))
  have HA2 := Lib.hid (fun a n c W hg hr => apply_any T (coOp o (coOp q p)) a n c W hg hr (by omega))
  rw [F1] at HA1
  rw [G1, hlast] at HA2
  have g0 := Lib.hid hg
  have B0 := Lib.hid (Below.refl w.heap.size w)
  have ra0 := Lib.hid r1
  have rb0 := Lib.hid r2
  have rd0 := Lib.hid r3
  clear t0 t1 t2 t3 o0 o1 o2 o3 q0 q1 q2 q3 p0 p1 p2 p3 x0 x1 x2 y0 y1 y2 u0 u1 u2 v0 v1 v2 A1 A2 A3 A4 A5 A6 E1 E2 F1 F2 G1 G2 J1 J2 hlast r1 r2 r3 hg hs
  generalize applyS T (coOp (coOp o q) p) = V at *
  generalize coOp (coOp o q) p = X at *
  generalize coOp o (coOp q p) = Y at *
  generalize coOp o q = OQ at *
  generalize coOp q p = QP at *
  generalize rc T = R at *
  generalize sumT o = so at *
  generalize sumF o = fo at *
  generalize sumT q = sq at *
  generalize sumF q = fq at *
  generalize o.length = lo at *
  generalize q.length = lq at *
  generalize p.length = lp at *
  generalize X.length = lx at *
  generalize Y.length = ly at *
  generalize OQ.length = loq at *
  generalize QP.length = lqp at *
  go_enter Tryd.func8, Tryd.ntmps8
  go_wp2_with fail
  refine (HTe.out _ g0.out).mono ?_
  rintro e w1 ⟨rfl, hb⟩
  have B1 := Lib.hid (up B0.out hb)
  have g1 := Lib.hid (g0.out.below' hb)
  have ra1 := Lib.hid (ra0.out.go hb)
  have rb1 := Lib.hid (rb0.out.go hb)
  have rd1 := Lib.hid (rd0.out.go hb)
  clear B0 g0 ra0 rb0 rd0 hb
  go_wp2_with fail
  refine (HL.out _).mono ?_
  rintro e w2 ⟨rfl, hb⟩
  have B2 := Lib.hid (up B1.out hb)
  have g2 := Lib.hid (g1.out.below' hb)
  have ra2 := Lib.hid (ra1.out.go hb)
  have rb2 := Lib.hid (rb1.out.go hb)
  have rd2 := Lib.hid (rd1.out.go hb)
  clear B1 g1 ra1 rb1 rd1 hb
  go_wp2_with fail
  refine (HR.out _).mono ?_
  rintro e w3 ⟨rfl, hb⟩
  have B3 := Lib.hid (up B2.out hb)
  have g3 := Lib.hid (g2.out.below' hb)
  have ra3 := Lib.hid (ra2.out.go hb)
  have rb3 := Lib.hid (rb2.out.go hb)
  have rd3 := Lib.hid (rd2.out.go hb)
  clear B2 g2 ra2 rb2 rd2 hb
  go_wp2_with fail
  refine (HO.out _ ra3.out).mono ?_
  rintro e w4 ⟨ao, co, rfl, ro, hb⟩
  have B4 := Lib.hid (up B3.out hb)
  have g4 := Lib.hid (g3.out.below' hb)
  have ra4 := Lib.hid (ra3.out.go hb)
  have rb4 := Lib.hid (rb3.out.go hb)
  have rd4 := Lib.hid (rd3.out.go hb)
  have ro4 := Lib.hid ro
  clear B3 g3 ra3 rb3 rd3 hb ro
  clear ra4
  go_wp2_with fail
  refine (HLo.out _ _ _ _ ro4.out).mono ?_
  rintro e w5 ⟨rfl, hb⟩
  have B5 := Lib.hid (up B4.out hb)
  have g5 := Lib.hid (g4.out.below' hb)
  have rb5 := Lib.hid (rb4.out.go hb)
  have rd5 := Lib.hid (rd4.out.go hb)
  have ro5 := Lib.hid (ro4.out.go hb)
  clear B4 g4 rb4 rd4 ro4 hb
  go_wp2_with fail
  refine (HQ.out _ rb5.out).mono ?_
  rintro e w6 ⟨aq, cq, rfl, rq, hb⟩
  have B6 := Lib.hid (up B5.out hb)
  have g6 := Lib.hid (g5.out.below' hb)
  have rb6 := Lib.hid (rb5.out.go hb)
  have rd6 := Lib.hid (rd5.out.go hb)
  have ro6 := Lib.hid (ro5.out.go hb)
  have rq6 := Lib.hid rq
  clear B5 g5 rb5 rd5 ro5 hb rq
  clear rb6
  go_wp2_with fail
  refine (HLq.out _ _ _ _ rq6.out).mono ?_
  rintro e w7 ⟨rfl, hb⟩
  have B7 := Lib.hid (up B6.out hb)
  have g7 := Lib.hid (g6.out.below' hb)
  have rd7 := Lib.hid (rd6.out.go hb)
  have ro7 := Lib.hid (ro6.out.go hb)
  have rq7 := Lib.hid (rq6.out.go hb)
  clear B6 g6 rd6 ro6 rq6 hb
  go_wp2_with fail
  refine (HP.out _ rd7.out).mono ?_
  rintro e w8 ⟨ap, cp, rfl, rp, hb⟩
  have B8 := Lib.hid (up B7.out hb)
  have g8 := Lib.hid (g7.out.below' hb)
  have rd8 := Lib.hid (rd7.out.go hb)
  have ro8 := Lib.hid (ro7.out.go hb)
  have rq8 := Lib.hid (rq7.out.go hb)
  have rp8 := Lib.hid rp
  clear B7 g7 rd7 ro7 rq7 hb rp
  clear rd8
  go_wp2_with fail
  refine (HC1.out _ _ _ _ _ _ _ g8.out ro8.out rq8.out).mono ?_
  rintro e w9 ⟨ax, cx, rfl, rx, hb⟩
  have B9 := Lib.hid (up B8.out hb)
  have g9 := Lib.hid (g8.out.below' hb)
  have ro9 := Lib.hid (ro8.out.go hb)
  have rq9 := Lib.hid (rq8.out.go hb)
  have rp9 := Lib.hid (rp8.out.go hb)
  have rx9 := Lib.hid rx
  clear B8 g8 ro8 rq8 rp8 hb rx
  go_wp2_with fail
  refine (HC2.out _ _ _ _ _ _ _ g9.out rq9.out rp9.out).mono ?_
  rintro e w10 ⟨ay, cy, rfl, ry, hb⟩
  have B10 := Lib.hid (up B9.out hb)
  have g10 := Lib.hid (g9.out.below' hb)
  have ro10 := Lib.hid (ro9.out.go hb)
  have rq10 := Lib.hid (rq9.out.go hb)
  have rp10 := Lib.hid (rp9.out.go hb)
  have rx10 := Lib.hid (rx9.out.go hb)
  have ry10 := Lib.hid ry
  clear B9 g9 ro9 rq9 rp9 rx9 hb ry
  go_wp2_with fail
  refine (HC3.out _ _ _ _ _ _ _ g10.out rx10.out rp10.out).mono ?_
  rintro e w11 ⟨au, cu, rfl, ru, hb⟩
  have B11 := Lib.hid (up B10.out hb)
  have g11 := Lib.hid (g10.out.below' hb)
  have ro11 := Lib.hid (ro10.out.go hb)
  have rq11 := Lib.hid (rq10.out.go hb)
  have rp11 := Lib.hid (rp10.out.go hb)
  have rx11 := Lib.hid (rx10.out.go hb)
  have ry11 := Lib.hid (ry10.out.go hb)
  have ru11 := Lib.hid ru
  clear B10 g10 ro10 rq10 rp10 rx10 ry10 hb ru
  go_wp2_with fail
  refine (HC4.out _ _ _ _ _ _ _ g11.out ro11.out ry11.out).mono ?_
  rintro e w12 ⟨av, cv, rfl, rv, hb⟩
  have B12 := Lib.hid (up B11.out hb)
  have g12 := Lib.hid (g11.out.below' hb)
  have ro12 := Lib.hid (ro11.out.go hb)
  have rq12 := Lib.hid (rq11.out.go hb)
  have rp12 := Lib.hid (rp11.out.go hb)
  have rx12 := Lib.hid (rx11.out.go hb)
  have ry12 := Lib.hid (ry11.out.go hb)
  have ru12 := Lib.hid (ru11.out.go hb)
  have rv12 := Lib.hid rv
  clear B11 g11 ro11 rq11 rp11 rx11 ry11 ru11 hb rv
  go_wp2_with fail
  refine (HA1.out _ _ _ _ g12.out ru12.out).mono ?_
  rintro e w13 ⟨rfl, hb⟩
  have B13 := Lib.hid (up B12.out hb)
  have g13 := Lib.hid (g12.out.below' hb)
  have ro13 := Lib.hid (ro12.out.go hb)
  have rq13 := Lib.hid (rq12.out.go hb)
  have rp13 := Lib.hid (rp12.out.go hb)
  have rx13 := Lib.hid (rx12.out.go hb)
  have ry13 := Lib.hid (ry12.out.go hb)
  have ru13 := Lib.hid (ru12.out.go hb)
  have rv13 := Lib.hid (rv12.out.go hb)
  clear B12 g12 ro12 rq12 rp12 rx12 ry12 ru12 rv12 hb
  go_wp2_with fail
  refine (HA2.out _ _ _ _ g13.out rv13.out).mono ?_
  rintro e w14 ⟨rfl, hb⟩
  have B14 := Lib.hid (up B13.out hb)
  have g14 := Lib.hid (g13.out.below' hb)
  have ro14 := Lib.hid (ro13.out.go hb)
  have rq14 := Lib.hid (rq13.out.go hb)
  have rp14 := Lib.hid (rp13.out.go hb)
  have rx14 := Lib.hid (rx13.out.go hb)
  have ry14 := Lib.hid (ry13.out.go hb)
  have ru14 := Lib.hid (ru13.out.go hb)
  have rv14 := Lib.hid (rv13.out.go hb)
  clear B13 g13 ro13 rq13 rp13 rx13 ry13 ru13 rv13 hb
  go_wp2_with fail
  go_ret
  exact ⟨rfl, B14.out⟩
end Go.Proofs.YtajijhnnnekhmaaDoor
