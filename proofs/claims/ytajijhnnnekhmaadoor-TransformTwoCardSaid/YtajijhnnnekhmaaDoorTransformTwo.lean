/- The walk of TransformTwo. -/
import Derived.Test.YtajijhnnnekhmaaDoorCoLaw
import Derived.Test.YtajijhnnnekhmaaDoorTells
set_option linter.unusedSimpArgs false
namespace Go.Proofs.YtajijhnnnekhmaaDoor
open Go.RowKit

set_option maxRecDepth 100000 in
set_option maxHeartbeats 5000000 in
theorem transformTwo_walk (w : World) (hg : Good w) (s : Str) (hs : s.size ≤ maxLen) (a1 : Option Addr) (n1 c1 : Nat) (l1 : List Raw) (r1 : RdS (· < w.heap.size) w l1 a1 n1 c1) (a : Int) (ha : I64 a) (b : Int) (hb : I64 b) :
    Calls Tryd.prog 13 #[.string s, .slice a1 n1 c1, .int .i64 a, .int .i64 b] w fun e w' => e = .returned (.bool true) ∧ Below w.heap.size w w' := by
  have HTe := Lib.hid tells_any
  have HL := Lib.hid (fun W => letters_any s 30 W hs (by omega))
  obtain ⟨t0, t1, t2, t3⟩ := letters_ok s 30 (by omega)
  generalize letters s 30 = T at *
  have HR := Lib.hid (fun W => runes_any T W (by omega))
  obtain ⟨n, hn⟩ : ∃ n : Nat, (n : Int) = rc T := ⟨(rc T).toNat, by omega⟩
  rw [← hn] at HR t1 t2
  obtain ⟨o0, o1, o2, o3⟩ := mkOp_ok (n : Int) l1 t1 (by omega)
  have HO := Lib.hid (fun W (h : RdS (· < W.heap.size) W l1 a1 n1 c1) => mkOp_go (n : Int) l1 a1 n1 c1 W h t1 (by omega))
  generalize mkOp (n : Int) l1 = o at *
  have hk1 := pk_range a ((n : Int) + 1) (by omega)
  have HP := Lib.hid (fun W => (picked_any a ((n : Int) + 1) W ha (by omega) (by omega)).mono fun e w' (h : e = .returned (.int .i64 (pk a ((n : Int) + 1))) ∧ W = w') => (⟨h.1, h.2 ▸ Below.refl _ _⟩ : e = .returned (.int .i64 (pk a ((n : Int) + 1))) ∧ Below W.heap.size W w'))
  generalize pk a ((n : Int) + 1) = K at *
  obtain ⟨k, rfl⟩ : ∃ k : Nat, K = (k : Int) := ⟨K.toNat, by omega⟩
  have hkn : k ≤ n := by omega
  have hn30 : n ≤ 30 := by omega
  obtain ⟨x0, x1, x2, x3⟩ := cut_laws n k hkn (by omega)
  have HX := Lib.hid (fun W => cutOut_any n k W hkn (by omega))
  generalize cutO n k = x at *
  obtain ⟨m, hm⟩ : ∃ m : Nat, m = n - min (n - k) 1 := ⟨_, rfl⟩
  have hmn : m ≤ n := by omega
  rw [← hm] at x2
  have hk2 := pk_range b ((m : Int) + 1) (by omega)
  have HQ := Lib.hid (fun W => (picked_any b ((m : Int) + 1) W hb (by omega) (by omega)).mono fun e w' (h : e = .returned (.int .i64 (pk b ((m : Int) + 1))) ∧ W = w') => (⟨h.1, h.2 ▸ Below.refl _ _⟩ : e = .returned (.int .i64 (pk b ((m : Int) + 1))) ∧ Below W.heap.size W w'))
  generalize pk b ((m : Int) + 1) = J at *
  obtain ⟨j, rfl⟩ : ∃ j : Nat, J = (j : Int) := ⟨J.toNat, by omega⟩
  have hjm : j ≤ m := by omega
  obtain ⟨y0, y1, y2, y3⟩ := cut_laws m j hjm (by omega)
  have HY := Lib.hid (fun W => cutOut_any m j W hjm (by omega))
  generalize cutO m j = y at *
  have y4 : sumT y ≤ 30 := by rw [y2]; omega
  have y5 : 0 ≤ sumT y := by rw [y2]; omega
  clear y2
  obtain ⟨z0, z1, z2, -⟩ := co_laws x0 y0 (by omega)
  obtain ⟨p0, q0, p1, q1, pq, p2, p3, -⟩ := tr_laws o0 x0 (by omega) (by omega)
  obtain ⟨r0, s0, r1', s1, rs, r2, r3, -⟩ := tr_laws p0 y0 (by omega) (by omega)
  obtain ⟨T1, T2⟩ := tr_two o0 x0 y0 x3 y3 (by omega) (by omega) (by omega)
  have HLx := Lib.hid (fun a n c W hr => lengths_go x a n c W hr x0)
  rw [x2] at HLx
  have HC1 := Lib.hid (fun a b n c m d W hg h1 h2 => compose_go x y a b n c m d W hg h1 h2 x0 y0 (by omega))
  have HT1 := Lib.hid (fun W a n c b m d hg h1 h2 => transform_go o x a b n c m d W hg h1 h2 o0 x0 (by omega) (by omega))
  have HT2 := Lib.hid (fun W a n c b m d hg h1 h2 => transform_go (trX o x) y a b n c m d W hg h1 h2 p0 y0 (by omega) (by omega))
  have HT3 := Lib.hid (fun W a n c b m d hg h1 h2 => transform_go o (coOp x y) a b n c m d W hg h1 h2 o0 z0 (by omega) (by omega))
  have HC2 := Lib.hid (fun a b n c m d W hg h1 h2 => compose_go (trY o x) (trY (trX o x) y) a b n c m d W hg h1 h2 q0 s0 (by omega))
  rw [T1] at HT2
  rw [T2] at HC2
  have HS1 := Lib.hid (fun a b n c m d W hr1 hr2 => sameOp_ok (trX o (coOp x y)) a b n c m d W hr1 hr2)
  have HS2 := Lib.hid (fun a b n c m d W hr1 hr2 => sameOp_ok (trY o (coOp x y)) a b n c m d W hr1 hr2)
  have g0 := Lib.hid hg
  have B0 := Lib.hid (Below.refl w.heap.size w)
  have ra0 := Lib.hid r1
  clear t0 t3 o0 o1 o2 o3 x0 x1 x2 x3 y0 y1 y3 y4 y5 z0 z1 z2 p0 q0 p1 q1 pq p2 p3 r0 s0 r1' s1 rs r2 r3 T1 T2 r1 hg hs hm hn ha hb
  generalize trX o (coOp x y) = P2 at *
  generalize trY o (coOp x y) = W2 at *
  generalize trY (trX o x) y = Q2 at *
  generalize trX o x = P1 at *
  generalize trY o x = Q1 at *
  generalize coOp x y = z at *
  generalize sumF x = fx at *
  generalize o.length = lo at *
  generalize x.length = lx at *
  generalize y.length = ly at *
  generalize z.length = lz at *
  generalize P1.length = lp1 at *
  generalize P2.length = lp2 at *
  generalize Q1.length = lq1 at *
  generalize Q2.length = lq2 at *
  generalize W2.length = lw at *
  go_enter Tryd.func13, Tryd.ntmps13
  go_wp2_with fail
  refine (HTe.out _ g0.out).mono ?_
  rintro e w1 ⟨rfl, hb⟩
  have B1 := Lib.hid (up B0.out hb)
  have g1 := Lib.hid (g0.out.below' hb)
  have ra1 := Lib.hid (ra0.out.go hb)
  clear B0 g0 ra0 hb
  go_wp2_with fail
  refine (HL.out _).mono ?_
  rintro e w2 ⟨rfl, hb⟩
  have B2 := Lib.hid (up B1.out hb)
  have g2 := Lib.hid (g1.out.below' hb)
  have ra2 := Lib.hid (ra1.out.go hb)
  clear B1 g1 ra1 hb
  go_wp2_with fail
  refine (HR.out _).mono ?_
  rintro e w3 ⟨rfl, hb⟩
  have B3 := Lib.hid (up B2.out hb)
  have g3 := Lib.hid (g2.out.below' hb)
  have ra3 := Lib.hid (ra2.out.go hb)
  clear B2 g2 ra2 hb
  go_wp2_with fail
  refine (HO.out _ ra3.out).mono ?_
  rintro e w4 ⟨ao, co, rfl, ro, hb⟩
  have B4 := Lib.hid (up B3.out hb)
  have g4 := Lib.hid (g3.out.below' hb)
  have ra4 := Lib.hid (ra3.out.go hb)
  have ro4 := Lib.hid ro
  clear B3 g3 ra3 hb ro
  clear ra4
  go_wp2_with fail
  refine (HP.out _).mono ?_
  rintro e w5 ⟨rfl, hb⟩
  have B5 := Lib.hid (up B4.out hb)
  have g5 := Lib.hid (g4.out.below' hb)
  have ro5 := Lib.hid (ro4.out.go hb)
  clear B4 g4 ro4 hb
  go_wp2_with fail
  refine (HX.out _).mono ?_
  rintro e w6 ⟨ax, cx, rfl, rx, hb⟩
  have B6 := Lib.hid (up B5.out hb)
  have g6 := Lib.hid (g5.out.below' hb)
  have ro6 := Lib.hid (ro5.out.go hb)
  have rx6 := Lib.hid rx
  clear B5 g5 ro5 hb rx
  go_wp2_with fail
  refine (HLx.out _ _ _ _ rx6.out).mono ?_
  rintro e w7 ⟨rfl, hb⟩
  have B7 := Lib.hid (up B6.out hb)
  have g7 := Lib.hid (g6.out.below' hb)
  have ro7 := Lib.hid (ro6.out.go hb)
  have rx7 := Lib.hid (rx6.out.go hb)
  clear B6 g6 ro6 rx6 hb
  go_wp2_with fail
  refine (HQ.out _).mono ?_
  rintro e w8 ⟨rfl, hb⟩
  have B8 := Lib.hid (up B7.out hb)
  have g8 := Lib.hid (g7.out.below' hb)
  have ro8 := Lib.hid (ro7.out.go hb)
  have rx8 := Lib.hid (rx7.out.go hb)
  clear B7 g7 ro7 rx7 hb
  go_wp2_with fail
  refine (HY.out _).mono ?_
  rintro e w9 ⟨ay, cy, rfl, ry, hb⟩
  have B9 := Lib.hid (up B8.out hb)
  have g9 := Lib.hid (g8.out.below' hb)
  have ro9 := Lib.hid (ro8.out.go hb)
  have rx9 := Lib.hid (rx8.out.go hb)
  have ry9 := Lib.hid ry
  clear B8 g8 ro8 rx8 hb ry
  go_wp2_with fail
  refine (HC1.out _ _ _ _ _ _ _ g9.out rx9.out ry9.out).mono ?_
  rintro e w10 ⟨az, cz, rfl, rz, hb⟩
  have B10 := Lib.hid (up B9.out hb)
  have g10 := Lib.hid (g9.out.below' hb)
  have ro10 := Lib.hid (ro9.out.go hb)
  have rx10 := Lib.hid (rx9.out.go hb)
  have ry10 := Lib.hid (ry9.out.go hb)
  have rz10 := Lib.hid rz
  clear B9 g9 ro9 rx9 ry9 hb rz
  go_wp2_with fail
  refine (HT1.out _ _ _ _ _ _ _ g10.out ro10.out rx10.out).mono ?_
  rintro e w11 ⟨ap, cp, aq, cq, rfl, rp, rq, hb⟩
  have B11 := Lib.hid (up B10.out hb)
  have g11 := Lib.hid (g10.out.below' hb)
  have ro11 := Lib.hid (ro10.out.go hb)
  have rx11 := Lib.hid (rx10.out.go hb)
  have ry11 := Lib.hid (ry10.out.go hb)
  have rz11 := Lib.hid (rz10.out.go hb)
  have rp11 := Lib.hid rp
  have rq11 := Lib.hid rq
  clear B10 g10 ro10 rx10 ry10 rz10 hb rp rq
  clear rx11
  go_wp2_with fail
  refine (HT2.out _ _ _ _ _ _ _ g11.out rp11.out ry11.out).mono ?_
  rintro e w12 ⟨au, cu, av, cv, rfl, ru, rv, hb⟩
  have B12 := Lib.hid (up B11.out hb)
  have g12 := Lib.hid (g11.out.below' hb)
  have ro12 := Lib.hid (ro11.out.go hb)
  have ry12 := Lib.hid (ry11.out.go hb)
  have rz12 := Lib.hid (rz11.out.go hb)
  have rp12 := Lib.hid (rp11.out.go hb)
  have rq12 := Lib.hid (rq11.out.go hb)
  have ru12 := Lib.hid ru
  have rv12 := Lib.hid rv
  clear B11 g11 ro11 ry11 rz11 rp11 rq11 hb ru rv
  clear rp12
  clear ry12
  go_wp2_with fail
  refine (HT3.out _ _ _ _ _ _ _ g12.out ro12.out rz12.out).mono ?_
  rintro e w13 ⟨am, cm, aw, cw, rfl, rm, rww, hb⟩
  have B13 := Lib.hid (up B12.out hb)
  have g13 := Lib.hid (g12.out.below' hb)
  have ro13 := Lib.hid (ro12.out.go hb)
  have rz13 := Lib.hid (rz12.out.go hb)
  have rq13 := Lib.hid (rq12.out.go hb)
  have ru13 := Lib.hid (ru12.out.go hb)
  have rv13 := Lib.hid (rv12.out.go hb)
  have rm13 := Lib.hid rm
  have rww13 := Lib.hid rww
  clear B12 g12 ro12 rz12 rq12 ru12 rv12 hb rm rww
  go_wp2_with fail
  refine (HC2.out _ _ _ _ _ _ _ g13.out rq13.out rv13.out).mono ?_
  rintro e w14 ⟨ae, ce, rfl, re, hb⟩
  have B14 := Lib.hid (up B13.out hb)
  have g14 := Lib.hid (g13.out.below' hb)
  have ro14 := Lib.hid (ro13.out.go hb)
  have rz14 := Lib.hid (rz13.out.go hb)
  have rq14 := Lib.hid (rq13.out.go hb)
  have ru14 := Lib.hid (ru13.out.go hb)
  have rv14 := Lib.hid (rv13.out.go hb)
  have rm14 := Lib.hid (rm13.out.go hb)
  have rww14 := Lib.hid (rww13.out.go hb)
  have re14 := Lib.hid re
  clear B13 g13 ro13 rz13 rq13 ru13 rv13 rm13 rww13 hb re
  go_wp2_with fail
  refine (HS1.out _ _ _ _ _ _ _ ru14.out rm14.out).mono ?_
  rintro e w15 ⟨rfl, hb⟩
  have B15 := Lib.hid (up B14.out hb)
  have g15 := Lib.hid (g14.out.below' hb)
  have ro15 := Lib.hid (ro14.out.go hb)
  have rz15 := Lib.hid (rz14.out.go hb)
  have rq15 := Lib.hid (rq14.out.go hb)
  have ru15 := Lib.hid (ru14.out.go hb)
  have rv15 := Lib.hid (rv14.out.go hb)
  have rm15 := Lib.hid (rm14.out.go hb)
  have rww15 := Lib.hid (rww14.out.go hb)
  have re15 := Lib.hid (re14.out.go hb)
  clear B14 g14 ro14 rz14 rq14 ru14 rv14 rm14 rww14 re14 hb
  go_wp2_with fail
  refine (HS2.out _ _ _ _ _ _ _ re15.out rww15.out).mono ?_
  rintro e w16 ⟨rfl, hb⟩
  have B16 := Lib.hid (up B15.out hb)
  have g16 := Lib.hid (g15.out.below' hb)
  have ro16 := Lib.hid (ro15.out.go hb)
  have rz16 := Lib.hid (rz15.out.go hb)
  have rq16 := Lib.hid (rq15.out.go hb)
  have ru16 := Lib.hid (ru15.out.go hb)
  have rv16 := Lib.hid (rv15.out.go hb)
  have rm16 := Lib.hid (rm15.out.go hb)
  have rww16 := Lib.hid (rww15.out.go hb)
  have re16 := Lib.hid (re15.out.go hb)
  clear B15 g15 ro15 rz15 rq15 ru15 rv15 rm15 rww15 re15 hb
  go_wp2_with fail
  go_ret
  exact ⟨rfl, B16.out⟩
end Go.Proofs.YtajijhnnnekhmaaDoor
