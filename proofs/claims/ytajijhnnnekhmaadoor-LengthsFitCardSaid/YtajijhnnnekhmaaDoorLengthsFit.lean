/- The walk of LengthsFit. -/
import Derived.Test.YtajijhnnnekhmaaDoorCoLaw
set_option linter.unusedSimpArgs false
namespace Go.Proofs.YtajijhnnnekhmaaDoor
open Go.RowKit

set_option maxRecDepth 100000 in
set_option maxHeartbeats 4000000 in
theorem lengthsFit_walk (w : World) (hg : Good w) (s : Str) (hs : s.size ≤ maxLen) (a1 : Option Addr) (n1 c1 : Nat) (l1 : List Raw) (r1 : RdS (· < w.heap.size) w l1 a1 n1 c1) (a2 : Option Addr) (n2 c2 : Nat) (l2 : List Raw) (r2 : RdS (· < w.heap.size) w l2 a2 n2 c2) :
    Calls Tryd.prog 4 #[.string s, .slice a1 n1 c1, .slice a2 n2 c2] w fun e w' => e = .returned (.bool true) ∧ Below w.heap.size w w' := by
  have HL := Lib.hid (letters_any s 30 w hs (by omega))
  obtain ⟨t0, t1, t2, t3⟩ := letters_ok s 30 (by omega)
  generalize letters s 30 = T at *
  have HR := Lib.hid (fun W => runes_any T W (by omega))
  generalize rc T = R at *
  obtain ⟨o0, o1, o2, o3⟩ := mkOp_ok R l1 t1 (by omega)
  have HO := Lib.hid (fun W (h : RdS (· < W.heap.size) W l1 a1 n1 c1) => mkOp_go R l1 a1 n1 c1 W h t1 (by omega))
  generalize mkOp R l1 = o at *
  obtain ⟨q0, q1, q2, q3⟩ := mkOp_ok (sumT o) l2 o2 (by omega)
  have HQ := Lib.hid (fun W (h : RdS (· < W.heap.size) W l2 a2 n2 c2) => mkOp_go (sumT o) l2 a2 n2 c2 W h o2 (by omega))
  generalize mkOp (sumT o) l2 = q at *
  obtain ⟨z0, z1, z2, -⟩ := co_laws o0 q0 (by omega)
  obtain ⟨y0, y1, y2, y3⟩ := mkOp_ok (sumT o + 1) [] (by omega) (by omega)
  have HM := Lib.hid (fun W => mkOp_go (sumT o + 1) [] none 0 0 W (RdS.none' W) (by omega) (by omega))
  generalize mkOp (sumT o + 1) [] = M at *
  have HLo := Lib.hid (fun a n c W hr => lengths_go o a n c W hr o0)
  have HLq := Lib.hid (fun a n c W hr => lengths_go q a n c W hr q0)
  have HLz := Lib.hid (fun a n c W hr => lengths_go (coOp o q) a n c W hr z0)
  rw [o1] at HLo
  rw [z1, z2, o1] at HLz
  have HC := Lib.hid (fun a b n c m d W hg h1 h2 => compose_go o q a b n c m d W hg h1 h2 o0 q0 (by omega))
  have HB := Lib.hid (fun a b n c m d W hg h1 h2 => compose_miss o M a b n c m d W hg h1 h2 o0 y0 (by omega))
  have ho9 : sumT o ≤ 54 := by omega
  have iy1 : IntKind.i64.wrap (sumT o + 1) = sumT o + 1 := IntWalk.i64_in _ (by omega)
  have g0 := Lib.hid hg
  have B0 := Lib.hid (Below.refl w.heap.size w)
  have ra0 := Lib.hid r1
  have rb0 := Lib.hid r2
  clear t0 t1 t2 t3 o0 o1 o3 q0 q1 q2 q3 z0 z1 z2 y0 y1 y2 y3 r1 r2 hg hs
  generalize coOp o q = C at *
  generalize sumT o = so at *
  generalize sumT q = sq at *
  generalize sumF q = fq at *
  generalize o.length = lo at *
  generalize q.length = lq at *
  generalize C.length = lc at *
  generalize M.length = lm at *
  go_enter Tryd.func4, Tryd.ntmps4
  go_wp2_with fail
  refine (HL.out).mono ?_
  rintro e w1 ⟨rfl, hb⟩
  have B1 := Lib.hid (up B0.out hb)
  have g1 := Lib.hid (g0.out.below' hb)
  have ra1 := Lib.hid (ra0.out.go hb)
  have rb1 := Lib.hid (rb0.out.go hb)
  clear B0 g0 ra0 rb0 hb
  go_wp2_with fail
  refine (HR.out _).mono ?_
  rintro e w2 ⟨rfl, hb⟩
  have B2 := Lib.hid (up B1.out hb)
  have g2 := Lib.hid (g1.out.below' hb)
  have ra2 := Lib.hid (ra1.out.go hb)
  have rb2 := Lib.hid (rb1.out.go hb)
  clear B1 g1 ra1 rb1 hb
  go_wp2_with fail
  refine (HO.out _ ra2.out).mono ?_
  rintro e w3 ⟨ao, co, rfl, ro, hb⟩
  have B3 := Lib.hid (up B2.out hb)
  have g3 := Lib.hid (g2.out.below' hb)
  have ra3 := Lib.hid (ra2.out.go hb)
  have rb3 := Lib.hid (rb2.out.go hb)
  have ro3 := Lib.hid ro
  clear B2 g2 ra2 rb2 hb ro
  clear ra3
  go_wp2_with fail
  refine (HLo.out _ _ _ _ ro3.out).mono ?_
  rintro e w4 ⟨rfl, hb⟩
  have B4 := Lib.hid (up B3.out hb)
  have g4 := Lib.hid (g3.out.below' hb)
  have rb4 := Lib.hid (rb3.out.go hb)
  have ro4 := Lib.hid (ro3.out.go hb)
  clear B3 g3 rb3 ro3 hb
  go_wp2_with fail
  refine (HQ.out _ rb4.out).mono ?_
  rintro e w5 ⟨aq, cq, rfl, rq, hb⟩
  have B5 := Lib.hid (up B4.out hb)
  have g5 := Lib.hid (g4.out.below' hb)
  have rb5 := Lib.hid (rb4.out.go hb)
  have ro5 := Lib.hid (ro4.out.go hb)
  have rq5 := Lib.hid rq
  clear B4 g4 rb4 ro4 hb rq
  clear rb5
  go_wp2_with fail
  refine (HLq.out _ _ _ _ rq5.out).mono ?_
  rintro e w6 ⟨rfl, hb⟩
  have B6 := Lib.hid (up B5.out hb)
  have g6 := Lib.hid (g5.out.below' hb)
  have ro6 := Lib.hid (ro5.out.go hb)
  have rq6 := Lib.hid (rq5.out.go hb)
  clear B5 g5 ro5 rq5 hb
  go_wp2_with fail
  refine (HC.out _ _ _ _ _ _ _ g6.out ro6.out rq6.out).mono ?_
  rintro e w7 ⟨ac, cc, rfl, rc, hb⟩
  have B7 := Lib.hid (up B6.out hb)
  have g7 := Lib.hid (g6.out.below' hb)
  have ro7 := Lib.hid (ro6.out.go hb)
  have rq7 := Lib.hid (rq6.out.go hb)
  have rc7 := Lib.hid rc
  clear B6 g6 ro6 rq6 hb rc
  go_wp2_with fail
  refine (HLz.out _ _ _ _ rc7.out).mono ?_
  rintro e w8 ⟨rfl, hb⟩
  have B8 := Lib.hid (up B7.out hb)
  have g8 := Lib.hid (g7.out.below' hb)
  have ro8 := Lib.hid (ro7.out.go hb)
  have rq8 := Lib.hid (rq7.out.go hb)
  have rc8 := Lib.hid (rc7.out.go hb)
  clear B7 g7 ro7 rq7 rc7 hb
  go_wp2_with fail
  refine (HM.out _).mono ?_
  rintro e w9 ⟨am, cm, rfl, rm, hb⟩
  have B9 := Lib.hid (up B8.out hb)
  have g9 := Lib.hid (g8.out.below' hb)
  have ro9 := Lib.hid (ro8.out.go hb)
  have rq9 := Lib.hid (rq8.out.go hb)
  have rc9 := Lib.hid (rc8.out.go hb)
  have rm9 := Lib.hid rm
  clear B8 g8 ro8 rq8 rc8 hb rm
  go_wp2_with fail
  refine (HB.out _ _ _ _ _ _ _ g9.out ro9.out rm9.out).mono ?_
  rintro e w10 ⟨rfl, hb⟩
  have B10 := Lib.hid (up B9.out hb)
  have g10 := Lib.hid (g9.out.below' hb)
  have ro10 := Lib.hid (ro9.out.go hb)
  have rq10 := Lib.hid (rq9.out.go hb)
  have rc10 := Lib.hid (rc9.out.go hb)
  have rm10 := Lib.hid (rm9.out.go hb)
  clear B9 g9 ro9 rq9 rc9 rm9 hb
  go_wp2_with fail
  go_ret
  exact ⟨rfl, B10.out⟩
end Go.Proofs.YtajijhnnnekhmaaDoor
