/- The walk of TransformLengths. -/
import Derived.Test.YtajijhnnnekhmaaDoorTrLaw
set_option linter.unusedSimpArgs false
namespace Go.Proofs.YtajijhnnnekhmaaDoor
open Go.RowKit

set_option maxRecDepth 100000 in
set_option maxHeartbeats 3000000 in
theorem transformLengths_walk (w : World) (hg : Good w) (s : Str) (hs : s.size ≤ maxLen) (a1 : Option Addr) (n1 c1 : Nat) (l1 : List Raw) (r1 : RdS (· < w.heap.size) w l1 a1 n1 c1) (a2 : Option Addr) (n2 c2 : Nat) (l2 : List Raw) (r2 : RdS (· < w.heap.size) w l2 a2 n2 c2) :
    Calls Tryd.prog 6 #[.string s, .slice a1 n1 c1, .slice a2 n2 c2] w fun e w' => e = .returned (.bool true) ∧ Below w.heap.size w w' := by
  have HL := Lib.hid (letters_any s 30 w hs (by omega))
  obtain ⟨t0, t1, t2, t3⟩ := letters_ok s 30 (by omega)
  generalize letters s 30 = T at *
  have HR := Lib.hid (fun W => runes_any T W (by omega))
  generalize rc T = R at *
  obtain ⟨o0, o1, o2, o3⟩ := mkOp_ok R l1 t1 (by omega)
  have HO := Lib.hid (fun W (h : RdS (· < W.heap.size) W l1 a1 n1 c1) => mkOp_go R l1 a1 n1 c1 W h t1 (by omega))
  generalize mkOp R l1 = o at *
  obtain ⟨q0, q1, q2, q3⟩ := mkOp_ok R l2 t1 (by omega)
  have HQ := Lib.hid (fun W (h : RdS (· < W.heap.size) W l2 a2 n2 c2) => mkOp_go R l2 a2 n2 c2 W h t1 (by omega))
  generalize mkOp R l2 = q at *
  obtain ⟨z0, z1, z2, z3⟩ := mkOp_ok (R + 1) [] (by omega) (by omega)
  have HZ := Lib.hid (fun W => mkOp_go (R + 1) [] none 0 0 W (RdS.none' W) (by omega) (by omega))
  generalize mkOp (R + 1) [] = z at *
  have e3 : sumF o = sumF q := by omega
  have e4 : sumT o + sumT q ≤ 4000 := by omega
  obtain ⟨x0, y0, x1, y1, xy, x2, x3, -, -⟩ := tr_laws o0 q0 e3 e4
  have HT := Lib.hid (fun W a n c b m d hg h1 h2 => transform_go o q a b n c m d W hg h1 h2 o0 q0 e3 e4)
  have hbad : bothE o z = 10 := by
    unfold bothE
    rw [if_neg (by simpa using o0), if_neg (by simpa using z0), if_pos (by omega)]
  have HB := Lib.hid (fun W a n c b m d hg h1 h2 => transform_bad o z a b n c m d W hg h1 h2 (by rw [hbad]; decide))
  rw [hbad] at HB
  have HLo := Lib.hid (fun a n c W hr => lengths_go o a n c W hr o0)
  have HLq := Lib.hid (fun a n c W hr => lengths_go q a n c W hr q0)
  generalize trX o q = X at *
  generalize trY o q = Y at *
  have HLx := Lib.hid (fun a n c W hr => lengths_go X a n c W hr x0)
  have HLy := Lib.hid (fun a n c W hr => lengths_go Y a n c W hr y0)
  rw [x1] at HLx
  rw [y1, ← xy] at HLy
  have iy1 : IntKind.i64.wrap (R + 1) = R + 1 := IntWalk.i64_in _ (by omega)
  have g0 := Lib.hid hg
  have B0 := Lib.hid (Below.refl w.heap.size w)
  have ra0 := Lib.hid r1
  have rb0 := Lib.hid r2
  have E1 : (sumT q == sumT q) = true := by simp
  have E2 : (sumT o == sumT o) = true := by simp
  have E3 : (sumT X == sumT X) = true := by simp
  clear t0 t1 t2 t3 o0 o1 o2 o3 q0 q1 q2 q3 z0 z1 z2 z3 e3 e4 x0 y0 x1 y1 xy x2 x3 hbad r1 r2 hg hs
  generalize sumF o = fo at *
  generalize sumT o = tto at *
  generalize sumF q = fq at *
  generalize sumT q = tq at *
  generalize sumT X = tx at *
  generalize o.length = lo at *
  generalize q.length = lq at *
  generalize z.length = lz at *
  generalize X.length = lX at *
  generalize Y.length = lY at *
  go_enter Tryd.func6, Tryd.ntmps6
  go_wp2_with fail
  refine (HL.out).mono ?_
  rintro e w1 ⟨rfl, hb⟩
  have B1 := Lib.hid (up B0.out hb)
  have g1 := Lib.hid (g0.out.below' hb)
  have ra1 := Lib.hid (ra0.out.go hb)
  have rb1 := Lib.hid (rb0.out.go hb)
  clear B0 g0 ra0 rb0 hb
  go_wp2_with fail
  refine (HR.out _).mono ?_
  rintro e w2 ⟨rfl, hb⟩
  have B2 := Lib.hid (up B1.out hb)
  have g2 := Lib.hid (g1.out.below' hb)
  have ra2 := Lib.hid (ra1.out.go hb)
  have rb2 := Lib.hid (rb1.out.go hb)
  clear B1 g1 ra1 rb1 hb
  go_wp2_with fail
  refine (HO.out _ ra2.out).mono ?_
  rintro e w3 ⟨ao, co, rfl, ro, hb⟩
  have B3 := Lib.hid (up B2.out hb)
  have g3 := Lib.hid (g2.out.below' hb)
  have ra3 := Lib.hid (ra2.out.go hb)
  have rb3 := Lib.hid (rb2.out.go hb)
  have ro3 := Lib.hid ro
  clear B2 g2 ra2 rb2 hb ro
  clear ra3
  go_wp2_with fail
  refine (HQ.out _ rb3.out).mono ?_
  rintro e w4 ⟨aq, cq, rfl, rq, hb⟩
  have B4 := Lib.hid (up B3.out hb)
  have g4 := Lib.hid (g3.out.below' hb)
  have rb4 := Lib.hid (rb3.out.go hb)
  have ro4 := Lib.hid (ro3.out.go hb)
  have rq4 := Lib.hid rq
  clear B3 g3 rb3 ro3 hb rq
  clear rb4
  go_wp2_with fail
  refine (HT.out _ _ _ _ _ _ _ g4.out ro4.out rq4.out).mono ?_
  rintro e w5 ⟨ax, cx, ay, cy, rfl, rx, ry, hb⟩
  have B5 := Lib.hid (up B4.out hb)
  have g5 := Lib.hid (g4.out.below' hb)
  have ro5 := Lib.hid (ro4.out.go hb)
  have rq5 := Lib.hid (rq4.out.go hb)
  have rx5 := Lib.hid rx
  have ry5 := Lib.hid ry
  clear B4 g4 ro4 rq4 hb rx ry
  go_wp2_with fail
  refine (HLo.out _ _ _ _ ro5.out).mono ?_
  rintro e w6 ⟨rfl, hb⟩
  have B6 := Lib.hid (up B5.out hb)
  have g6 := Lib.hid (g5.out.below' hb)
  have ro6 := Lib.hid (ro5.out.go hb)
  have rq6 := Lib.hid (rq5.out.go hb)
  have rx6 := Lib.hid (rx5.out.go hb)
  have ry6 := Lib.hid (ry5.out.go hb)
  clear B5 g5 ro5 rq5 rx5 ry5 hb
  go_wp2_with fail
  refine (HLq.out _ _ _ _ rq6.out).mono ?_
  rintro e w7 ⟨rfl, hb⟩
  have B7 := Lib.hid (up B6.out hb)
  have g7 := Lib.hid (g6.out.below' hb)
  have ro7 := Lib.hid (ro6.out.go hb)
  have rq7 := Lib.hid (rq6.out.go hb)
  have rx7 := Lib.hid (rx6.out.go hb)
  have ry7 := Lib.hid (ry6.out.go hb)
  clear B6 g6 ro6 rq6 rx6 ry6 hb
  clear rq7
  go_wp2_with fail
  refine (HLx.out _ _ _ _ rx7.out).mono ?_
  rintro e w8 ⟨rfl, hb⟩
  have B8 := Lib.hid (up B7.out hb)
  have g8 := Lib.hid (g7.out.below' hb)
  have ro8 := Lib.hid (ro7.out.go hb)
  have rx8 := Lib.hid (rx7.out.go hb)
  have ry8 := Lib.hid (ry7.out.go hb)
  clear B7 g7 ro7 rx7 ry7 hb
  clear rx8
  go_wp2_with fail
  refine (HLy.out _ _ _ _ ry8.out).mono ?_
  rintro e w9 ⟨rfl, hb⟩
  have B9 := Lib.hid (up B8.out hb)
  have g9 := Lib.hid (g8.out.below' hb)
  have ro9 := Lib.hid (ro8.out.go hb)
  have ry9 := Lib.hid (ry8.out.go hb)
  clear B8 g8 ro8 ry8 hb
  clear ry9
  go_wp2_with fail
  refine (HZ.out _).mono ?_
  rintro e w10 ⟨az, cz, rfl, rz, hb⟩
  have B10 := Lib.hid (up B9.out hb)
  have g10 := Lib.hid (g9.out.below' hb)
  have ro10 := Lib.hid (ro9.out.go hb)
  have rz10 := Lib.hid rz
  clear B9 g9 ro9 hb rz
  go_wp2_with fail
  refine (HB.out _ _ _ _ _ _ _ g10.out ro10.out rz10.out).mono ?_
  rintro e w11 ⟨rfl, hb⟩
  have B11 := Lib.hid (up B10.out hb)
  have g11 := Lib.hid (g10.out.below' hb)
  have ro11 := Lib.hid (ro10.out.go hb)
  have rz11 := Lib.hid (rz10.out.go hb)
  clear B10 g10 ro10 rz10 hb
  go_wp2_with fail
  go_ret
  exact ⟨rfl, B11.out⟩
end Go.Proofs.YtajijhnnnekhmaaDoor
