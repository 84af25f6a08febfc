/- The walk of ComposeBoth. -/
import Derived.Test.YtajijhnnnekhmaaDoorCoLaw
import Derived.Test.YtajijhnnnekhmaaDoorTells
set_option linter.unusedSimpArgs false
namespace Go.Proofs.YtajijhnnnekhmaaDoor
open Go.RowKit

set_option maxRecDepth 100000 in
set_option maxHeartbeats 4000000 in
theorem composeBoth_walk (w : World) (hg : Good w) (s : Str) (hs : s.size ≤ maxLen) (a1 : Option Addr) (n1 c1 : Nat) (l1 : List Raw) (r1 : RdS (· < w.heap.size) w l1 a1 n1 c1) (a2 : Option Addr) (n2 c2 : Nat) (l2 : List Raw) (r2 : RdS (· < w.heap.size) w l2 a2 n2 c2) :
    Calls Tryd.prog 7 #[.string s, .slice a1 n1 c1, .slice a2 n2 c2] w fun e w' => e = .returned (.bool true) ∧ Below w.heap.size w w' := by
  have HTe := Lib.hid tells_any
  have HL := Lib.hid (fun W => letters_any s 30 W hs (by omega))
  obtain ⟨t0, t1, t2, t3⟩ := letters_ok s 30 (by omega)
  generalize letters s 30 = T at *
  have HR := Lib.hid (fun W => runes_any T W (by omega))
  obtain ⟨o0, o1, o2, o3⟩ := mkOp_ok (rc T) l1 t1 (by omega)
  have HO := Lib.hid (fun W (h : RdS (· < W.heap.size) W l1 a1 n1 c1) => mkOp_go (rc T) l1 a1 n1 c1 W h t1 (by omega))
  generalize mkOp (rc T) l1 = o at *
  obtain ⟨A1, A2, A3, A4, A5, A6⟩ := apply_good t0 o0 o1
  have HR2 := Lib.hid (fun W => runes_any (applyS T o) W (by omega))
  rw [A4] at HR2
  obtain ⟨q0, q1, q2, q3⟩ := mkOp_ok (sumT o) l2 o2 (by omega)
  have HQ := Lib.hid (fun W (h : RdS (· < W.heap.size) W l2 a2 n2 c2) => mkOp_go (sumT o) l2 a2 n2 c2 W h o2 (by omega))
  generalize mkOp (sumT o) l2 = q at *
  obtain ⟨D1, D2, D3, D4, D5, D6⟩ := apply_good A5 q0 (by omega)
  obtain ⟨z0, z1, z2, -⟩ := co_laws o0 q0 (by omega)
  obtain ⟨E1, E2⟩ := co_apply t0 o0 q0 o1 (by omega)
  have HA1 := Lib.hid (fun a n c W hg hr => apply_any T o a n c W hg hr (by omega))
  have HA2 := Lib.hid (fun a n c W hg hr => apply_any (applyS T o) q a n c W hg hr (by omega))
  have HC := Lib.hid (fun a b n c m d W hg h1 h2 => compose_go o q a b n c m d W hg h1 h2 o0 q0 (by omega))
  have HA3 := Lib.hid (fun a n c W hg hr => apply_any T (coOp o q) a n c W hg hr (by omega))
  have HK := Lib.hid (fun a n c W hg hr => check_go (coOp o q) a n c W hg hr)
  rw [A1] at HA1
  rw [D1] at HA2
  rw [E1, E2] at HA3
  rw [z0] at HK
  have g0 := Lib.hid hg
  have B0 := Lib.hid (Below.refl w.heap.size w)
  have ra0 := Lib.hid r1
  have rb0 := Lib.hid r2
  clear t0 t1 t2 t3 o0 o1 o2 o3 q0 q1 q2 q3 A1 A2 A3 A4 A5 A6 D1 D2 D3 D4 D5 D6 E1 E2 z0 z1 z2 r1 r2 hg hs
  generalize applyS (applyS T o) q = V at *
  generalize applyS T o = U at *
  generalize coOp o q = C at *
  generalize rc T = R at *
  generalize sumT o = S at *
  generalize o.length = lo at *
  generalize q.length = lq at *
  generalize C.length = lc at *
  go_enter Tryd.func7, Tryd.ntmps7
  go_wp2_with fail
  refine (HTe.out _ g0.out).mono ?_
  rintro e w1 ⟨rfl, hb⟩
  have B1 := Lib.hid (up B0.out hb)
  have g1 := Lib.hid (g0.out.below' hb)
  have ra1 := Lib.hid (ra0.out.go hb)
  have rb1 := Lib.hid (rb0.out.go hb)
  clear B0 g0 ra0 rb0 hb
  go_wp2_with fail
  refine (HL.out _).mono ?_
  rintro e w2 ⟨rfl, hb⟩
  have B2 := Lib.hid (up B1.out hb)
  have g2 := Lib.hid (g1.out.below' hb)
  have ra2 := Lib.hid (ra1.out.go hb)
  have rb2 := Lib.hid (rb1.out.go hb)
  clear B1 g1 ra1 rb1 hb
  go_wp2_with fail
  refine (HR.out _).mono ?_
  rintro e w3 ⟨rfl, hb⟩
  have B3 := Lib.hid (up B2.out hb)
  have g3 := Lib.hid (g2.out.below' hb)
  have ra3 := Lib.hid (ra2.out.go hb)
  have rb3 := Lib.hid (rb2.out.go hb)
  clear B2 g2 ra2 rb2 hb
  go_wp2_with fail
  refine (HO.out _ ra3.out).mono ?_
  rintro e w4 ⟨ao, co, rfl, ro, hb⟩
  have B4 := Lib.hid (up B3.out hb)
  have g4 := Lib.hid (g3.out.below' hb)
  have ra4 := Lib.hid (ra3.out.go hb)
  have rb4 := Lib.hid (rb3.out.go hb)
  have ro4 := Lib.hid ro
  clear B3 g3 ra3 rb3 hb ro
  clear ra4
  go_wp2_with fail
  refine (HA1.out _ _ _ _ g4.out ro4.out).mono ?_
  rintro e w5 ⟨rfl, hb⟩
  have B5 := Lib.hid (up B4.out hb)
  have g5 := Lib.hid (g4.out.below' hb)
  have rb5 := Lib.hid (rb4.out.go hb)
  have ro5 := Lib.hid (ro4.out.go hb)
  clear B4 g4 rb4 ro4 hb
  go_wp2_with fail
  refine (HR2.out _).mono ?_
  rintro e w6 ⟨rfl, hb⟩
  have B6 := Lib.hid (up B5.out hb)
  have g6 := Lib.hid (g5.out.below' hb)
  have rb6 := Lib.hid (rb5.out.go hb)
  have ro6 := Lib.hid (ro5.out.go hb)
  clear B5 g5 rb5 ro5 hb
  go_wp2_with fail
  refine (HQ.out _ rb6.out).mono ?_
  rintro e w7 ⟨aq, cq, rfl, rq, hb⟩
  have B7 := Lib.hid (up B6.out hb)
  have g7 := Lib.hid (g6.out.below' hb)
  have rb7 := Lib.hid (rb6.out.go hb)
  have ro7 := Lib.hid (ro6.out.go hb)
  have rq7 := Lib.hid rq
  clear B6 g6 rb6 ro6 hb rq
  clear rb7
  go_wp2_with fail
  refine (HA2.out _ _ _ _ g7.out rq7.out).mono ?_
  rintro e w8 ⟨rfl, hb⟩
  have B8 := Lib.hid (up B7.out hb)
  have g8 := Lib.hid (g7.out.below' hb)
  have ro8 := Lib.hid (ro7.out.go hb)
  have rq8 := Lib.hid (rq7.out.go hb)
  clear B7 g7 ro7 rq7 hb
  go_wp2_with fail
  refine (HC.out _ _ _ _ _ _ _ g8.out ro8.out rq8.out).mono ?_
  rintro e w9 ⟨ac, cc, rfl, rc, hb⟩
  have B9 := Lib.hid (up B8.out hb)
  have g9 := Lib.hid (g8.out.below' hb)
  have ro9 := Lib.hid (ro8.out.go hb)
  have rq9 := Lib.hid (rq8.out.go hb)
  have rc9 := Lib.hid rc
  clear B8 g8 ro8 rq8 hb rc
  go_wp2_with fail
  refine (HA3.out _ _ _ _ g9.out rc9.out).mono ?_
  rintro e w10 ⟨rfl, hb⟩
  have B10 := Lib.hid (up B9.out hb)
  have g10 := Lib.hid (g9.out.below' hb)
  have ro10 := Lib.hid (ro9.out.go hb)
  have rq10 := Lib.hid (rq9.out.go hb)
  have rc10 := Lib.hid (rc9.out.go hb)
  clear B9 g9 ro9 rq9 rc9 hb
  go_wp2_with fail
  refine (HK.out _ _ _ _ g10.out rc10.out).mono ?_
  rintro e w11 ⟨rfl, hb⟩
  have B11 := Lib.hid (up B10.out hb)
  have g11 := Lib.hid (g10.out.below' hb)
  have ro11 := Lib.hid (ro10.out.go hb)
  have rq11 := Lib.hid (rq10.out.go hb)
  have rc11 := Lib.hid (rc10.out.go hb)
  clear B10 g10 ro10 rq10 rc10 hb
  go_wp2_with fail
  go_ret
  exact ⟨rfl, B11.out⟩
end Go.Proofs.YtajijhnnnekhmaaDoor
