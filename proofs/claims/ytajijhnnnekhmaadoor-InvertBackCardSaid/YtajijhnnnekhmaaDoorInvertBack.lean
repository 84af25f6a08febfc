/- The walk of InvertBack. -/
import Derived.Test.YtajijhnnnekhmaaDoorInvert
import Derived.Test.YtajijhnnnekhmaaDoorSameOp
set_option linter.unusedSimpArgs false
namespace Go.Proofs.YtajijhnnnekhmaaDoor
open Go.RowKit

set_option maxRecDepth 100000 in
set_option maxHeartbeats 3000000 in
theorem invertBack_walk (w : World) (hg : Good w) (s : Str) (hs : s.size ≤ maxLen) (a1 : Option Addr) (n1 c1 : Nat) (l1 : List Raw) (r1 : RdS (· < w.heap.size) w l1 a1 n1 c1) :
    Calls Tryd.prog 3 #[.string s, .slice a1 n1 c1] w fun e w' => e = .returned (.bool true) ∧ Below w.heap.size w w' := by
  have HL := Lib.hid (letters_any s 30 w hs (by omega))
  obtain ⟨t0, t1, t2, t3⟩ := letters_ok s 30 (by omega)
  generalize letters s 30 = T at *
  have HR := Lib.hid (fun W => runes_any T W (by omega))
  obtain ⟨o0, o1, o2, o3⟩ := mkOp_ok (rc T) l1 t1 (by omega)
  have HO := Lib.hid (fun W (h : RdS (· < W.heap.size) W l1 a1 n1 c1) => mkOp_go (rc T) l1 a1 n1 c1 W h t1 (by omega))
  generalize mkOp (rc T) l1 = o at *
  obtain ⟨i0, i1, i2, -⟩ := inv_laws t0 o0 o1
  obtain ⟨A1, A2, A3, A4, A5, A6⟩ := apply_good t0 o0 o1
  obtain ⟨b1, b2, b3⟩ := inv_back t0 o0 o1
  have HA1 := Lib.hid (fun a n c W hg hr => apply_any T o a n c W hg hr (by omega))
  have HI1 := Lib.hid (fun a n c W hg hr => invert_ok T o a n c W hg hr (by omega) t0 o0 o1)
  have HA2 := Lib.hid (fun a n c W hg hr => apply_any (applyS T o) (invO T o) a n c W hg hr (by omega))
  have HI2 := Lib.hid (fun a n c W hg hr => invert_ok (applyS T o) (invO T o) a n c W hg hr (by omega) A5 i0 (by omega))
  rw [A1] at HA1
  rw [b1, b2] at HA2
  rw [b3] at HI2
  have HS := Lib.hid (fun a b n c m d W hr1 hr2 => sameOp_ok o a b n c m d W hr1 hr2)
  have g0 := Lib.hid hg
  have B0 := Lib.hid (Below.refl w.heap.size w)
  have ra0 := Lib.hid r1
  clear t0 t1 t2 t3 o0 o1 o2 o3 i0 i1 i2 A1 A2 A3 A4 A5 A6 b1 b2 b3 r1 hg hs
  generalize applyS T o = U at *
  generalize invO T o = I at *
  generalize rc T = R at *
  generalize o.length = lo at *
  generalize I.length = li at *
  go_enter Tryd.func3, Tryd.ntmps3
  go_wp2_with fail
  refine (HL.out).mono ?_
  rintro e w1 ⟨rfl, hb⟩
  have B1 := Lib.hid (up B0.out hb)
  have g1 := Lib.hid (g0.out.below' hb)
  have ra1 := Lib.hid (ra0.out.go hb)
  clear B0 g0 ra0 hb
  go_wp2_with fail
  refine (HR.out _).mono ?_
  rintro e w2 ⟨rfl, hb⟩
  have B2 := Lib.hid (up B1.out hb)
  have g2 := Lib.hid (g1.out.below' hb)
  have ra2 := Lib.hid (ra1.out.go hb)
  clear B1 g1 ra1 hb
  go_wp2_with fail
  refine (HO.out _ ra2.out).mono ?_
  rintro e w3 ⟨ao, co, rfl, ro, hb⟩
  have B3 := Lib.hid (up B2.out hb)
  have g3 := Lib.hid (g2.out.below' hb)
  have ra3 := Lib.hid (ra2.out.go hb)
  have ro3 := Lib.hid ro
  clear B2 g2 ra2 hb ro
  clear ra3
  go_wp2_with fail
  refine (HA1.out _ _ _ _ g3.out ro3.out).mono ?_
  rintro e w4 ⟨rfl, hb⟩
  have B4 := Lib.hid (up B3.out hb)
  have g4 := Lib.hid (g3.out.below' hb)
  have ro4 := Lib.hid (ro3.out.go hb)
  clear B3 g3 ro3 hb
  go_wp2_with fail
  refine (HI1.out _ _ _ _ g4.out ro4.out).mono ?_
  rintro e w5 ⟨ai, ci, rfl, ri, hb⟩
  have B5 := Lib.hid (up B4.out hb)
  have g5 := Lib.hid (g4.out.below' hb)
  have ro5 := Lib.hid (ro4.out.go hb)
  have ri5 := Lib.hid ri
  clear B4 g4 ro4 hb ri
  go_wp2_with fail
  refine (HA2.out _ _ _ _ g5.out ri5.out).mono ?_
  rintro e w6 ⟨rfl, hb⟩
  have B6 := Lib.hid (up B5.out hb)
  have g6 := Lib.hid (g5.out.below' hb)
  have ro6 := Lib.hid (ro5.out.go hb)
  have ri6 := Lib.hid (ri5.out.go hb)
  clear B5 g5 ro5 ri5 hb
  go_wp2_with fail
  refine (HI2.out _ _ _ _ g6.out ri6.out).mono ?_
  rintro e w7 ⟨aj, cj, rfl, rj, hb⟩
  have B7 := Lib.hid (up B6.out hb)
  have g7 := Lib.hid (g6.out.below' hb)
  have ro7 := Lib.hid (ro6.out.go hb)
  have ri7 := Lib.hid (ri6.out.go hb)
  have rj7 := Lib.hid rj
  clear B6 g6 ro6 ri6 hb rj
  go_wp2_with fail
  refine (HS.out _ _ _ _ _ _ _ rj7.out ro7.out).mono ?_
  rintro e w8 ⟨rfl, hb⟩
  have B8 := Lib.hid (up B7.out hb)
  have g8 := Lib.hid (g7.out.below' hb)
  have ro8 := Lib.hid (ro7.out.go hb)
  have ri8 := Lib.hid (ri7.out.go hb)
  have rj8 := Lib.hid (rj7.out.go hb)
  clear B7 g7 ro7 ri7 rj7 hb
  go_wp2_with fail
  go_ret
  exact ⟨rfl, B8.out⟩
end Go.Proofs.YtajijhnnnekhmaaDoor
