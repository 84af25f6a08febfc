/- The walk of ComposeBack. -/
import Derived.Test.YtajijhnnnekhmaaDoorCoLaw
set_option linter.unusedSimpArgs false
namespace Go.Proofs.YtajijhnnnekhmaaDoor
open Go.RowKit

set_option maxRecDepth 100000 in
set_option maxHeartbeats 3000000 in
theorem composeBack_walk (w : World) (hg : Good w) (s : Str) (hs : s.size ≤ maxLen) (a1 : Option Addr) (n1 c1 : Nat) (l1 : List Raw) (r1 : RdS (· < w.heap.size) w l1 a1 n1 c1) :
    Calls Tryd.prog 12 #[.string s, .slice a1 n1 c1] w fun e w' => e = .returned (.bool true) ∧ Below w.heap.size w w' := by
  have HL := Lib.hid (letters_any s 30 w hs (by omega))
  obtain ⟨t0, t1, t2, t3⟩ := letters_ok s 30 (by omega)
  generalize letters s 30 = T at *
  have HR := Lib.hid (fun W => runes_any T W (by omega))
  obtain ⟨o0, o1, o2, o3⟩ := mkOp_ok (rc T) l1 t1 (by omega)
  have HO := Lib.hid (fun W (h : RdS (· < W.heap.size) W l1 a1 n1 c1) => mkOp_go (rc T) l1 a1 n1 c1 W h t1 (by omega))
  generalize mkOp (rc T) l1 = o at *
  obtain ⟨i0, i1, i2, -⟩ := inv_laws t0 o0 o1
  obtain ⟨b1, b2, b3⟩ := inv_back t0 o0 o1
  obtain ⟨z0, z1, z2, -⟩ := co_laws o0 i0 (by omega)
  obtain ⟨A1, A2⟩ := co_apply t0 o0 i0 o1 (by omega)
  have HI1 := Lib.hid (fun a n c W hg hr => invert_ok T o a n c W hg hr (by omega) t0 o0 o1)
  have HC := Lib.hid (fun a b n c m d W hg h1 h2 => compose_go o (invO T o) a b n c m d W hg h1 h2 o0 i0 (by omega))
  have HA := Lib.hid (fun a n c W hg hr => apply_any T (coOp o (invO T o)) a n c W hg hr (by omega))
  have HK := Lib.hid (fun a n c W hg hr => check_go (coOp o (invO T o)) a n c W hg hr)
  rw [A1, A2, b2] at HA
  rw [z0] at HK
  have g0 := Lib.hid hg
  have B0 := Lib.hid (Below.refl w.heap.size w)
  have ra0 := Lib.hid r1
  clear t0 t1 t2 t3 o0 o1 o2 o3 i0 i1 i2 A1 A2 b1 b2 b3 z0 z1 z2 r1 hg hs
  generalize coOp o (invO T o) = C at *
  generalize invO T o = I at *
  generalize rc T = R at *
  generalize o.length = lo at *
  generalize I.length = li at *
  generalize C.length = lc at *
  go_enter Tryd.func12, Tryd.ntmps12
  go_wp2_with fail
  refine (HL.out).mono ?_
  rintro e w1 ⟨rfl, hb⟩
  have B1 := Lib.hid (up B0.out hb)
  have g1 := Lib.hid (g0.out.below' hb)
  have ra1 := Lib.hid (ra0.out.go hb)
  clear B0 g0 ra0 hb
  go_wp2_with fail
  refine (HR.out _).mono ?_
  rintro e w2 ⟨rfl, hb⟩
  have B2 := Lib.hid (up B1.out hb)
  have g2 := Lib.hid (g1.out.below' hb)
  have ra2 := Lib.hid (ra1.out.go hb)
  clear B1 g1 ra1 hb
  go_wp2_with fail
  refine (HO.out _ ra2.out).mono ?_
  rintro e w3 ⟨ao, co, rfl, ro, hb⟩
  have B3 := Lib.hid (up B2.out hb)
  have g3 := Lib.hid (g2.out.below' hb)
  have ra3 := Lib.hid (ra2.out.go hb)
  have ro3 := Lib.hid ro
  clear B2 g2 ra2 hb ro
  clear ra3
  go_wp2_with fail
  refine (HI1.out _ _ _ _ g3.out ro3.out).mono ?_
  rintro e w4 ⟨ai, ci, rfl, ri, hb⟩
  have B4 := Lib.hid (up B3.out hb)
  have g4 := Lib.hid (g3.out.below' hb)
  have ro4 := Lib.hid (ro3.out.go hb)
  have ri4 := Lib.hid ri
  clear B3 g3 ro3 hb ri
  go_wp2_with fail
  refine (HC.out _ _ _ _ _ _ _ g4.out ro4.out ri4.out).mono ?_
  rintro e w5 ⟨ac, cc, rfl, rc, hb⟩
  have B5 := Lib.hid (up B4.out hb)
  have g5 := Lib.hid (g4.out.below' hb)
  have ro5 := Lib.hid (ro4.out.go hb)
  have ri5 := Lib.hid (ri4.out.go hb)
  have rc5 := Lib.hid rc
  clear B4 g4 ro4 ri4 hb rc
  go_wp2_with fail
  refine (HA.out _ _ _ _ g5.out rc5.out).mono ?_
  rintro e w6 ⟨rfl, hb⟩
  have B6 := Lib.hid (up B5.out hb)
  have g6 := Lib.hid (g5.out.below' hb)
  have ro6 := Lib.hid (ro5.out.go hb)
  have ri6 := Lib.hid (ri5.out.go hb)
  have rc6 := Lib.hid (rc5.out.go hb)
  clear B5 g5 ro5 ri5 rc5 hb
  go_wp2_with fail
  refine (HK.out _ _ _ _ g6.out rc6.out).mono ?_
  rintro e w7 ⟨rfl, hb⟩
  have B7 := Lib.hid (up B6.out hb)
  have g7 := Lib.hid (g6.out.below' hb)
  have ro7 := Lib.hid (ro6.out.go hb)
  have ri7 := Lib.hid (ri6.out.go hb)
  have rc7 := Lib.hid (rc6.out.go hb)
  clear B6 g6 ro6 ri6 rc6 hb
  go_wp2_with fail
  go_ret
  exact ⟨rfl, B7.out⟩
end Go.Proofs.YtajijhnnnekhmaaDoor
