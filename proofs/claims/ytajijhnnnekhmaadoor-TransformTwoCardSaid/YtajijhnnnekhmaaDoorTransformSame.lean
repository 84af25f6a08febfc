/- The walk of TransformSame. -/
import Derived.Test.YtajijhnnnekhmaaDoorSameOp
import Derived.Test.YtajijhnnnekhmaaDoorSame
set_option linter.unusedSimpArgs false
namespace Go.Proofs.YtajijhnnnekhmaaDoor
open Go.RowKit

theorem kp_rev (n : Nat) : (kp n).reverse = kp n := by unfold kp; split <;> rfl
theorem kp_F (n : Nat) : FS (kp n) = n ∧ TS (kp n) = n ∧ ZS (kp n) = n := by
  unfold kp
  split
  · rename_i h; subst h; exact ⟨rfl, rfl, rfl⟩
  · simp [FS, TS, ZS, P.F, P.T, P.z]
theorem kp_opP (n : Nat) (h : n ≤ 4000) : opP (mkOp (n : Int) []) = kp n := by
  obtain ⟨h1, h2, -⟩ := kp_F n
  have := (opIs_of (kp_can n) (by omega) (by omega)).opP
  rw [kp_rev] at this
  rw [mkOp_nil]
  exact this
theorem tr_same {o : Op} (h : check o = 0) (n : Nat) (hn : (n : Int) = sumF o) (m : Nat) (hm : (m : Int) = sumT o) :
    trX o (mkOp n []) = o ∧ trY o (mkOp n []) = mkOp m [] ∧ trX (mkOp n []) o = mkOp m [] ∧ trY (mkOp n []) o = o := by
  have hI := opIs h
  have hf := hI.f
  have ht := hI.t
  have hfl := hI.fl
  have e1 : n = FS (opP o) := by omega
  have e2 : m = TS (opP o) := by omega
  have hk : opP (mkOp (n : Int) []) = kp (FS (opP o)) := by rw [kp_opP n (by omega), e1]
  obtain ⟨-, -, k3⟩ := kp_F (FS (opP o))
  have hx := xf_keep (opP o) (ZS (opP o) + FS (opP o)) hI.ok (Nat.le_refl _)
  have hkb : opOfP (keeps (opP o)) = mkOp (m : Int) [] := by
    unfold opOfP
    rw [keeps_build, kp_rev, mkOp_nil, e2]
  unfold trX trY
  rw [hk, k3, Nat.add_comm (FS (opP o)), hx.1, hx.2, hkb]
  exact ⟨opOfP_self h, rfl, rfl, opOfP_self h⟩

set_option maxRecDepth 100000 in
set_option maxHeartbeats 3000000 in
theorem transformSame_walk (w : World) (hg : Good w) (s : Str) (hs : s.size ≤ maxLen) (a1 : Option Addr) (n1 c1 : Nat) (l1 : List Raw) (r1 : RdS (· < w.heap.size) w l1 a1 n1 c1) :
    Calls Tryd.prog 5 #[.string s, .slice a1 n1 c1] w fun e w' => e = .returned (.bool true) ∧ Below w.heap.size w w' := by
  have HL := Lib.hid (letters_any s 30 w hs (by omega))
  obtain ⟨t0, t1, t2, t3⟩ := letters_ok s 30 (by omega)
  generalize letters s 30 = T at *
  have HR := Lib.hid (fun W => runes_any T W (by omega))
  generalize rc T = R at *
  obtain ⟨o0, o1, o2, o3⟩ := mkOp_ok R l1 t1 (by omega)
  have HO := Lib.hid (fun W (h : RdS (· < W.heap.size) W l1 a1 n1 c1) => mkOp_go R l1 a1 n1 c1 W h t1 (by omega))
  generalize mkOp R l1 = o at *
  obtain ⟨k0, k1, k2, k3⟩ := mkOp_ok R [] t1 (by omega)
  have HK := Lib.hid (fun W => mkOp_go R [] none 0 0 W (RdS.none' W) t1 (by omega))
  have HM := Lib.hid (fun W => mkOp_go (sumT o) [] none 0 0 W (RdS.none' W) (by omega) (by omega))
  obtain ⟨nR, hR⟩ : ∃ n : Nat, (n : Int) = R := ⟨R.toNat, by omega⟩
  obtain ⟨mT, hT⟩ : ∃ m : Nat, (m : Int) = sumT o := ⟨(sumT o).toNat, by omega⟩
  obtain ⟨s1, s2, s3, s4⟩ := tr_same o0 nR (by omega) mT hT
  rw [hR] at s1 s2 s3 s4
  rw [hT] at s2 s3
  generalize mkOp R [] = K at *
  generalize mkOp (sumT o) [] = M at *
  have HT1 := Lib.hid (fun W a n c b m d hg h1 h2 => transform_go o K a b n c m d W hg h1 h2 o0 k0 (by omega) (by omega))
  have HT2 := Lib.hid (fun W a n c b m d hg h1 h2 => transform_go K o a b n c m d W hg h1 h2 k0 o0 (by omega) (by omega))
  rw [s1, s2] at HT1
  rw [s3, s4] at HT2
  have HLo := Lib.hid (fun a n c W hr => lengths_go o a n c W hr o0)
  have HSo := Lib.hid (fun a b n c m d W hr1 hr2 => sameOp_ok o a b n c m d W hr1 hr2)
  have HSm := Lib.hid (fun a b n c m d W hr1 hr2 => sameOp_ok M a b n c m d W hr1 hr2)
  have g0 := Lib.hid hg
  have B0 := Lib.hid (Below.refl w.heap.size w)
  have ra0 := Lib.hid r1
  clear t0 t1 t2 t3 o0 o1 o2 o3 k0 k1 k2 k3 s1 s2 s3 s4 hR hT r1 hg hs
  generalize sumF o = fo at *
  generalize sumT o = tto at *
  generalize o.length = lo at *
  generalize K.length = lk at *
  generalize M.length = lm at *
  go_enter Tryd.func5, Tryd.ntmps5
  go_wp2_with fail
  refine (HL.out).mono ?_
  rintro e w1 ⟨rfl, hb⟩
  have B1 := Lib.hid (up B0.out hb)
  have g1 := Lib.hid (g0.out.below' hb)
  have ra1 := Lib.hid (ra0.out.go hb)
  clear B0 g0 ra0 hb
  go_wp2_with fail
  refine (HR.out _).mono ?_
  rintro e w2 ⟨rfl, hb⟩
  have B2 := Lib.hid (up B1.out hb)
  have g2 := Lib.hid (g1.out.below' hb)
  have ra2 := Lib.hid (ra1.out.go hb)
  clear B1 g1 ra1 hb
  go_wp2_with fail
  refine (HO.out _ ra2.out).mono ?_
  rintro e w3 ⟨ao, co, rfl, ro, hb⟩
  have B3 := Lib.hid (up B2.out hb)
  have g3 := Lib.hid (g2.out.below' hb)
  have ra3 := Lib.hid (ra2.out.go hb)
  have ro3 := Lib.hid ro
  clear B2 g2 ra2 hb ro
  clear ra3
  go_wp2_with fail
  refine (HR.out _).mono ?_
  rintro e w4 ⟨rfl, hb⟩
  have B4 := Lib.hid (up B3.out hb)
  have g4 := Lib.hid (g3.out.below' hb)
  have ro4 := Lib.hid (ro3.out.go hb)
  clear B3 g3 ro3 hb
  go_wp2_with fail
  refine (HK.out _).mono ?_
  rintro e w5 ⟨ak, ck, rfl, rk, hb⟩
  have B5 := Lib.hid (up B4.out hb)
  have g5 := Lib.hid (g4.out.below' hb)
  have ro5 := Lib.hid (ro4.out.go hb)
  have rk5 := Lib.hid rk
  clear B4 g4 ro4 hb rk
  go_wp2_with fail
  refine (HT1.out _ _ _ _ _ _ _ g5.out ro5.out rk5.out).mono ?_
  rintro e w6 ⟨ax, cx, ay, cy, rfl, rx, ry, hb⟩
  have B6 := Lib.hid (up B5.out hb)
  have g6 := Lib.hid (g5.out.below' hb)
  have ro6 := Lib.hid (ro5.out.go hb)
  have rk6 := Lib.hid (rk5.out.go hb)
  have rx6 := Lib.hid rx
  have ry6 := Lib.hid ry
  clear B5 g5 ro5 rk5 hb rx ry
  go_wp2_with fail
  refine (HT2.out _ _ _ _ _ _ _ g6.out rk6.out ro6.out).mono ?_
  rintro e w7 ⟨au, cu, av, cv, rfl, ru, rv, hb⟩
  have B7 := Lib.hid (up B6.out hb)
  have g7 := Lib.hid (g6.out.below' hb)
  have ro7 := Lib.hid (ro6.out.go hb)
  have rk7 := Lib.hid (rk6.out.go hb)
  have rx7 := Lib.hid (rx6.out.go hb)
  have ry7 := Lib.hid (ry6.out.go hb)
  have ru7 := Lib.hid ru
  have rv7 := Lib.hid rv
  clear B6 g6 ro6 rk6 rx6 ry6 hb ru rv
  clear rk7
  go_wp2_with fail
  refine (HLo.out _ _ _ _ ro7.out).mono ?_
  rintro e w8 ⟨rfl, hb⟩
  have B8 := Lib.hid (up B7.out hb)
  have g8 := Lib.hid (g7.out.below' hb)
  have ro8 := Lib.hid (ro7.out.go hb)
  have rx8 := Lib.hid (rx7.out.go hb)
  have ry8 := Lib.hid (ry7.out.go hb)
  have ru8 := Lib.hid (ru7.out.go hb)
  have rv8 := Lib.hid (rv7.out.go hb)
  clear B7 g7 ro7 rx7 ry7 ru7 rv7 hb
  go_wp2_with fail
  refine (HM.out _).mono ?_
  rintro e w9 ⟨am, cm, rfl, rm, hb⟩
  have B9 := Lib.hid (up B8.out hb)
  have g9 := Lib.hid (g8.out.below' hb)
  have ro9 := Lib.hid (ro8.out.go hb)
  have rx9 := Lib.hid (rx8.out.go hb)
  have ry9 := Lib.hid (ry8.out.go hb)
  have ru9 := Lib.hid (ru8.out.go hb)
  have rv9 := Lib.hid (rv8.out.go hb)
  have rm9 := Lib.hid rm
  clear B8 g8 ro8 rx8 ry8 ru8 rv8 hb rm
  go_wp2_with fail
  refine (HSo.out _ _ _ _ _ _ _ rx9.out ro9.out).mono ?_
  rintro e w10 ⟨rfl, hb⟩
  have B10 := Lib.hid (up B9.out hb)
  have g10 := Lib.hid (g9.out.below' hb)
  have ro10 := Lib.hid (ro9.out.go hb)
  have rx10 := Lib.hid (rx9.out.go hb)
  have ry10 := Lib.hid (ry9.out.go hb)
  have ru10 := Lib.hid (ru9.out.go hb)
  have rv10 := Lib.hid (rv9.out.go hb)
  have rm10 := Lib.hid (rm9.out.go hb)
  clear B9 g9 ro9 rx9 ry9 ru9 rv9 rm9 hb
  go_wp2_with fail
  refine (HSo.out _ _ _ _ _ _ _ rv10.out ro10.out).mono ?_
  rintro e w11 ⟨rfl, hb⟩
  have B11 := Lib.hid (up B10.out hb)
  have g11 := Lib.hid (g10.out.below' hb)
  have ro11 := Lib.hid (ro10.out.go hb)
  have rx11 := Lib.hid (rx10.out.go hb)
  have ry11 := Lib.hid (ry10.out.go hb)
  have ru11 := Lib.hid (ru10.out.go hb)
  have rv11 := Lib.hid (rv10.out.go hb)
  have rm11 := Lib.hid (rm10.out.go hb)
  clear B10 g10 ro10 rx10 ry10 ru10 rv10 rm10 hb
  go_wp2_with fail
  refine (HSm.out _ _ _ _ _ _ _ ry11.out rm11.out).mono ?_
  rintro e w12 ⟨rfl, hb⟩
  have B12 := Lib.hid (up B11.out hb)
  have g12 := Lib.hid (g11.out.below' hb)
  have ro12 := Lib.hid (ro11.out.go hb)
  have rx12 := Lib.hid (rx11.out.go hb)
  have ry12 := Lib.hid (ry11.out.go hb)
  have ru12 := Lib.hid (ru11.out.go hb)
  have rv12 := Lib.hid (rv11.out.go hb)
  have rm12 := Lib.hid (rm11.out.go hb)
  clear B11 g11 ro11 rx11 ry11 ru11 rv11 rm11 hb
  go_wp2_with fail
  refine (HSm.out _ _ _ _ _ _ _ ru12.out rm12.out).mono ?_
  rintro e w13 ⟨rfl, hb⟩
  have B13 := Lib.hid (up B12.out hb)
  have g13 := Lib.hid (g12.out.below' hb)
  have ro13 := Lib.hid (ro12.out.go hb)
  have rx13 := Lib.hid (rx12.out.go hb)
  have ry13 := Lib.hid (ry12.out.go hb)
  have ru13 := Lib.hid (ru12.out.go hb)
  have rv13 := Lib.hid (rv12.out.go hb)
  have rm13 := Lib.hid (rm12.out.go hb)
  clear B12 g12 ro12 rx12 ry12 ru12 rv12 rm12 hb
  go_wp2_with fail
  go_ret
  exact ⟨rfl, B13.out⟩
end Go.Proofs.YtajijhnnnekhmaaDoor
