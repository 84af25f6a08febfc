/- The walk of TransformBoth. -/
import Derived.Test.YtajijhnnnekhmaaDoorTells
import Derived.Test.YtajijhnnnekhmaaDoorFirst
import Derived.Deep.RegionHeld3
import Derived.Deep.DrawnRows
set_option linter.unusedSimpArgs false
namespace Go.Proofs.YtajijhnnnekhmaaDoor
open Go.RowKit

theorem TA_self (A : List P) (h : NoI A) : TA (ex A) (bx A) = List.replicate (TS A) (.k 1) ∧ TX (ex A) (bx A) = List.replicate (TS A) true := by
  induction A with
  | nil => exact ⟨rfl, rfl⟩
  | cons p A ih =>
    rw [NoI.cons] at h
    obtain ⟨i1, i2⟩ := ih h.2
    rw [ex_cons, bx_cons]
    cases p with
    | i t => exact absurd h.1 (by simp [P.Ins])
    | k n =>
      simp only [exP, bxP, TA_rep_k, TX_rep_k, if_true, i1, i2, TS, P.T, List.replicate_append_replicate]
      exact ⟨trivial, trivial⟩
    | d n =>
      simp only [exP, bxP, TA_rep_d, TX_rep_d, i1, i2, TS, P.T, Nat.zero_add]
      exact ⟨by simp, trivial⟩
theorem opOfP_k (n : Nat) : opOfP [.k n] = mkOp (n : Int) [] := by
  rw [mkOp_nil]
  unfold opOfP build
  by_cases h : n = 0
  · subst h; rfl
  · rw [kp_pos h]; simp [addP, h]
theorem tr_self {o : Op} (ho : check o = 0) (hn : NoI (opP o)) (n : Nat) (hT : sumT o = n) : trX o o = mkOp (n : Int) [] ∧ trY o o = mkOp (n : Int) [] := by
  have hI := opIs ho
  have e1 := hI.t
  obtain ⟨a1, b1, c1⟩ := xf_ex _ _ _ hI.ok hI.ok hn rfl (Nat.le_refl _)
  obtain ⟨t1, t2⟩ := TA_self (opP o) hn
  have en : TS (opP o) = n := by omega
  rw [t1, en] at a1
  rw [t2, en] at b1
  refine ⟨?_, ?_⟩
  · rw [← opOfP_k]
    exact (a1.trans (alike_k n)).opOf
  · rw [← opOfP_k]
    exact opOf_bx c1 (by simp [NoI, P.Ins]) (by rw [b1]; simp [bx, bxP])
theorem here_own (n k : Nat) (t : List Nat) (w : World) (hv : ∀ r ∈ t, Uni.vr r) (hk : k ≤ n) (hn : n ≤ 4000) (ht : t.length ≤ 4000) :
    Calls Tryd.prog 26 #[.int .i64 (n : Int), .int .i64 (k : Int), .string (Uni.enc t)] w fun e w' => ∃ a c, e = .returned (.slice a (hereO n k t).length c) ∧
      RdS (· < w'.heap.size) w' (hereO n k t) a (hereO n k t).length c ∧ Below w.heap.size w w' :=
  (here_any n k t w hv hk hn ht).mono fun e w' ⟨a, c, he, hr, hb⟩ => ⟨a, c, he, hr.wide fun b hb => hb.2, hb⟩
def delP (n k m : Nat) : List P := [.k k, .d m, .k (n - k - m)]
theorem xzy_law : applyE (Uni.enc [120, 121]) (hereO 2 1 [122]) = 0 ∧ applyS (Uni.enc [120, 121]) (hereO 2 1 [122]) = ⟨#[120, 122, 121]⟩ ∧ (⟨#[120, 121]⟩ : Str) = Uni.enc [120, 121] ∧ (⟨#[122]⟩ : Str) = Uni.enc [122] := by
  have v1 : ∀ r ∈ [120, 121], Uni.vr r := by intro r hr; simp at hr; rcases hr with rfl | rfl <;> (unfold Uni.vr; omega)
  have v2 : ∀ r ∈ [122], Uni.vr r := by intro r hr; simp at hr; subst hr; unfold Uni.vr; omega
  obtain ⟨o0, o1, o2, o3⟩ := here_laws 2 1 [122] (by omega) (by omega) (by simp) v2 (by simp)
  have hc := rc_enc [120, 121] v1
  have h0 : checkText (Uni.enc [120, 121]) = 0 := checkText_of (valid_enc _ v1) (by rw [hc]; simp)
  obtain ⟨a1, a2, -⟩ := apply_good h0 o0 (by rw [o1, hc]; rfl)
  refine ⟨a1, ?_, by kernel_rfl, by kernel_rfl⟩
  rw [a2, o3, rns_enc v1]
  kernel_rfl
set_option maxRecDepth 100000 in
set_option maxHeartbeats 4000000 in
theorem transformBoth_walk (w : World) (hg : Good w) (s : Str) (hs : s.size ≤ maxLen) (a : Int) (ha : I64 a) (b : Int) (hb : I64 b) :
    Calls Tryd.prog 11 #[.string s, .int .i64 a, .int .i64 b] w fun e w' => e = .returned (.bool true) ∧ Below w.heap.size w w' := by
  have HL := Lib.hid (letters_any s 30 w hs (by omega))
  obtain ⟨t0, t1, t2, t3⟩ := letters_ok s 30 (by omega)
  generalize letters s 30 = T at *
  have HR := Lib.hid (fun W => runes_any T W (by omega))
  obtain ⟨n, hn⟩ : ∃ n : Nat, (n : Int) = rc T := ⟨(rc T).toNat, by omega⟩
  rw [← hn] at HR t1 t2
  have hk1 := pk_range a ((n : Int) + 1) (by omega)
  have HP := Lib.hid (fun W => (picked_any a ((n : Int) + 1) W ha (by omega) (by omega)).mono fun e w' (h : e = .returned (.int .i64 (pk a ((n : Int) + 1))) ∧ W = w') => (⟨h.1, h.2 ▸ Below.refl _ _⟩ : e = .returned (.int .i64 (pk a ((n : Int) + 1))) ∧ Below W.heap.size W w'))
  generalize pk a ((n : Int) + 1) = K at *
  obtain ⟨k, rfl⟩ : ∃ k : Nat, K = (k : Int) := ⟨K.toNat, by omega⟩
  have hkn : k ≤ n := by omega
  have hm1 := pk_range b ((n : Int) - k + 1) (by omega)
  have HQ := Lib.hid (fun W => (picked_any b ((n : Int) - k + 1) W hb (by omega) (by omega)).mono fun e w' (h : e = .returned (.int .i64 (pk b ((n : Int) - k + 1))) ∧ W = w') => (⟨h.1, h.2 ▸ Below.refl _ _⟩ : e = .returned (.int .i64 (pk b ((n : Int) - k + 1))) ∧ Below W.heap.size W w'))
  generalize pk b ((n : Int) - k + 1) = M at *
  obtain ⟨m, rfl⟩ : ∃ m : Nat, M = (m : Int) := ⟨M.toNat, by omega⟩
  have hmn : k + m ≤ n := by omega
  have hn30 : n ≤ 30 := by omega
  have hF0 : FS (delP n k m) = n := by simp only [delP, FS, P.F]; omega
  have hT0 : TS (delP n k m) = n - m := by simp only [delP, TS, P.T]; omega
  obtain ⟨z0, z1, z2, z3, z4⟩ := raw_laws (delP n k m) (by simp [delP, NoI, P.Ins]) (by omega) (by omega)
  rw [hF0] at z1
  rw [hT0] at z2
  obtain ⟨x1, x2⟩ := tr_self z0 z4 (n - m) z2
  have HT := Lib.hid (fun W a c hg (h : RdS (· < W.heap.size) W (opOfP (delP n k m)) a (opOfP (delP n k m)).length c) => transform_go (opOfP (delP n k m)) (opOfP (delP n k m)) a a _ c _ c W hg h h z0 z0 rfl (by omega))
  rw [x1, x2] at HT
  have hFb : FS (build (delP n k m)) = n := by rw [build_FS, hF0]
  have hTb : TS (build (delP n k m)) ≤ n := by rw [build_TS, hT0]; omega
  have hend : addP (addP (addP [] (.k k)) (.d m)) (.k (n - k - m)) = build (delP n k m) := rfl
  obtain ⟨r, hr⟩ : ∃ r, r = n - k - m := ⟨_, rfl⟩
  rw [← hr] at hend
  have M1 := Lib.hid (fun B W v (h : Ms B B [] v W) => madd _ _ _ v (.k k) W h (by simp [FS, TS]) (fun l h => by cases h) (by simp only [P.z]; omega))
  have M2 := Lib.hid (fun B W v (h : Ms B B (addP [] (.k k)) v W) => madd _ _ _ v (.d m) W h (by rw [FS_addP, TS_addP]; simp only [FS, TS, P.F, P.T]; omega) (fun l h => by cases h) (by simp only [P.z]; omega))
  have M3 := Lib.hid (fun B W v (h : Ms B B (addP (addP [] (.k k)) (.d m)) v W) => madd _ _ _ v (.k r) W h (by rw [FS_addP, TS_addP, FS_addP, TS_addP]; simp only [FS, TS, P.F, P.T]; omega) (fun l h => by cases h) (by simp only [P.z]; omega))
  simp only [P.part] at M1 M2 M3
  have Hend : Hid (∀ B W v, Ms B B (addP (addP (addP [] (.k k)) (.d m)) (.k r)) v W → ∃ a c, v = .slice a (opOfP (delP n k m)).length c ∧ RdS (· < W.heap.size) W (opOfP (delP n k m)) a (opOfP (delP n k m)).length c) := by
    intro B W v h
    rw [hend] at h
    obtain ⟨a, c, h1, h2⟩ := Ms.rd h (by omega)
    exact ⟨a, c, h1, h2.wide fun b hb => hb.2⟩
  obtain ⟨y1, y2, y3, y4⟩ := xzy_law
  have v2 : ∀ r ∈ [122], Uni.vr r := by intro r hr; simp at hr; subst hr; unfold Uni.vr; omega
  have HH := Lib.hid (fun W => here_own 2 1 [122] W v2 (by omega) (by omega) (by simp))
  have HA := Lib.hid (fun a c W hg (hr : RdS (· < W.heap.size) W (hereO 2 1 [122]) a (hereO 2 1 [122]).length c) => apply_any (Uni.enc [120, 121]) (hereO 2 1 [122]) a _ c W hg hr (by have := enc_size [120, 121] (by intro r hr; simp at hr; rcases hr with rfl | rfl <;> (unfold Uni.vr; omega)); simp at this; omega))
  rw [y1, y2, ← y3] at HA
  rw [← y4] at HH
  have HO := Lib.hid (fun W => mkOp_go ((n - m : Nat) : Int) [] none 0 0 W (RdS.none' W) (by omega) (by omega))
  have HS := Lib.hid (fun a b i c j d W h1 h2 => sameOp_ok (mkOp ((n - m : Nat) : Int) []) a b i c j d W h1 h2)
  have is2 : IntKind.i64.wrap ((n : Int) - (m : Int)) = ((n - m : Nat) : Int) := by rw [IntWalk.i64_in _ (by omega)]; omega
  have is1 : (n : Int) - (m : Int) = ((n - m : Nat) : Int) := by omega
  have ir1 : (n : Int) - (k : Int) - (m : Int) = (r : Int) := by omega
  have His2 := Lib.hid is2
  have His1 := Lib.hid is1
  have Hir1 := Lib.hid ir1
  generalize opOfP (delP n k m) = z at *
  generalize mkOp ((n - m : Nat) : Int) [] = p at *
  generalize hereO 2 1 [122] = h at *
  generalize z.length = lz at *
  generalize p.length = lp at *
  generalize h.length = lh at *
  have g0 := Lib.hid hg
  have B0 := Lib.hid (Below.refl w.heap.size w)
  clear t0 t3 z0 z1 z2 z3 z4 x1 x2 hF0 hT0 hFb hTb hend hr y1 y2 y3 y4 v2 hg hs ha hb hn is1 is2 ir1
  go_enter Tryd.func11, Tryd.ntmps11
  go_wp2_with fail
  refine (HL.out).mono ?_
  rintro e w1 ⟨rfl, hb⟩
  have B1 := Lib.hid (up B0.out hb)
  have g1 := Lib.hid (g0.out.below' hb)
  clear B0 g0 hb
  go_wp2_with fail
  refine (HR.out _).mono ?_
  rintro e w2 ⟨rfl, hb⟩
  have B2 := Lib.hid (up B1.out hb)
  have g2 := Lib.hid (g1.out.below' hb)
  clear B1 g1 hb
  go_wp2_with fail
  refine (HP.out _).mono ?_
  rintro e w3 ⟨rfl, hb⟩
  have B3 := Lib.hid (up B2.out hb)
  have g3 := Lib.hid (g2.out.below' hb)
  clear B2 g2 hb
  go_wp2_with fail
  refine (HQ.out _).mono ?_
  rintro e w4 ⟨rfl, hb⟩
  have B4 := Lib.hid (up B3.out hb)
  have g4 := Lib.hid (g3.out.below' hb)
  clear B3 g3 hb
  clear HL HR HP HQ
  go_wp2_with fail
  refine abs_run (fun W => (∃ v, Ms w4.heap.size w4.heap.size [] v W) ∧ Below w4.heap.size w4 W) ⟨⟨_, Ms.new w4⟩, (Below.refl _ _).alloc (Nat.le_refl _) _⟩ ?_
  rintro W0 ⟨⟨v0, m0⟩, b0⟩
  refine (M1.out _ _ _ m0).mono ?_
  rintro e w5 ⟨rfl, m1, b1⟩
  have m1 := Lib.hid m1
  have b1 := Lib.hid (b0.trans b1)
  clear m0 b0 M1
  go_wp2_with fail
  obtain ⟨v1, m1⟩ := m1.out
  refine (M2.out _ _ _ m1).mono ?_
  rintro e w6 ⟨rfl, m2, b2⟩
  have m2 := Lib.hid m2
  have b2 := Lib.hid (b1.out.trans b2)
  clear m1 b1 M2
  go_wp2_with fail
  try rw [Hir1.out]
  obtain ⟨v2, m2⟩ := m2.out
  refine (M3.out _ _ _ m2).mono ?_
  rintro e w7 ⟨rfl, ⟨v3, m3⟩, b3⟩
  have b3 := Lib.hid (b2.out.trans b3)
  have hblk := (show Blk w4.heap.size _ w7 from m3.bag.blk)
  obtain ⟨az, cz, rfl, rz⟩ := Hend.out _ _ _ m3
  have Hblk := Lib.hid hblk
  have rz0 := Lib.hid rz
  have g7 := Lib.hid (g4.out.below' b3.out)
  have B7 := Lib.hid (up B4.out b3.out)
  have hst : Hid (∀ W, Below w7.heap.size w7 W → W.cell? ⟨w4.heap.size, 0, none⟩ = some (.slice az lz cz)) := fun W hW => (hblk.go hW).cell 0
  clear m3 m2 b2 M3 Hend hblk Hblk rz b3 B4 g4
  go_wp2_with fail
  have hS0 : w7.drew.cell? ⟨w4.heap.size, 0, none⟩ = some (.slice az lz cz) ∧ Below w7.heap.size w7 w7.drew := ⟨hst.out _ (Below.refl _ _).drew, (Below.refl _ _).drew⟩
  have HTb : Hid (∀ w1 : World, (w1.cell? ⟨w4.heap.size, 0, none⟩ = some (.slice az lz cz) ∧ Below w7.heap.size w7 w1) → Calls Tryd.prog 22 #[.slice az lz cz, .slice az lz cz] w1 fun e w' => ∃ (a1 : Option Addr) (c1 : Nat) (a2 : Option Addr) (c2 : Nat), e = .returned (.tuple #[.slice a1 lp c1, .slice a2 lp c2, .int .i64 0]) ∧
      RdS (· < w'.heap.size) w' p a1 lp c1 ∧ RdS (· < w'.heap.size) w' p a2 lp c2 ∧ Below w7.heap.size w7 w' ∧ w'.cell? ⟨w4.heap.size, 0, none⟩ = some (.slice az lz cz)) := by
    intro w1 ⟨h1, h2⟩
    refine (HT.out w1 az cz (g7.out.below' h2) (rz0.out.go h2)).mono ?_
    rintro e W2 ⟨a1, c1, a2, c2, he, q1, q2, hb2⟩
    exact ⟨a1, c1, a2, c2, he, q1, q2, up h2 hb2, hst.out _ (up h2 hb2)⟩
  clear HT hst rz0
  go_region_held3 (fun w' => w'.cell? ⟨w4.heap.size, 0, none⟩ = some (.slice az lz cz) ∧ Below w7.heap.size w7 w') (first | assumption | exact hS0 | exact ⟨by assumption, by assumption⟩)
    ((go_at_call 22; refine (HTb.out _ (by first | assumption | exact hS0)).mono ?_; rintro e W2 ⟨a1, c1, a2, c2, rfl, q1, q2, hb2, hc2⟩; have Q1 := Lib.hid q1; have Q2 := Lib.hid q2; have HB2 := Lib.hid hb2; clear q1 q2))
  all_goals
    clear HTb hS0
    have B0 := Lib.hid (up B7.out HB2.out)
    have g0 := Lib.hid (g7.out.below' HB2.out)
    have rp0 := Q1
    have rq0 := Q2
    clear Q1 Q2 HB2 hb2 hc2 B7 g7
    go_wp2_with fail
    refine (HH.out _).mono ?_
    rintro e w1 ⟨ah, ch, rfl, rh, hb⟩
    have B1 := Lib.hid (up B0.out hb)
    have g1 := Lib.hid (g0.out.below' hb)
    have rp1 := Lib.hid (rp0.out.go hb)
    have rq1 := Lib.hid (rq0.out.go hb)
    have rh1 := Lib.hid rh
    clear B0 g0 rp0 rq0 hb rh
    go_wp2_with fail
    refine (HA.out _ _ _ g1.out rh1.out).mono ?_
    rintro e w2 ⟨rfl, hb⟩
    have B2 := Lib.hid (up B1.out hb)
    have g2 := Lib.hid (g1.out.below' hb)
    have rp2 := Lib.hid (rp1.out.go hb)
    have rq2 := Lib.hid (rq1.out.go hb)
    have rh2 := Lib.hid (rh1.out.go hb)
    clear B1 g1 rp1 rq1 rh1 hb
    have is1 := His1.out
    go_wp2_with fail
    refine (HO.out _).mono ?_
    rintro e w3 ⟨am, cm, rfl, rm, hb⟩
    have B3 := Lib.hid (up B2.out hb)
    have g3 := Lib.hid (g2.out.below' hb)
    have rp3 := Lib.hid (rp2.out.go hb)
    have rq3 := Lib.hid (rq2.out.go hb)
    have rh3 := Lib.hid (rh2.out.go hb)
    have rm3 := Lib.hid rm
    clear B2 g2 rp2 rq2 rh2 hb rm
    go_wp2_with fail
    refine (HS.out _ _ _ _ _ _ _ rp3.out rm3.out).mono ?_
    rintro e w4 ⟨rfl, hb⟩
    have B4 := Lib.hid (up B3.out hb)
    have g4 := Lib.hid (g3.out.below' hb)
    have rp4 := Lib.hid (rp3.out.go hb)
    have rq4 := Lib.hid (rq3.out.go hb)
    have rh4 := Lib.hid (rh3.out.go hb)
    have rm4 := Lib.hid (rm3.out.go hb)
    clear B3 g3 rp3 rq3 rh3 rm3 hb
    go_wp2_with fail
    refine (HS.out _ _ _ _ _ _ _ rq4.out rp4.out).mono ?_
    rintro e w5 ⟨rfl, hb⟩
    have B5 := Lib.hid (up B4.out hb)
    have g5 := Lib.hid (g4.out.below' hb)
    have rp5 := Lib.hid (rp4.out.go hb)
    have rq5 := Lib.hid (rq4.out.go hb)
    have rh5 := Lib.hid (rh4.out.go hb)
    have rm5 := Lib.hid (rm4.out.go hb)
    clear B4 g4 rp4 rq4 rh4 rm4 hb
    go_wp2_with fail
    go_ret
    exact ⟨rfl, B5.out⟩
end Go.Proofs.YtajijhnnnekhmaaDoor
