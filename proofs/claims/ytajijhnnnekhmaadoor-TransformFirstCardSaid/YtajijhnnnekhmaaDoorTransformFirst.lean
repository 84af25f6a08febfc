/- The walk of TransformFirst. -/
import Derived.Test.YtajijhnnnekhmaaDoorFirst
import Derived.Test.YtajijhnnnekhmaaDoorReg2
set_option linter.unusedSimpArgs false
namespace Go.Proofs.YtajijhnnnekhmaaDoor
open Go.RowKit

theorem one_text (s : Str) : (⟨#[49]⟩ : ByteArray) ++ letters s 3 = Uni.enc (49 :: lets s 3) := by
  have e : (⟨#[49]⟩ : ByteArray) = Uni.enc [49] := by kernel_rfl
  unfold letters
  rw [e, ← enc_append]
  rfl
theorem two_text (s : Str) : (⟨#[50]⟩ : ByteArray) ++ letters s 3 = Uni.enc (50 :: lets s 3) := by
  have e : (⟨#[50]⟩ : ByteArray) = Uni.enc [50] := by kernel_rfl
  unfold letters
  rw [e, ← enc_append]
  rfl
theorem here_go (n k : Nat) (t : List Nat) (w : World) (hv : ∀ r ∈ t, Uni.vr r) (hk : k ≤ n) (hn : n ≤ 4000) (ht : t.length ≤ 4000) :
    Calls Tryd.prog 26 #[.int .i64 (n : Int), .int .i64 (k : Int), .string (Uni.enc t)] w fun e w' => ∃ a c, e = .returned (.slice a (hereO n k t).length c) ∧
      RdS (· < w'.heap.size) w' (hereO n k t) a (hereO n k t).length c ∧ Below w.heap.size w w' :=
  (here_any n k t w hv hk hn ht).mono fun e w' ⟨a, c, he, hr, hb⟩ => ⟨a, c, he, hr.wide fun b hb => hb.2, hb⟩
/-- the two texts: what they make -/
theorem first_law {T : Str} (h0 : checkText T = 0) (N k : Nat) (hN : (N : Int) = rc T) (hk : k ≤ N) (hN2 : N ≤ 1000) (x y : List Nat) (hx : x ≠ []) (hy : y ≠ []) (vx : ∀ r ∈ x, Uni.vr r) (vy : ∀ r ∈ y, Uni.vr r) (lx : x.length ≤ 100) (ly : y.length ≤ 100) :
    check (hereO N k x) = 0 ∧ check (hereO N k y) = 0 ∧ sumF (hereO N k x) = sumF (hereO N k y) ∧ sumT (hereO N k x) + sumT (hereO N k y) ≤ 4000 ∧ applyE T (hereO N k x) = 0 ∧
    applyE (applyS T (hereO N k x)) (trY (hereO N k x) (hereO N k y)) = 0 ∧ check (trX (hereO N k x) (hereO N k y)) = 0 ∧ (applyS T (hereO N k x)).size ≤ 16000 ∧
    applyS (applyS T (hereO N k x)) (trY (hereO N k x) (hereO N k y)) = Uni.enc ((rns T).take k) ++ Uni.enc x ++ Uni.enc y ++ Uni.enc ((rns T).drop k) := by
  obtain ⟨o0, o1, o2, o3⟩ := here_laws N k x hk (by omega) hx vx (by omega)
  obtain ⟨q0, q1, q2, q3⟩ := here_laws N k y hk (by omega) hy vy (by omega)
  have e3 : sumF (hereO N k x) = sumF (hereO N k y) := by omega
  have e4 : sumT (hereO N k x) + sumT (hereO N k y) ≤ 4000 := by omega
  obtain ⟨x0, y0, x1, y1, xy, x2, x3, hmeet, -⟩ := tr_laws o0 q0 e3 e4
  have hY := trY_app o0 q0 e3 e4
  have hrT := rc_rns T
  obtain ⟨A1, A2, A3, A4, A5, A6⟩ := apply_good h0 o0 (by omega)
  obtain ⟨C1, C2, C3, C4, C5, C6⟩ := apply_good A5 y0 (by omega)
  refine ⟨o0, q0, e3, e4, A1, C1, x0, A6, ?_⟩
  rw [C2, rns_apply h0 o0 (by omega), hY]
  obtain ⟨k1, k2, k3⟩ := kp_F k
  have hz : ∀ z : List Nat, ZS (kp k ++ .i z :: kp (N - k)) = k + z.length + (N - k) := by
    intro z
    have h5 : ∀ a b : List P, ZS (a ++ b) = ZS a + ZS b := by
      intro a b
      induction a with
      | nil => simp [ZS]
      | cons p a ih => simp only [List.cons_append, ZS, ih]; omega
    rw [h5]
    simp only [ZS, P.z, k3, (kp_F (N - k)).2.2]; omega
  rw [o3, q3, xf_first _ _ _ _ _ hx hy (by rw [hz, hz]; omega), first_app N k x y (rns T) hk (by omega) hx]
  simp only [enc_append]
set_option maxRecDepth 100000 in
set_option maxHeartbeats 4000000 in
theorem transformFirst_walk (w : World) (hg : Good w) (s : Str) (hs : s.size ≤ maxLen) (at_ : Int) (hat : I64 at_) (v : Str) (hv : v.size ≤ maxLen) (u : Str) (hu : u.size ≤ maxLen) :
    Calls Tryd.prog 10 #[.string s, .int .i64 at_, .string v, .string u] w fun e w' => e = .returned (.bool true) ∧ Below w.heap.size w w' := by
  have HL := Lib.hid (letters_any s 20 w hs (by omega))
  have HV := Lib.hid (fun W => letters_any v 3 W hv (by omega))
  have HU := Lib.hid (fun W => letters_any u 3 W hu (by omega))
  obtain ⟨t0, t1, t2, t3⟩ := letters_ok s 20 (by omega)
  generalize letters s 20 = T at *
  have hT70 : T.size ≤ 70368744177664 := by omega
  have HR := Lib.hid (fun W => runes_any T W hT70)
  have hrT := rc_rns T
  have hkr := pk_range at_ (rc T + 1) (by omega)
  have HP := Lib.hid (fun W => (picked_any at_ (rc T + 1) W hat (by omega) (by omega)).mono fun e w' (h : e = .returned (.int .i64 (pk at_ (rc T + 1))) ∧ W = w') => (⟨h.1, h.2 ▸ Below.refl _ _⟩ : e = .returned (.int .i64 (pk at_ (rc T + 1))) ∧ Below W.heap.size W w'))
  generalize pk at_ (rc T + 1) = K at *
  obtain ⟨k, rfl⟩ : ∃ k : Nat, K = (k : Int) := ⟨K.toNat, by omega⟩
  obtain ⟨N, hN⟩ : ∃ n : Nat, (n : Int) = rc T := ⟨(rns T).length, hrT.symm⟩
  have ov := letters_ok v 3 (by omega)
  have ou := letters_ok u 3 (by omega)
  have hav : ∀ W : World, (Op.stringOp .add ⟨#[49]⟩ (letters v 3)).run Tryd.prog W = .ok (.string (Uni.enc (49 :: lets v 3))) W := fun W => by
    rw [← one_text]; exact run_string_add_sum W _ _ (by show 1 + (letters v 3).size ≤ _; omega)
  have hau : ∀ W : World, (Op.stringOp .add ⟨#[50]⟩ (letters u 3)).run Tryd.prog W = .ok (.string (Uni.enc (50 :: lets u 3))) W := fun W => by
    rw [← two_text]; exact run_string_add_sum W _ _ (by show 1 + (letters u 3).size ≤ _; omega)
  have vx : ∀ r ∈ 49 :: lets v 3, Uni.vr r := by
    intro r hr; rcases List.mem_cons.1 hr with rfl | hr
    · unfold Uni.vr; omega
    · exact lets_vr v 3 r hr
  have vy : ∀ r ∈ 50 :: lets u 3, Uni.vr r := by
    intro r hr; rcases List.mem_cons.1 hr with rfl | hr
    · unfold Uni.vr; omega
    · exact lets_vr u 3 r hr
  have nx : (49 :: lets v 3) ≠ [] := by simp
  have ny : (50 :: lets u 3) ≠ [] := by simp
  have lx : (49 :: lets v 3).length ≤ 4 := by have := lets_len v 3; simp only [List.length_cons]; omega
  have ly : (50 :: lets u 3).length ≤ 4 := by have := lets_len u 3; simp only [List.length_cons]; omega
  generalize 49 :: lets v 3 = x at *
  generalize 50 :: lets u 3 = y at *
  generalize letters v 3 = LV at *
  generalize letters u 3 = LU at *
  obtain ⟨o0, q0, e3, e4, A1, C1, x0, A6, E9⟩ := first_law t0 N k hN (by omega) (by omega) x y nx ny vx vy (by omega) (by omega)
  have HX := Lib.hid (fun W => here_go N k x W vx (by omega) (by omega) (by omega))
  have HY := Lib.hid (fun W => here_go N k y W vy (by omega) (by omega) (by omega))
  rw [hN] at HX HY
  generalize hereO N k x = o at *
  generalize hereO N k y = q at *
  have HT := Lib.hid (fun W a n c b m d hg h1 h2 => transform_go o q a b n c m d W hg h1 h2 o0 q0 e3 e4)
  generalize trX o q = X at *
  generalize trY o q = Y at *
  have HA1 := Lib.hid (fun a n c W hg hr => apply_any T o a n c W hg hr hT70)
  have HA2 := Lib.hid (fun a n c W hg hr => apply_any (applyS T o) Y a n c W hg hr (by omega))
  rw [A1] at HA1
  rw [C1, E9] at HA2
  have HC := Lib.hid (fun a n c W hg hr => check_go X a n c W hg hr)
  rw [x0] at HC
  obtain ⟨RT, hRTz, hRT, hconvT⟩ := runes_of T hT70
  have hvT := rns_vr (valid_of t0).1
  have sA : (Uni.enc ((rns T).take k)).size ≤ 4 * 20 := by
    have := enc_size ((rns T).take k) (fun r hr => hvT r (List.mem_of_mem_take hr))
    have h2 : ((rns T).take k).length ≤ (rns T).length := by rw [List.length_take]; omega
    omega
  have sD : (Uni.enc ((rns T).drop k)).size ≤ 4 * 20 := by
    have := enc_size ((rns T).drop k) (fun r hr => hvT r (List.mem_of_mem_drop hr))
    have h2 : ((rns T).drop k).length ≤ (rns T).length := by rw [List.length_drop]; omega
    omega
  have sx := enc_size x vx
  have sy := enc_size y vy
  have hc1 : ∀ W : World, (Op.stringOp .add (Uni.enc ((rns T).take k)) (Uni.enc x)).run Tryd.prog W = .ok (.string (Uni.enc ((rns T).take k) ++ Uni.enc x)) W := fun W => run_string_add_sum W _ _ (by omega)
  have hc2 : ∀ W : World, (Op.stringOp .add (Uni.enc ((rns T).take k) ++ Uni.enc x) (Uni.enc y)).run Tryd.prog W = .ok (.string (Uni.enc ((rns T).take k) ++ Uni.enc x ++ Uni.enc y)) W := fun W => run_string_add_sum W _ _ (by rw [size_app]; omega)
  have hc3 : ∀ W : World, (Op.stringOp .add (Uni.enc ((rns T).take k) ++ Uni.enc x ++ Uni.enc y) (Uni.enc ((rns T).drop k))).run Tryd.prog W = .ok (.string (Uni.enc ((rns T).take k) ++ Uni.enc x ++ Uni.enc y ++ Uni.enc ((rns T).drop k))) W := fun W => run_string_add_sum W _ _ (by rw [size_app, size_app]; omega)
  have ht1 : ((rns T).drop 0).take k = (rns T).take k := by rw [List.drop_zero]
  have ht2 : ((rns T).drop k).take (N - k) = (rns T).drop k := List.take_of_length_le (by rw [List.length_drop]; omega)
  have hNn : (rns T).length = N := by omega
  have hkN : k ≤ N := by omega
  have hN20 : N ≤ 20 := by omega
  rw [hNn] at hconvT
  have iy1 : IntKind.i64.wrap (rc T + 1) = rc T + 1 := IntWalk.i64_in _ (by omega)
  have Hau := Lib.hid hau
  have Hav := Lib.hid hav
  have Hc1 := Lib.hid hc1
  have Hc2 := Lib.hid hc2
  have Hc3 := Lib.hid hc3
  have HcT := Lib.hid hconvT
  have HRT := Lib.hid hRT
  have Ht1 := Lib.hid ht1
  have Ht2 := Lib.hid ht2
  have HNn := Lib.hid hNn
  have g0 := Lib.hid hg
  have B0 := Lib.hid (Below.refl w.heap.size w)
  clear t0 t1 t2 t3 hT70 hrT hkr ov ou vx vy nx ny lx ly o0 q0 e3 e4 A1 C1 x0 A6 E9 hau hav hc1 hc2 hc3 hconvT hRT ht1 ht2 hNn hvT sA sD sx sy hRTz hN hg hs hv hu hat
  generalize Uni.enc ((rns T).take k) ++ Uni.enc x ++ Uni.enc y ++ Uni.enc ((rns T).drop k) = S4 at *
  generalize Uni.enc ((rns T).take k) ++ Uni.enc x ++ Uni.enc y = S3 at *
  generalize Uni.enc ((rns T).take k) ++ Uni.enc x = S2 at *
  generalize applyS T o = U1 at *
  generalize Uni.enc x = sx at *
  generalize Uni.enc y = sy at *
  generalize rc T = R at *
  generalize rns T = rs at *
  generalize o.length = lo at *
  generalize q.length = lq at *
  generalize X.length = lX at *
  generalize Y.length = lY at *
  have hadd1 := Hav.out
  have hadd2 := Hau.out
  go_enter Tryd.func10, Tryd.ntmps10
  go_wp2_with fail
  refine (HL.out).mono ?_
  rintro e w1 ⟨rfl, hb⟩
  have B1 := Lib.hid (up B0.out hb)
  have g1 := Lib.hid (g0.out.below' hb)
  clear B0 g0 hb
  go_wp2_with fail
  refine (HR.out _).mono ?_
  rintro e w2 ⟨rfl, hb⟩
  have B2 := Lib.hid (up B1.out hb)
  have g2 := Lib.hid (g1.out.below' hb)
  clear B1 g1 hb
  go_wp2_with fail
  refine (HP.out _).mono ?_
  rintro e w3 ⟨rfl, hb⟩
  have B3 := Lib.hid (up B2.out hb)
  have g3 := Lib.hid (g2.out.below' hb)
  clear B2 g2 hb
  go_wp2_with fail
  refine (HV.out _).mono ?_
  rintro e w4 ⟨rfl, hb⟩
  have B4 := Lib.hid (up B3.out hb)
  have g4 := Lib.hid (g3.out.below' hb)
  clear B3 g3 hb
  go_wp2_with fail
  refine (HU.out _).mono ?_
  rintro e w5 ⟨rfl, hb⟩
  have B5 := Lib.hid (up B4.out hb)
  have g5 := Lib.hid (g4.out.below' hb)
  clear B4 g4 hb
  go_wp2_with fail
  refine (HR.out _).mono ?_
  rintro e w6 ⟨rfl, hb⟩
  have B6 := Lib.hid (up B5.out hb)
  have g6 := Lib.hid (g5.out.below' hb)
  clear B5 g5 hb
  go_wp2_with fail
  refine (HX.out _).mono ?_
  rintro e w7 ⟨ao, co, rfl, ro, hb⟩
  have B7 := Lib.hid (up B6.out hb)
  have g7 := Lib.hid (g6.out.below' hb)
  have ro7 := Lib.hid ro
  clear B6 g6 hb ro
  go_wp2_with fail
  refine (HR.out _).mono ?_
  rintro e w8 ⟨rfl, hb⟩
  have B8 := Lib.hid (up B7.out hb)
  have g8 := Lib.hid (g7.out.below' hb)
  have ro8 := Lib.hid (ro7.out.go hb)
  clear B7 g7 ro7 hb
  go_wp2_with fail
  refine (HY.out _).mono ?_
  rintro e w9 ⟨aq, cq, rfl, rq, hb⟩
  have B9 := Lib.hid (up B8.out hb)
  have g9 := Lib.hid (g8.out.below' hb)
  have ro9 := Lib.hid (ro8.out.go hb)
  have rq9 := Lib.hid rq
  clear B8 g8 ro8 hb rq
  go_wp2_with fail
  refine (HT.out _ _ _ _ _ _ _ g9.out ro9.out rq9.out).mono ?_
  rintro e w10 ⟨ax, cx, ay, cy, rfl, rx, ry, hb⟩
  have B10 := Lib.hid (up B9.out hb)
  have g10 := Lib.hid (g9.out.below' hb)
  have ro10 := Lib.hid (ro9.out.go hb)
  have rq10 := Lib.hid (rq9.out.go hb)
  have rx10 := Lib.hid rx
  have ry10 := Lib.hid ry
  clear B9 g9 ro9 rq9 hb rx ry
  clear rq10
  go_wp2_with fail
  refine (HA1.out _ _ _ _ g10.out ro10.out).mono ?_
  rintro e w11 ⟨rfl, hb⟩
  have B11 := Lib.hid (up B10.out hb)
  have g11 := Lib.hid (g10.out.below' hb)
  have ro11 := Lib.hid (ro10.out.go hb)
  have rx11 := Lib.hid (rx10.out.go hb)
  have ry11 := Lib.hid (ry10.out.go hb)
  clear B10 g10 ro10 rx10 ry10 hb
  clear ro11
  go_wp2_with fail
  refine (HA2.out _ _ _ _ g11.out ry11.out).mono ?_
  rintro e w12 ⟨rfl, hb⟩
  have B12 := Lib.hid (up B11.out hb)
  have g12 := Lib.hid (g11.out.below' hb)
  have rx12 := Lib.hid (rx11.out.go hb)
  have ry12 := Lib.hid (ry11.out.go hb)
  clear B11 g11 rx11 ry11 hb
  clear ry12
  have hcv := HcT.out w12
  have Hgc : Hid (N ≤ grownCap w12 N 0 21 ∧ grownCap w12 N 0 21 ≤ 9223372036854775807) := ⟨grownCap_ge _ _ _ _, Nat.le_trans (grownCap_le_maxLen _ _ _ _ (by unfold maxLen; omega)) (by unfold maxLen; omega)⟩
  generalize hgc : grownCap w12 N 0 21 = gc at *
  clear hgc HL HR HP HV HU HX HY HT HA1 HA2
  go_wp2_with fail
  refine abs_w (fun W => Below w12.heap.size w12 W ∧ RunesAt W w12.heap.size rs) ⟨?_, ?_⟩ ?_
  · exact ((Below.refl _ _).alloc (Nat.le_refl _) _).drew
  · exact runesAt_new w12 RT _ rs HRT.out _
  rintro w13 ⟨u13, hrn⟩
  have U13 := Lib.hid u13
  have HRn := Lib.hid hrn
  have B13 := Lib.hid (up B12.out u13)
  have g13 := Lib.hid (g12.out.below' u13)
  have rx13 := Lib.hid (rx12.out.go u13)
  clear u13 hrn hcv B12 g12 rx12
  obtain ⟨gc1, gc2⟩ := Hgc.out
  obtain ⟨Vp, HV⟩ : ∃ Vp : Nat → Value → World → Prop, Hid (Vp = fun i v W => match i with
      | 0 => v = .int .i64 0
      | 1 => v = .bool true
      | 2 => v = .bool true
      | 3 => v = .int .i64 0
      | 4 => v = .bool true
      | 5 => v = .bool true
      | 6 => v = .bool true
      | 7 => v = .int .i64 0
      | 8 => v = .bool true
      | 9 => v = .bool true
      | 10 => v = .bool true
      | 11 => v = .string S4
      | 12 => v = .slice (some ⟨w12.heap.size, 0, none⟩) N gc
      | 13 => v = .int .i64 (k : Int)
      | 14 => ∃ c, v = .slice (some ⟨w12.heap.size, 0, none⟩) k c
      | 15 => v = .string (Uni.enc (rs.take k))
      | 16 => v = .string sx
      | 17 => v = .string S2
      | 18 => v = .string sy
      | 19 => v = .string S3
      | 20 => v = .slice (some ⟨w12.heap.size, 0, none⟩) N gc
      | 21 => v = .int .i64 (k : Int)
      | 22 => ∃ o c, v = .slice (some ⟨w12.heap.size, o, none⟩) (N - k) c ∧ (o = k ∨ (k = N ∧ o = 0))
      | 23 => v = .string (Uni.enc (rs.drop k))
      | 24 => v = .string S4
      | 25 => v = .bool true
      | 26 => v = .bool true
      | 27 => v = .bool true
      | 28 => v = .slice ax lX cx
      | 29 => v = .int .i64 0
      | 30 => v = .bool true
      | 31 => v = .bool true
      | _ => v = .bool true) := ⟨_, rfl⟩
  refine region_lit2 (by kernel_rfl) (by kernel_rfl) (by kernel_rfl) [[], [0], [0, 1], [0, 1, 2], [0, 1, 2, 3], [0, 1, 2, 3, 4], [0, 1, 2, 3, 4, 5], [0, 1, 2, 3, 4, 5, 6], [0, 1, 2, 3, 4, 5, 6, 7], [0, 1, 2, 3, 4, 5, 6, 7, 8], [0, 1, 2, 3, 4, 5, 6, 7, 8, 9], [0, 1, 2, 3, 4, 5, 6, 7, 8, 9, 10], [0, 1, 2, 3, 4, 5, 6, 7, 8, 9, 10], [0, 1, 2, 3, 4, 5, 6, 7, 8, 9, 10], [0, 1, 2, 3, 4, 5, 6, 7, 8, 9, 10, 12, 13], [0, 1, 2, 3, 4, 5, 6, 7, 8, 9, 10, 12, 13, 14], [0, 1, 2, 3, 4, 5, 6, 7, 8, 9, 10], [0, 1, 2, 3, 4, 5, 6, 7, 8, 9, 10, 12, 13, 14, 15, 16], [0, 1, 2, 3, 4, 5, 6, 7, 8, 9, 10], [0, 1, 2, 3, 4, 5, 6, 7, 8, 9, 10, 12, 13, 14, 15, 16, 17, 18], [0, 1, 2, 3, 4, 5, 6, 7, 8, 9, 10], [0, 1, 2, 3, 4, 5, 6, 7, 8, 9, 10], [0, 1, 2, 3, 4, 5, 6, 7, 8, 9, 10, 20, 21], [0, 1, 2, 3, 4, 5, 6, 7, 8, 9, 10, 20, 21, 22], [0, 1, 2, 3, 4, 5, 6, 7, 8, 9, 10, 12, 13, 14, 15, 16, 17, 18, 19, 20, 21, 22, 23], [0, 1, 2, 3, 4, 5, 6, 7, 8, 9, 10, 11, 12, 13, 14, 15, 16, 17, 18, 19, 20, 21, 22, 23, 24], [0, 1, 2, 3, 4, 5, 6, 7, 8, 9, 10, 11, 12, 13, 14, 15, 16, 17, 18, 19, 20, 21, 22, 23, 24, 25], [0, 1, 2, 3, 4, 5, 6, 7, 8, 9, 10, 11, 12, 13, 14, 15, 16, 17, 18, 19, 20, 21, 22, 23, 24, 25, 26], [0, 1, 2, 3, 4, 5, 6, 7, 8, 9, 10, 11, 12, 13, 14, 15, 16, 17, 18, 19, 20, 21, 22, 23, 24, 25, 26, 27], [0, 1, 2, 3, 4, 5, 6, 7, 8, 9, 10, 11, 12, 13, 14, 15, 16, 17, 18, 19, 20, 21, 22, 23, 24, 25, 26, 27, 28], [0, 1, 2, 3, 4, 5, 6, 7, 8, 9, 10, 11, 12, 13, 14, 15, 16, 17, 18, 19, 20, 21, 22, 23, 24, 25, 26, 27, 28, 29], [0, 1, 2, 3, 4, 5, 6, 7, 8, 9, 10, 11, 12, 13, 14, 15, 16, 17, 18, 19, 20, 21, 22, 23, 24, 25, 26, 27, 28, 29, 30], [0, 1, 2, 3, 4, 5, 6, 7, 8, 9, 10, 11, 12, 13, 14, 15, 16, 17, 18, 19, 20, 21, 22, 23, 24, 25, 26, 27, 28, 29, 30, 31]] (by kernel_rfl) [some 66, some 67, some 68, some 69, some 70, some 71, some 72, some 73, some 74, some 75, some 76, some 77, some 78, some 79, some 80, some 81, some 82, some 83, some 84, some 85, some 86, some 87, some 88, some 89, some 90, some 91, some 92, some 93, some 94, some 95, some 96, some 97, some 8] (by kernel_rfl) [false, false, false, false, false, false, false, false, false, false, false, false, false, false, false, false, false, false, false, false, false, false, false, false, false, false, false, false, false, false, false, false, true] (by kernel_rfl)
    (fun W => Below w13.heap.size w13 W)
    Vp
    (fun W W' => Below W.heap.size W W')
    [fun x => ⟨#[undef, undef, undef, undef, undef, undef, undef, undef, undef, undef, undef, undef, undef, undef, undef, undef, undef, .int .i64 0, undef, undef, undef, undef, undef, undef, undef, undef, undef, undef, undef, undef, undef, undef, undef, undef, undef, undef, undef, undef, undef, undef, undef, undef, undef, undef, undef, undef, undef, undef, undef, undef, undef, undef, undef, undef, undef, undef, undef, undef, undef, undef, undef, undef, undef, undef, undef, undef, undef], []⟩,
   fun x => ⟨#[undef, undef, undef, undef, undef, undef, undef, undef, undef, undef, undef, undef, undef, undef, undef, undef, undef, undef, undef, undef, undef, undef, undef, undef, undef, undef, undef, undef, undef, undef, undef, undef, undef, undef, undef, undef, undef, undef, undef, undef, undef, undef, undef, undef, undef, undef, undef, undef, undef, undef, undef, undef, undef, undef, undef, undef, undef, undef, undef, undef, undef, undef, undef, undef, undef, undef, x 0, undef], []⟩,
   fun x => ⟨#[undef, undef, undef, undef, undef, undef, undef, undef, undef, undef, undef, undef, undef, undef, undef, undef, undef, undef, undef, undef, undef, undef, undef, undef, undef, undef, undef, undef, undef, undef, undef, undef, undef, undef, undef, undef, undef, undef, undef, undef, undef, undef, undef, undef, undef, undef, undef, undef, undef, undef, undef, undef, undef, undef, undef, undef, undef, undef, undef, undef, undef, undef, undef, undef, undef, undef, undef, x 1, undef], []⟩,
   fun x => ⟨#[undef, undef, undef, undef, undef, undef, undef, undef, undef, undef, undef, undef, undef, undef, undef, undef, undef, undef, undef, .int .i64 0, undef, undef, undef, undef, undef, undef, undef, undef, undef, undef, undef, undef, undef, undef, undef, undef, undef, undef, undef, undef, undef, undef, undef, undef, undef, undef, undef, undef, undef, undef, undef, undef, undef, undef, undef, undef, undef, undef, undef, undef, undef, undef, undef, undef, undef, undef, undef, undef, x 2, undef], []⟩,
   fun x => ⟨#[undef, undef, undef, undef, undef, undef, undef, undef, undef, undef, undef, undef, undef, undef, undef, undef, undef, undef, undef, undef, undef, undef, undef, undef, undef, undef, undef, undef, undef, undef, undef, undef, undef, undef, undef, undef, undef, undef, undef, undef, undef, undef, undef, undef, undef, undef, undef, undef, undef, undef, undef, undef, undef, undef, undef, undef, undef, undef, undef, undef, undef, undef, undef, undef, undef, undef, undef, undef, x 2, x 3, undef], []⟩,
   fun x => ⟨#[undef, undef, undef, undef, undef, undef, undef, undef, undef, undef, undef, undef, undef, undef, undef, undef, undef, undef, undef, undef, undef, undef, undef, undef, undef, undef, undef, undef, undef, undef, undef, undef, undef, undef, undef, undef, undef, undef, undef, undef, undef, undef, undef, undef, undef, undef, undef, undef, undef, undef, undef, undef, undef, undef, undef, undef, undef, undef, undef, undef, undef, undef, undef, undef, undef, undef, undef, undef, x 2, undef, x 4, undef], []⟩,
   fun x => ⟨#[undef, undef, undef, undef, undef, undef, undef, undef, undef, undef, undef, undef, undef, undef, undef, undef, undef, undef, undef, undef, undef, undef, undef, undef, undef, undef, undef, undef, undef, undef, undef, undef, undef, undef, undef, undef, undef, undef, undef, undef, undef, undef, undef, undef, undef, undef, undef, undef, undef, undef, undef, undef, undef, undef, undef, undef, undef, undef, undef, undef, undef, undef, undef, undef, undef, undef, undef, undef, undef, undef, undef, x 5, undef], []⟩,
   fun x => ⟨#[undef, undef, undef, undef, undef, undef, undef, undef, undef, undef, undef, undef, undef, undef, undef, undef, undef, undef, undef, undef, .int .i64 0, undef, undef, undef, undef, undef, undef, undef, undef, undef, undef, undef, undef, undef, undef, undef, undef, undef, undef, undef, undef, undef, undef, undef, undef, undef, undef, undef, undef, undef, undef, undef, undef, undef, undef, undef, undef, undef, undef, undef, undef, undef, undef, undef, undef, undef, undef, undef, undef, undef, undef, undef, x 6, undef], []⟩,
   fun x => ⟨#[undef, undef, undef, undef, undef, undef, undef, undef, undef, undef, undef, undef, undef, undef, undef, undef, undef, undef, undef, undef, undef, undef, undef, undef, undef, undef, undef, undef, undef, undef, undef, undef, undef, undef, undef, undef, undef, undef, undef, undef, undef, undef, undef, undef, undef, undef, undef, undef, undef, undef, undef, undef, undef, undef, undef, undef, undef, undef, undef, undef, undef, undef, undef, undef, undef, undef, undef, undef, undef, undef, undef, undef, x 6, x 7, undef], []⟩,
   fun x => ⟨#[undef, undef, undef, undef, undef, undef, undef, undef, undef, undef, undef, undef, undef, undef, undef, undef, undef, undef, undef, undef, undef, undef, undef, undef, undef, undef, undef, undef, undef, undef, undef, undef, undef, undef, undef, undef, undef, undef, undef, undef, undef, undef, undef, undef, undef, undef, undef, undef, undef, undef, undef, undef, undef, undef, undef, undef, undef, undef, undef, undef, undef, undef, undef, undef, undef, undef, undef, undef, undef, undef, undef, undef, x 6, undef, x 8, undef], []⟩,
   fun x => ⟨#[undef, undef, undef, undef, undef, undef, undef, undef, undef, undef, undef, undef, undef, undef, undef, undef, undef, undef, undef, undef, undef, undef, undef, undef, undef, undef, undef, undef, undef, undef, undef, undef, undef, undef, undef, undef, undef, undef, undef, undef, undef, undef, undef, undef, undef, undef, undef, undef, undef, undef, undef, undef, undef, undef, undef, undef, undef, undef, undef, undef, undef, undef, undef, undef, undef, undef, undef, undef, undef, undef, undef, undef, undef, undef, undef, x 9, undef], []⟩,
   fun x => ⟨#[undef, undef, undef, undef, undef, undef, undef, undef, undef, undef, undef, undef, undef, undef, undef, undef, undef, undef, .string S4, undef, undef, undef, undef, undef, undef, undef, undef, undef, undef, undef, undef, undef, undef, undef, undef, undef, undef, undef, undef, undef, undef, undef, undef, undef, undef, undef, undef, undef, undef, undef, undef, undef, undef, undef, undef, undef, undef, undef, undef, undef, undef, undef, undef, undef, undef, undef, undef, undef, undef, undef, undef, undef, undef, undef, undef, undef, x 10, undef], []⟩,
   fun x => ⟨#[undef, undef, undef, undef, undef, undef, undef, undef, undef, undef, undef, undef, undef, undef, undef, undef, undef, undef, undef, undef, undef, .slice (some ⟨w12.heap.size, 0, none⟩) N gc, undef, undef, undef, undef, undef, undef, undef, undef, undef, undef, undef, undef, undef, undef, undef, undef, undef, undef, undef, undef, undef, undef, undef, undef, undef, undef, undef, undef, undef, undef, undef, undef, undef, undef, undef, undef, undef, undef, undef, undef, undef, undef, undef, undef, undef, undef, undef, undef, undef, undef, undef, undef, undef, undef, x 10, undef, undef], []⟩,
   fun x => ⟨#[undef, undef, undef, undef, undef, undef, undef, undef, undef, undef, .int .i64 (k : Int), undef, undef, undef, undef, undef, undef, undef, undef, undef, undef, undef, undef, undef, undef, undef, undef, undef, undef, undef, undef, undef, undef, undef, undef, undef, undef, undef, undef, undef, undef, undef, undef, undef, undef, undef, undef, undef, undef, undef, undef, undef, undef, undef, undef, undef, undef, undef, undef, undef, undef, undef, undef, undef, undef, undef, undef, undef, undef, undef, undef, undef, undef, undef, undef, undef, x 10, undef, undef, undef], []⟩,
   fun x => ⟨#[undef, undef, undef, undef, undef, undef, undef, undef, undef, undef, undef, undef, undef, undef, undef, undef, undef, undef, undef, undef, undef, undef, undef, undef, undef, undef, undef, undef, undef, undef, undef, undef, undef, undef, undef, undef, undef, undef, undef, undef, undef, undef, undef, undef, undef, undef, undef, undef, undef, undef, undef, undef, undef, undef, undef, undef, undef, undef, undef, undef, undef, undef, undef, undef, undef, undef, undef, undef, undef, undef, undef, undef, undef, undef, undef, undef, x 10, undef, x 12, x 13, undef], []⟩,
   fun x => ⟨#[undef, undef, undef, undef, undef, undef, undef, undef, undef, undef, undef, undef, undef, undef, undef, undef, undef, undef, undef, undef, undef, undef, undef, undef, undef, undef, undef, undef, undef, undef, undef, undef, undef, undef, undef, undef, undef, undef, undef, undef, undef, undef, undef, undef, undef, undef, undef, undef, undef, undef, undef, undef, undef, undef, undef, undef, undef, undef, undef, undef, undef, undef, undef, undef, undef, undef, undef, undef, undef, undef, undef, undef, undef, undef, undef, undef, x 10, undef, undef, undef, x 14, undef], []⟩,
   fun x => ⟨#[undef, undef, undef, undef, undef, undef, undef, undef, undef, undef, undef, .string sx, undef, undef, undef, undef, undef, undef, undef, undef, undef, undef, undef, undef, undef, undef, undef, undef, undef, undef, undef, undef, undef, undef, undef, undef, undef, undef, undef, undef, undef, undef, undef, undef, undef, undef, undef, undef, undef, undef, undef, undef, undef, undef, undef, undef, undef, undef, undef, undef, undef, undef, undef, undef, undef, undef, undef, undef, undef, undef, undef, undef, undef, undef, undef, undef, x 10, undef, undef, undef, undef, undef, undef], []⟩,
   fun x => ⟨#[undef, undef, undef, undef, undef, undef, undef, undef, undef, undef, undef, undef, undef, undef, undef, undef, undef, undef, undef, undef, undef, undef, undef, undef, undef, undef, undef, undef, undef, undef, undef, undef, undef, undef, undef, undef, undef, undef, undef, undef, undef, undef, undef, undef, undef, undef, undef, undef, undef, undef, undef, undef, undef, undef, undef, undef, undef, undef, undef, undef, undef, undef, undef, undef, undef, undef, undef, undef, undef, undef, undef, undef, undef, undef, undef, undef, x 10, undef, undef, undef, undef, x 15, x 16, undef], []⟩,
   fun x => ⟨#[undef, undef, undef, undef, undef, undef, undef, undef, undef, undef, undef, undef, .string sy, undef, undef, undef, undef, undef, undef, undef, undef, undef, undef, undef, undef, undef, undef, undef, undef, undef, undef, undef, undef, undef, undef, undef, undef, undef, undef, undef, undef, undef, undef, undef, undef, undef, undef, undef, undef, undef, undef, undef, undef, undef, undef, undef, undef, undef, undef, undef, undef, undef, undef, undef, undef, undef, undef, undef, undef, undef, undef, undef, undef, undef, undef, undef, x 10, undef, undef, undef, undef, undef, undef, undef, undef], []⟩,
   fun x => ⟨#[undef, undef, undef, undef, undef, undef, undef, undef, undef, undef, undef, undef, undef, undef, undef, undef, undef, undef, undef, undef, undef, undef, undef, undef, undef, undef, undef, undef, undef, undef, undef, undef, undef, undef, undef, undef, undef, undef, undef, undef, undef, undef, undef, undef, undef, undef, undef, undef, undef, undef, undef, undef, undef, undef, undef, undef, undef, undef, undef, undef, undef, undef, undef, undef, undef, undef, undef, undef, undef, undef, undef, undef, undef, undef, undef, undef, x 10, undef, undef, undef, undef, undef, undef, x 17, x 18, undef], []⟩,
   fun x => ⟨#[undef, undef, undef, undef, undef, undef, undef, undef, undef, undef, undef, undef, undef, undef, undef, undef, undef, undef, undef, undef, undef, .slice (some ⟨w12.heap.size, 0, none⟩) N gc, undef, undef, undef, undef, undef, undef, undef, undef, undef, undef, undef, undef, undef, undef, undef, undef, undef, undef, undef, undef, undef, undef, undef, undef, undef, undef, undef, undef, undef, undef, undef, undef, undef, undef, undef, undef, undef, undef, undef, undef, undef, undef, undef, undef, undef, undef, undef, undef, undef, undef, undef, undef, undef, undef, x 10, undef, undef, undef, undef, undef, undef, undef, undef, undef, undef], []⟩,
   fun x => ⟨#[undef, undef, undef, undef, undef, undef, undef, undef, undef, undef, .int .i64 (k : Int), undef, undef, undef, undef, undef, undef, undef, undef, undef, undef, undef, undef, undef, undef, undef, undef, undef, undef, undef, undef, undef, undef, undef, undef, undef, undef, undef, undef, undef, undef, undef, undef, undef, undef, undef, undef, undef, undef, undef, undef, undef, undef, undef, undef, undef, undef, undef, undef, undef, undef, undef, undef, undef, undef, undef, undef, undef, undef, undef, undef, undef, undef, undef, undef, undef, x 10, undef, undef, undef, undef, undef, undef, undef, undef, undef, undef, undef], []⟩,
   fun x => ⟨#[undef, undef, undef, undef, undef, undef, undef, undef, undef, undef, undef, undef, undef, undef, undef, undef, undef, undef, undef, undef, undef, undef, undef, undef, undef, undef, undef, undef, undef, undef, undef, undef, undef, undef, undef, undef, undef, undef, undef, undef, undef, undef, undef, undef, undef, undef, undef, undef, undef, undef, undef, undef, undef, undef, undef, undef, undef, undef, undef, undef, undef, undef, undef, undef, undef, undef, undef, undef, undef, undef, undef, undef, undef, undef, undef, undef, x 10, undef, undef, undef, undef, undef, undef, undef, undef, undef, x 20, x 21, undef], []⟩,
   fun x => ⟨#[undef, undef, undef, undef, undef, undef, undef, undef, undef, undef, undef, undef, undef, undef, undef, undef, undef, undef, undef, undef, undef, undef, undef, undef, undef, undef, undef, undef, undef, undef, undef, undef, undef, undef, undef, undef, undef, undef, undef, undef, undef, undef, undef, undef, undef, undef, undef, undef, undef, undef, undef, undef, undef, undef, undef, undef, undef, undef, undef, undef, undef, undef, undef, undef, undef, undef, undef, undef, undef, undef, undef, undef, undef, undef, undef, undef, x 10, undef, undef, undef, undef, undef, undef, undef, undef, undef, undef, undef, x 22, undef], []⟩,
   fun x => ⟨#[undef, undef, undef, undef, undef, undef, undef, undef, undef, undef, undef, undef, undef, undef, undef, undef, undef, undef, undef, undef, undef, undef, undef, undef, undef, undef, undef, undef, undef, undef, undef, undef, undef, undef, undef, undef, undef, undef, undef, undef, undef, undef, undef, undef, undef, undef, undef, undef, undef, undef, undef, undef, undef, undef, undef, undef, undef, undef, undef, undef, undef, undef, undef, undef, undef, undef, undef, undef, undef, undef, undef, undef, undef, undef, undef, undef, x 10, undef, undef, undef, undef, undef, undef, undef, undef, x 19, undef, undef, undef, x 23, undef], []⟩,
   fun x => ⟨#[undef, undef, undef, undef, undef, undef, undef, undef, undef, undef, undef, undef, undef, undef, undef, undef, undef, undef, undef, undef, undef, undef, undef, undef, undef, undef, undef, undef, undef, undef, undef, undef, undef, undef, undef, undef, undef, undef, undef, undef, undef, undef, undef, undef, undef, undef, undef, undef, undef, undef, undef, undef, undef, undef, undef, undef, undef, undef, undef, undef, undef, undef, undef, undef, undef, undef, undef, undef, undef, undef, undef, undef, undef, undef, undef, undef, x 10, x 11, undef, undef, undef, undef, undef, undef, undef, undef, undef, undef, undef, undef, x 24, undef], []⟩,
   fun x => ⟨#[undef, undef, undef, undef, undef, undef, undef, undef, undef, undef, undef, undef, undef, undef, undef, undef, undef, undef, undef, undef, undef, undef, undef, undef, undef, undef, undef, undef, undef, undef, undef, undef, undef, undef, undef, undef, undef, undef, undef, undef, undef, undef, undef, undef, undef, undef, undef, undef, undef, undef, undef, undef, undef, undef, undef, undef, undef, undef, undef, undef, undef, undef, undef, undef, undef, undef, undef, undef, undef, undef, undef, undef, undef, undef, undef, undef, x 10, undef, undef, undef, undef, undef, undef, undef, undef, undef, undef, undef, undef, undef, undef, x 25, undef], []⟩,
   fun x => ⟨#[undef, undef, undef, undef, undef, undef, undef, undef, undef, undef, undef, undef, undef, undef, undef, undef, undef, undef, undef, undef, undef, undef, undef, undef, undef, undef, undef, undef, undef, undef, undef, undef, undef, undef, undef, undef, undef, undef, undef, undef, undef, undef, undef, undef, undef, undef, undef, undef, undef, undef, undef, undef, undef, undef, undef, undef, undef, undef, undef, undef, undef, undef, undef, undef, undef, undef, undef, undef, undef, undef, undef, undef, undef, undef, undef, undef, undef, undef, undef, undef, undef, undef, undef, undef, undef, undef, undef, undef, undef, undef, undef, undef, x 26, undef], []⟩,
   fun x => ⟨#[undef, undef, undef, undef, undef, undef, undef, undef, undef, undef, undef, undef, undef, undef, undef, .slice ax lX cx, undef, undef, undef, undef, undef, undef, undef, undef, undef, undef, undef, undef, undef, undef, undef, undef, undef, undef, undef, undef, undef, undef, undef, undef, undef, undef, undef, undef, undef, undef, undef, undef, undef, undef, undef, undef, undef, undef, undef, undef, undef, undef, undef, undef, undef, undef, undef, undef, undef, undef, undef, undef, undef, undef, undef, undef, undef, undef, undef, undef, undef, undef, undef, undef, undef, undef, undef, undef, undef, undef, undef, undef, undef, undef, undef, undef, undef, x 27, undef], []⟩,
   fun x => ⟨#[undef, undef, undef, undef, undef, undef, undef, undef, undef, undef, undef, undef, undef, undef, undef, undef, undef, undef, undef, undef, undef, undef, undef, undef, undef, undef, undef, undef, undef, undef, undef, undef, undef, undef, undef, undef, undef, undef, undef, undef, undef, undef, undef, undef, undef, undef, undef, undef, undef, undef, undef, undef, undef, undef, undef, undef, undef, undef, undef, undef, undef, undef, undef, undef, undef, undef, undef, undef, undef, undef, undef, undef, undef, undef, undef, undef, undef, undef, undef, undef, undef, undef, undef, undef, undef, undef, undef, undef, undef, undef, undef, undef, undef, x 27, x 28, undef], []⟩,
   fun x => ⟨#[undef, undef, undef, undef, undef, undef, undef, undef, undef, undef, undef, undef, undef, undef, undef, undef, undef, undef, undef, undef, undef, undef, undef, undef, undef, undef, undef, undef, undef, undef, undef, undef, undef, undef, undef, undef, undef, undef, undef, undef, undef, undef, undef, undef, undef, undef, undef, undef, undef, undef, undef, undef, undef, undef, undef, undef, undef, undef, undef, undef, undef, undef, undef, undef, undef, undef, undef, undef, undef, undef, undef, undef, undef, undef, undef, undef, undef, undef, undef, undef, undef, undef, undef, undef, undef, undef, undef, undef, undef, undef, undef, undef, undef, x 27, undef, x 29, undef], []⟩,
   fun x => ⟨#[undef, undef, undef, undef, undef, undef, undef, undef, undef, undef, undef, undef, undef, undef, undef, undef, undef, undef, undef, undef, undef, undef, undef, undef, undef, undef, undef, undef, undef, undef, undef, undef, undef, undef, undef, undef, undef, undef, undef, undef, undef, undef, undef, undef, undef, undef, undef, undef, undef, undef, undef, undef, undef, undef, undef, undef, undef, undef, undef, undef, undef, undef, undef, undef, undef, undef, undef, undef, undef, undef, undef, undef, undef, undef, undef, undef, undef, undef, undef, undef, undef, undef, undef, undef, undef, undef, undef, undef, undef, undef, undef, undef, undef, x 27, undef, undef, x 30, undef], []⟩,
   fun x => ⟨#[undef, undef, undef, undef, undef, undef, undef, undef, undef, undef, undef, undef, undef, undef, undef, undef, undef, undef, undef, undef, undef, undef, undef, undef, undef, undef, undef, undef, undef, undef, undef, undef, undef, undef, undef, undef, undef, undef, undef, undef, undef, undef, undef, undef, undef, undef, undef, undef, undef, undef, undef, undef, undef, undef, undef, undef, undef, undef, undef, undef, undef, undef, undef, undef, undef, undef, undef, undef, undef, undef, undef, undef, undef, undef, undef, undef, undef, undef, undef, undef, undef, undef, undef, undef, undef, undef, undef, undef, undef, undef, undef, undef, undef, undef, undef, undef, undef, x 31], []⟩]
    ?hF ?mono ?h0 ?step ?fin
  case hF =>
    exact ⟨fun x => ⟨by kernel_rfl, by kernel_rfl⟩, fun x => ⟨by kernel_rfl, by kernel_rfl⟩, fun x => ⟨by kernel_rfl, by kernel_rfl⟩, fun x => ⟨by kernel_rfl, by kernel_rfl⟩, fun x => ⟨by kernel_rfl, by kernel_rfl⟩, fun x => ⟨by kernel_rfl, by kernel_rfl⟩, fun x => ⟨by kernel_rfl, by kernel_rfl⟩, fun x => ⟨by kernel_rfl, by kernel_rfl⟩, fun x => ⟨by kernel_rfl, by kernel_rfl⟩, fun x => ⟨by kernel_rfl, by kernel_rfl⟩, fun x => ⟨by kernel_rfl, by kernel_rfl⟩, fun x => ⟨by kernel_rfl, by kernel_rfl⟩, fun x => ⟨by kernel_rfl, by kernel_rfl⟩, fun x => ⟨by kernel_rfl, by kernel_rfl⟩, fun x => ⟨by kernel_rfl, by kernel_rfl⟩, fun x => ⟨by kernel_rfl, by kernel_rfl⟩, fun x => ⟨by kernel_rfl, by kernel_rfl⟩, fun x => ⟨by kernel_rfl, by kernel_rfl⟩, fun x => ⟨by kernel_rfl, by kernel_rfl⟩, fun x => ⟨by kernel_rfl, by kernel_rfl⟩, fun x => ⟨by kernel_rfl, by kernel_rfl⟩, fun x => ⟨by kernel_rfl, by kernel_rfl⟩, fun x => ⟨by kernel_rfl, by kernel_rfl⟩, fun x => ⟨by kernel_rfl, by kernel_rfl⟩, fun x => ⟨by kernel_rfl, by kernel_rfl⟩, fun x => ⟨by kernel_rfl, by kernel_rfl⟩, fun x => ⟨by kernel_rfl, by kernel_rfl⟩, fun x => ⟨by kernel_rfl, by kernel_rfl⟩, fun x => ⟨by kernel_rfl, by kernel_rfl⟩, fun x => ⟨by kernel_rfl, by kernel_rfl⟩, fun x => ⟨by kernel_rfl, by kernel_rfl⟩, fun x => ⟨by kernel_rfl, by kernel_rfl⟩, fun x => ⟨by kernel_rfl, by kernel_rfl⟩, trivial⟩
  case mono =>
    intro i hi v W W' hE hv
    rw [HV.out] at hv ⊢
    match i, hi with
    | 0, _ | 1, _ | 2, _ | 3, _ | 4, _ | 5, _ | 6, _ | 7, _ | 8, _ | 9, _ | 10, _ | 11, _ | 12, _ | 13, _ | 14, _ | 15, _ | 16, _ | 17, _ | 18, _ | 19, _ | 20, _ | 21, _ | 22, _ | 23, _ | 24, _ | 25, _ | 26, _ | 27, _ | 28, _ | 29, _ | 30, _ | 31, _ => exact hv
    | m + 32, h => exact absurd h (by cases m <;> simp)
  case h0 => first | exact (Below.refl _ _).drew | exact Below.drew (by assumption) | (refine Below.drew ?_; assumption)
  case step =>
    refine ⟨?_, ?_, ?_, ?_, ?_, ?_, ?_, ?_, ?_, ?_, ?_, ?_, ?_, ?_, ?_, ?_, ?_, ?_, ?_, ?_, ?_, ?_, ?_, ?_, ?_, ?_, ?_, ?_, ?_, ?_, ?_, ?_, ?_, trivial⟩
    all_goals
      intro x W hI hV
      rw [HV.out] at hV
      simp only [AllV, and_true] at hV
    · clear hV
      (try dsimp only)
      go_wp2_with fail
      exact step_done rfl hI (Below.refl _ _) (toV HV rfl)
    · have u0 := hV
      clear hV
      simp only [u0]
      clear u0
      go_wp2_with fail
      exact step_done rfl hI (Below.refl _ _) (toV HV rfl)
    · obtain ⟨u0, u1⟩ := hV
      simp only [u1]
      clear u0 u1
      go_wp2_with fail
      exact step_done rfl hI (Below.refl _ _) (toV HV rfl)
    · obtain ⟨u0, u1, u2⟩ := hV
      simp only [u2]
      clear u0 u1 u2
      go_wp2_with fail
      exact step_done rfl hI (Below.refl _ _) (toV HV rfl)
    · obtain ⟨u0, u1, u2, u3⟩ := hV
      simp only [u2, u3]
      clear u0 u1 u2 u3
      go_wp2_with fail
      exact step_done rfl hI (Below.refl _ _) (toV HV rfl)
    · obtain ⟨u0, u1, u2, u3, u4⟩ := hV
      simp only [u2, u4]
      clear u0 u1 u2 u3 u4
      go_wp2_with fail
      exact step_done rfl hI (Below.refl _ _) (toV HV rfl)
    · obtain ⟨u0, u1, u2, u3, u4, u5⟩ := hV
      simp only [u5]
      clear u0 u1 u2 u3 u4 u5
      go_wp2_with fail
      exact step_done rfl hI (Below.refl _ _) (toV HV rfl)
    · obtain ⟨u0, u1, u2, u3, u4, u5, u6⟩ := hV
      simp only [u6]
      clear u0 u1 u2 u3 u4 u5 u6
      go_wp2_with fail
      exact step_done rfl hI (Below.refl _ _) (toV HV rfl)
    · obtain ⟨u0, u1, u2, u3, u4, u5, u6, u7⟩ := hV
      simp only [u6, u7]
      clear u0 u1 u2 u3 u4 u5 u6 u7
      go_wp2_with fail
      exact step_done rfl hI (Below.refl _ _) (toV HV rfl)
    · obtain ⟨u0, u1, u2, u3, u4, u5, u6, u7, u8⟩ := hV
      simp only [u6, u8]
      clear u0 u1 u2 u3 u4 u5 u6 u7 u8
      go_wp2_with fail
      exact step_done rfl hI (Below.refl _ _) (toV HV rfl)
    · obtain ⟨u0, u1, u2, u3, u4, u5, u6, u7, u8, u9⟩ := hV
      simp only [u9]
      clear u0 u1 u2 u3 u4 u5 u6 u7 u8 u9
      go_wp2_with fail
      exact step_done rfl hI (Below.refl _ _) (toV HV rfl)
    · obtain ⟨u0, u1, u2, u3, u4, u5, u6, u7, u8, u9, u10⟩ := hV
      simp only [u10]
      clear u0 u1 u2 u3 u4 u5 u6 u7 u8 u9 u10
      go_wp2_with fail
      exact step_done rfl hI (Below.refl _ _) (toV HV rfl)
    · obtain ⟨u0, u1, u2, u3, u4, u5, u6, u7, u8, u9, u10⟩ := hV
      simp only [u10]
      clear u0 u1 u2 u3 u4 u5 u6 u7 u8 u9 u10
      go_wp2_with fail
      exact step_done rfl hI (Below.refl _ _) (toV HV rfl)
    · obtain ⟨u0, u1, u2, u3, u4, u5, u6, u7, u8, u9, u10⟩ := hV
      simp only [u10]
      clear u0 u1 u2 u3 u4 u5 u6 u7 u8 u9 u10
      go_wp2_with fail
      exact step_done rfl hI (Below.refl _ _) (toV HV rfl)
    · obtain ⟨u0, u1, u2, u3, u4, u5, u6, u7, u8, u9, u10, u12, u13⟩ := hV
      simp only [u10, u12, u13]
      clear u0 u1 u2 u3 u4 u5 u6 u7 u8 u9 u10 u12 u13
      have i1 : (0 : Int) ≤ ((k : Nat) : Int) := by omega
      have i2 : ((k : Nat) : Int) ≤ ((gc : Nat) : Int) := by omega
      go_wp2_with fail
      exact step_done rfl hI (Below.refl _ _) (toV HV ⟨_, rfl⟩)
    · obtain ⟨u0, u1, u2, u3, u4, u5, u6, u7, u8, u9, u10, u12, u13, ⟨c14, u14⟩⟩ := hV
      simp only [u10, u14]
      clear u0 u1 u2 u3 u4 u5 u6 u7 u8 u9 u10 u12 u13 u14
      have hcv := (HRn.out.below hI HRn.out.1).conv 0 k c14 (by have := HNn.out; omega)
      rw [Ht1.out] at hcv
      go_wp2_with fail
      exact step_done rfl hI (Below.refl _ _) (toV HV rfl)
    · obtain ⟨u0, u1, u2, u3, u4, u5, u6, u7, u8, u9, u10⟩ := hV
      simp only [u10]
      clear u0 u1 u2 u3 u4 u5 u6 u7 u8 u9 u10
      go_wp2_with fail
      exact step_done rfl hI (Below.refl _ _) (toV HV rfl)
    · obtain ⟨u0, u1, u2, u3, u4, u5, u6, u7, u8, u9, u10, u12, u13, ⟨c14, u14⟩, u15, u16⟩ := hV
      simp only [u10, u15, u16]
      clear u0 u1 u2 u3 u4 u5 u6 u7 u8 u9 u10 u12 u13 u14 u15 u16
      have hcc := Hc1.out W
      go_wp2_with fail
      exact step_done rfl hI (Below.refl _ _) (toV HV rfl)
    · obtain ⟨u0, u1, u2, u3, u4, u5, u6, u7, u8, u9, u10⟩ := hV
      simp only [u10]
      clear u0 u1 u2 u3 u4 u5 u6 u7 u8 u9 u10
      go_wp2_with fail
      exact step_done rfl hI (Below.refl _ _) (toV HV rfl)
    · obtain ⟨u0, u1, u2, u3, u4, u5, u6, u7, u8, u9, u10, u12, u13, ⟨c14, u14⟩, u15, u16, u17, u18⟩ := hV
      simp only [u10, u17, u18]
      clear u0 u1 u2 u3 u4 u5 u6 u7 u8 u9 u10 u12 u13 u14 u15 u16 u17 u18
      have hcc := Hc2.out W
      go_wp2_with fail
      exact step_done rfl hI (Below.refl _ _) (toV HV rfl)
    · obtain ⟨u0, u1, u2, u3, u4, u5, u6, u7, u8, u9, u10⟩ := hV
      simp only [u10]
      clear u0 u1 u2 u3 u4 u5 u6 u7 u8 u9 u10
      go_wp2_with fail
      exact step_done rfl hI (Below.refl _ _) (toV HV rfl)
    · obtain ⟨u0, u1, u2, u3, u4, u5, u6, u7, u8, u9, u10⟩ := hV
      simp only [u10]
      clear u0 u1 u2 u3 u4 u5 u6 u7 u8 u9 u10
      go_wp2_with fail
      exact step_done rfl hI (Below.refl _ _) (toV HV rfl)
    · obtain ⟨u0, u1, u2, u3, u4, u5, u6, u7, u8, u9, u10, u20, u21⟩ := hV
      simp only [u10, u20, u21]
      clear u0 u1 u2 u3 u4 u5 u6 u7 u8 u9 u10 u20 u21
      have i1 : (0 : Int) ≤ ((k : Nat) : Int) := by omega
      have i2 : ((k : Nat) : Int) ≤ ((N : Nat) : Int) := by omega
      have i3 : ((N : Nat) : Int) ≤ ((gc : Nat) : Int) := by omega
      by_cases hck : k < gc
      · go_wp2_with fail
        exact step_done rfl hI (Below.refl _ _) (toV HV ⟨_, _, rfl, .inl rfl⟩)
      · have hkg : gc = k := by omega
        have hkN : k = N := by omega
        have HkN := Lib.hid hkN
        clear hkN
        subst hkg
        go_wp2_with fail
        exact step_done rfl hI (Below.refl _ _) (toV HV ⟨0, 0, by rw [show N - gc = 0 from by have := HkN.out; omega], .inr ⟨HkN.out, rfl⟩⟩)
    · obtain ⟨u0, u1, u2, u3, u4, u5, u6, u7, u8, u9, u10, u20, u21, ⟨o22, c22, u22, h22⟩⟩ := hV
      simp only [u10, u22]
      clear u0 u1 u2 u3 u4 u5 u6 u7 u8 u9 u10 u20 u21 u22
      have hcv : (convert 48 9 (.slice (some ⟨w12.heap.size, o22, none⟩) (N - k) c22)).run Tryd.prog W = .ok (.string (Uni.enc (rs.drop k))) W := by
        have h1 := (HRn.out.below hI HRn.out.1).conv o22 (N - k) c22 (by have := HNn.out; omega)
        rcases h22 with h | h
        · rw [h, Ht2.out] at h1; rw [h]; exact h1
        · have h2 := Ht2.out
          rw [← h2]
          have e1 : N - k = 0 := by omega
          rw [e1] at h1 ⊢
          simpa using h1
      clear h22
      go_wp2_with fail
      exact step_done rfl hI (Below.refl _ _) (toV HV rfl)
    · obtain ⟨u0, u1, u2, u3, u4, u5, u6, u7, u8, u9, u10, u12, u13, ⟨c14, u14⟩, u15, u16, u17, u18, u19, u20, u21, ⟨o22, c22, u22, h22⟩, u23⟩ := hV
      simp only [u10, u19, u23]
      clear u0 u1 u2 u3 u4 u5 u6 u7 u8 u9 u10 u12 u13 u14 u15 u16 u17 u18 u19 u20 u21 u22 u23
      have hcc := Hc3.out W
      go_wp2_with fail
      exact step_done rfl hI (Below.refl _ _) (toV HV rfl)
    · obtain ⟨u0, u1, u2, u3, u4, u5, u6, u7, u8, u9, u10, u11, u12, u13, ⟨c14, u14⟩, u15, u16, u17, u18, u19, u20, u21, ⟨o22, c22, u22, h22⟩, u23, u24⟩ := hV
      simp only [u10, u11, u24]
      clear u0 u1 u2 u3 u4 u5 u6 u7 u8 u9 u10 u11 u12 u13 u14 u15 u16 u17 u18 u19 u20 u21 u22 u23 u24
      go_wp2_with fail
      exact step_done rfl hI (Below.refl _ _) (toV HV rfl)
    · obtain ⟨u0, u1, u2, u3, u4, u5, u6, u7, u8, u9, u10, u11, u12, u13, ⟨c14, u14⟩, u15, u16, u17, u18, u19, u20, u21, ⟨o22, c22, u22, h22⟩, u23, u24, u25⟩ := hV
      simp only [u10, u25]
      clear u0 u1 u2 u3 u4 u5 u6 u7 u8 u9 u10 u11 u12 u13 u14 u15 u16 u17 u18 u19 u20 u21 u22 u23 u24 u25
      go_wp2_with fail
      exact step_done rfl hI (Below.refl _ _) (toV HV rfl)
    · obtain ⟨u0, u1, u2, u3, u4, u5, u6, u7, u8, u9, u10, u11, u12, u13, ⟨c14, u14⟩, u15, u16, u17, u18, u19, u20, u21, ⟨o22, c22, u22, h22⟩, u23, u24, u25, u26⟩ := hV
      simp only [u26]
      clear u0 u1 u2 u3 u4 u5 u6 u7 u8 u9 u10 u11 u12 u13 u14 u15 u16 u17 u18 u19 u20 u21 u22 u23 u24 u25 u26
      go_wp2_with fail
      exact step_done rfl hI (Below.refl _ _) (toV HV rfl)
    · obtain ⟨u0, u1, u2, u3, u4, u5, u6, u7, u8, u9, u10, u11, u12, u13, ⟨c14, u14⟩, u15, u16, u17, u18, u19, u20, u21, ⟨o22, c22, u22, h22⟩, u23, u24, u25, u26, u27⟩ := hV
      simp only [u27]
      clear u0 u1 u2 u3 u4 u5 u6 u7 u8 u9 u10 u11 u12 u13 u14 u15 u16 u17 u18 u19 u20 u21 u22 u23 u24 u25 u26 u27
      go_wp2_with fail
      exact step_done rfl hI (Below.refl _ _) (toV HV rfl)
    · obtain ⟨u0, u1, u2, u3, u4, u5, u6, u7, u8, u9, u10, u11, u12, u13, ⟨c14, u14⟩, u15, u16, u17, u18, u19, u20, u21, ⟨o22, c22, u22, h22⟩, u23, u24, u25, u26, u27, u28⟩ := hV
      simp only [u27, u28]
      clear u0 u1 u2 u3 u4 u5 u6 u7 u8 u9 u10 u11 u12 u13 u14 u15 u16 u17 u18 u19 u20 u21 u22 u23 u24 u25 u26 u27 u28
      have HI := Lib.hid hI
      clear hI
      go_wp2_with fail
      refine (HC.out _ _ _ _ (g13.out.below' HI.out) (rx13.out.go HI.out)).mono ?_
      rintro e W' ⟨rfl, uW⟩
      have HW := Lib.hid (up HI.out uW)
      have HU := Lib.hid uW
      clear uW
      go_wp2_with fail
      exact step_done rfl HW.out HU.out (toV HV rfl)
    · obtain ⟨u0, u1, u2, u3, u4, u5, u6, u7, u8, u9, u10, u11, u12, u13, ⟨c14, u14⟩, u15, u16, u17, u18, u19, u20, u21, ⟨o22, c22, u22, h22⟩, u23, u24, u25, u26, u27, u28, u29⟩ := hV
      simp only [u27, u29]
      clear u0 u1 u2 u3 u4 u5 u6 u7 u8 u9 u10 u11 u12 u13 u14 u15 u16 u17 u18 u19 u20 u21 u22 u23 u24 u25 u26 u27 u28 u29
      go_wp2_with fail
      exact step_done rfl hI (Below.refl _ _) (toV HV rfl)
    · obtain ⟨u0, u1, u2, u3, u4, u5, u6, u7, u8, u9, u10, u11, u12, u13, ⟨c14, u14⟩, u15, u16, u17, u18, u19, u20, u21, ⟨o22, c22, u22, h22⟩, u23, u24, u25, u26, u27, u28, u29, u30⟩ := hV
      simp only [u27, u30]
      clear u0 u1 u2 u3 u4 u5 u6 u7 u8 u9 u10 u11 u12 u13 u14 u15 u16 u17 u18 u19 u20 u21 u22 u23 u24 u25 u26 u27 u28 u29 u30
      go_wp2_with fail
      exact step_done rfl hI (Below.refl _ _) (toV HV rfl)
    · obtain ⟨u0, u1, u2, u3, u4, u5, u6, u7, u8, u9, u10, u11, u12, u13, ⟨c14, u14⟩, u15, u16, u17, u18, u19, u20, u21, ⟨o22, c22, u22, h22⟩, u23, u24, u25, u26, u27, u28, u29, u30, u31⟩ := hV
      simp only [u31]
      clear u0 u1 u2 u3 u4 u5 u6 u7 u8 u9 u10 u11 u12 u13 u14 u15 u16 u17 u18 u19 u20 u21 u22 u23 u24 u25 u26 u27 u28 u29 u30 u31
      go_wp2_with fail
      exact step_done rfl hI (Below.refl _ _) (toV HV rfl)
  case fin =>
    intro x W hI hV
    rw [HV.out] at hV
    simp only [AllV, and_true, List.length_cons, List.length_nil, List.range, List.range.loop] at hV
    obtain ⟨u0, u1, u2, u3, u4, u5, u6, u7, u8, u9, u10, u11, u12, u13, ⟨c14, u14⟩, u15, u16, u17, u18, u19, u20, u21, ⟨o22, c22, u22, h22⟩, u23, u24, u25, u26, u27, u28, u29, u30, u31, u32⟩ := hV
    simp only [getsD, List.getD_cons_succ, List.getD_cons_zero, List.length_cons, List.length_nil, List.range, List.range.loop, u0, u1, u2, u3, u4, u5, u6, u7, u8, u9, u10, u11, u12, u13, u14, u15, u16, u17, u18, u19, u20, u21, u22, u23, u24, u25, u26, u27, u28, u29, u30, u31, u32, Act.put, List.setIfInBounds_toArray, List.set_cons_succ, List.set_cons_zero]
    clear u0 u1 u2 u3 u4 u5 u6 u7 u8 u9 u10 u11 u12 u13 u14 u15 u16 u17 u18 u19 u20 u21 u22 u23 u24 u25 u26 u27 u28 u29 u30 u31 u32
    have HF := Lib.hid (up B13.out hI)
    clear hI
    go_wp2_with fail
    go_ret
    exact ⟨rfl, HF.out⟩
end Go.Proofs.YtajijhnnnekhmaaDoor
