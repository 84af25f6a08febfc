/- The walk of EdgeUpper (printed by gen_upper.py). -/
import Derived.Test.YtkhacogeffidoaaDoorFirst
import Derived.Test.YtkhacogeffidoaaDoorReg3
set_option linter.unusedVariables false
set_option linter.unusedSimpArgs false
namespace Go.Proofs.YtkhacogeffidoaaDoor
open Go.RowKit

set_option maxRecDepth 100000 in
set_option maxHeartbeats 8000000 in
theorem edgeUpper_walk (w : World) (hg : Good w) (s : Str) (hs : s.size ≤ maxLen) (at_ : Int) (hat : I64 at_) (v : Str) (hv : v.size ≤ maxLen) (u : Str) (hu : u.size ≤ maxLen) :
    Calls Tryd.prog 13 #[.string s, .int .i64 at_, .string v, .string u] w fun e w' => e = .returned (.bool true) ∧ Below w.heap.size w w' := by
  have HL := Lib.hid (letters_any s 20 w hs (by omega))
  have HV := Lib.hid (fun W => letters_any v 3 W hv (by omega))
  have HU := Lib.hid (fun W => letters_any u 3 W hu (by omega))
  obtain ⟨t0, t1, t2, t3⟩ := letters_ok s 20 (by omega)
  generalize letters s 20 = T at *
  have hT70 : T.size ≤ 70368744177664 := by omega
  have HR := Lib.hid (fun W => runes_any T W hT70)
  have hrT := rc_rns T
  have hkr := pk_range at_ (rc T + 1) (by omega)
  have HP := Lib.hid (fun W => (picked_any at_ (rc T + 1) W hat (by omega) (by omega)).mono fun e w' (h : e = .returned (.int .i64 (pk at_ (rc T + 1))) ∧ W = w') => (⟨h.1, h.2 ▸ Below.refl _ _⟩ : e = .returned (.int .i64 (pk at_ (rc T + 1))) ∧ Below W.heap.size W w'))
  generalize pk at_ (rc T + 1) = K at *
  obtain ⟨k, rfl⟩ : ∃ k : Nat, K = (k : Int) := ⟨K.toNat, by omega⟩
  obtain ⟨N, hN⟩ : ∃ n : Nat, (n : Int) = rc T := ⟨(rns T).length, hrT.symm⟩
  have ov := letters_ok v 3 (by omega)
  have ou := letters_ok u 3 (by omega)
  have hav : ∀ W : World, (Op.stringOp .add ⟨#[49]⟩ (letters v 3)).run Tryd.prog W = .ok (.string (Uni.enc (49 :: lets v 3))) W := fun W => by
    rw [← one_text]; exact run_string_add_sum W _ _ (by show 1 + (letters v 3).size ≤ _; omega)
  have hau : ∀ W : World, (Op.stringOp .add ⟨#[50]⟩ (letters u 3)).run Tryd.prog W = .ok (.string (Uni.enc (50 :: lets u 3))) W := fun W => by
    rw [← two_text]; exact run_string_add_sum W _ _ (by show 1 + (letters u 3).size ≤ _; omega)
  have vx : ∀ r ∈ 49 :: lets v 3, Uni.vr r := by
    intro r hr; rcases List.mem_cons.1 hr with rfl | hr
    · unfold Uni.vr; omega
    · exact lets_vr v 3 r hr
  have vy : ∀ r ∈ 50 :: lets u 3, Uni.vr r := by
    intro r hr; rcases List.mem_cons.1 hr with rfl | hr
    · unfold Uni.vr; omega
    · exact lets_vr u 3 r hr
  have nx : (49 :: lets v 3) ≠ [] := by simp
  have ny : (50 :: lets u 3) ≠ [] := by simp
  have lx : (49 :: lets v 3).length ≤ 4 := by have := lets_len v 3; simp only [List.length_cons]; omega
  have ly : (50 :: lets u 3).length ≤ 4 := by have := lets_len u 3; simp only [List.length_cons]; omega
  generalize 49 :: lets v 3 = x at *
  generalize 50 :: lets u 3 = y at *
  generalize letters v 3 = LV at *
  generalize letters u 3 = LU at *
  obtain ⟨o0, q0, e5, eA, eB, z1, z2, A1, A2, E1, E2⟩ := upper_law t0 N k hN (by omega) (by omega) x y nx ny vx vy (by omega) (by omega)
  have HX := Lib.hid (fun W => here_go N k x W vx (by omega) (by omega) (by omega))
  have HY := Lib.hid (fun W => here_go N k y W vy (by omega) (by omega) (by omega))
  rw [hN] at HX HY
  generalize hereO N k x = o at *
  generalize hereO N k y = q at *
  have HS1 := Lib.hid (fun W a c hg hr => send_rd 0 0 [] o none a 0 0 o.length c W hg (RdS.none' W) hr (by unfold I64; omega) (by unfold I64; omega) (sendE_first o0))
  have HS2 := Lib.hid (fun W a c hg hr => send_rd 0 0 [] q none a 0 0 q.length c W hg (RdS.none' W) hr (by unfold I64; omega) (by unfold I64; omega) (sendE_first q0))
  have HH1 : Hid (∀ W a c b d, Good W → RdS (· < W.heap.size) W [o] a 1 c → RdS (· < W.heap.size) W q b q.length d → Calls Tryd.prog 32 #[.agg #[.int .i64 1, .int .i64 0, .slice a 1 c], .slice b q.length d, .int .i64 0, .bool true] W fun e w' => ∃ a c b d, e = .returned (.tuple #[.agg #[.int .i64 1, .int .i64 1, .slice a 1 c], .slice b (trY o q).length d, .int .i64 0]) ∧ RdS (· < w'.heap.size) w' (trY o q) b (trY o q).length d ∧ Below W.heap.size W w') := fun W a c b d hg h1 h2 => by
    obtain ⟨r1, r2, r3, r4⟩ := ehE_one o0 q0 true (by show trE o q = 0; exact e5)
    refine (hear_rd 1 0 [o] q 0 true a b 1 c q.length d W hg h1 h2 (by unfold I64; omega) (by unfold I64; omega) r1).mono ?_
    rw [r2, r3, r4, show stepO true o q = trY o q from eB]
    rintro e w' ⟨a', c', b', d', rfl, -, r6, r7⟩
    exact ⟨a', c', b', d', rfl, r6, r7⟩
  have HH2 : Hid (∀ W a c b d, Good W → RdS (· < W.heap.size) W [q] a 1 c → RdS (· < W.heap.size) W o b o.length d → Calls Tryd.prog 32 #[.agg #[.int .i64 1, .int .i64 0, .slice a 1 c], .slice b o.length d, .int .i64 0, .bool false] W fun e w' => ∃ a c b d, e = .returned (.tuple #[.agg #[.int .i64 1, .int .i64 1, .slice a 1 c], .slice b (trX o q).length d, .int .i64 0]) ∧ RdS (· < w'.heap.size) w' (trX o q) b (trX o q).length d ∧ Below W.heap.size W w') := fun W a c b d hg h1 h2 => by
    obtain ⟨r1, r2, r3, r4⟩ := ehE_one q0 o0 false (by show trE o q = 0; exact e5)
    refine (hear_rd 1 0 [q] o 0 false a b 1 c o.length d W hg h1 h2 (by unfold I64; omega) (by unfold I64; omega) r1).mono ?_
    rw [r2, r3, r4, show stepO false q o = trX o q from eA]
    rintro e w' ⟨a', c', b', d', rfl, -, r6, r7⟩
    exact ⟨a', c', b', d', rfl, r6, r7⟩
  simp only [List.nil_append, List.length_nil, Nat.zero_add, Int.zero_add] at HS1 HS2
  generalize trX o q = X at *
  generalize trY o q = Y at *
  have HA1 := Lib.hid (fun a n c W hg hr => apply_any (Uni.enc ((rns T).take k) ++ Uni.enc x ++ Uni.enc ((rns T).drop k)) Y a n c W hg hr (by omega))
  have HA2 := Lib.hid (fun a n c W hg hr => apply_any (Uni.enc ((rns T).take k) ++ Uni.enc y ++ Uni.enc ((rns T).drop k)) X a n c W hg hr (by omega))
  rw [A1, E1] at HA1
  rw [A2, E2] at HA2
  obtain ⟨RT, hRTz, hRT, hconvT⟩ := runes_of T hT70
  have hvT := rns_vr (valid_of t0).1
  have sA : (Uni.enc ((rns T).take k)).size ≤ 4 * 20 := by
    have := enc_size ((rns T).take k) (fun r hr => hvT r (List.mem_of_mem_take hr))
    have h2 : ((rns T).take k).length ≤ (rns T).length := by rw [List.length_take]; omega
    omega
  have sD : (Uni.enc ((rns T).drop k)).size ≤ 4 * 20 := by
    have := enc_size ((rns T).drop k) (fun r hr => hvT r (List.mem_of_mem_drop hr))
    have h2 : ((rns T).drop k).length ≤ (rns T).length := by rw [List.length_drop]; omega
    omega
  have sx := enc_size x vx
  have sy := enc_size y vy
  have hc1 : ∀ W : World, (Op.stringOp .add (Uni.enc ((rns T).take k)) (Uni.enc x)).run Tryd.prog W = .ok (.string (Uni.enc ((rns T).take k) ++ Uni.enc x)) W := fun W => run_string_add_sum W _ _ (by omega)
  have hc2 : ∀ W : World, (Op.stringOp .add (Uni.enc ((rns T).take k)) (Uni.enc y)).run Tryd.prog W = .ok (.string (Uni.enc ((rns T).take k) ++ Uni.enc y)) W := fun W => run_string_add_sum W _ _ (by omega)
  have hc3 : ∀ W : World, (Op.stringOp .add (Uni.enc ((rns T).take k) ++ Uni.enc x) (Uni.enc ((rns T).drop k))).run Tryd.prog W = .ok (.string (Uni.enc ((rns T).take k) ++ Uni.enc x ++ Uni.enc ((rns T).drop k))) W := fun W => run_string_add_sum W _ _ (by rw [size_app]; omega)
  have hc4 : ∀ W : World, (Op.stringOp .add (Uni.enc ((rns T).take k) ++ Uni.enc y) (Uni.enc ((rns T).drop k))).run Tryd.prog W = .ok (.string (Uni.enc ((rns T).take k) ++ Uni.enc y ++ Uni.enc ((rns T).drop k))) W := fun W => run_string_add_sum W _ _ (by rw [size_app]; omega)
  have hc5 : ∀ W : World, (Op.stringOp .add (Uni.enc ((rns T).take k) ++ Uni.enc x) (Uni.enc y)).run Tryd.prog W = .ok (.string (Uni.enc ((rns T).take k) ++ Uni.enc x ++ Uni.enc y)) W := fun W => run_string_add_sum W _ _ (by rw [size_app]; omega)
  have hc6 : ∀ W : World, (Op.stringOp .add (Uni.enc ((rns T).take k) ++ Uni.enc x ++ Uni.enc y) (Uni.enc ((rns T).drop k))).run Tryd.prog W = .ok (.string (Uni.enc ((rns T).take k) ++ Uni.enc x ++ Uni.enc y ++ Uni.enc ((rns T).drop k))) W := fun W => run_string_add_sum W _ _ (by rw [size_app, size_app]; omega)
  have ht1 : ((rns T).drop 0).take k = (rns T).take k := by rw [List.drop_zero]
  have ht2 : ((rns T).drop k).take (N - k) = (rns T).drop k := List.take_of_length_le (by rw [List.length_drop]; omega)
  have hNn : (rns T).length = N := by omega
  have hkN : k ≤ N := by omega
  have hN20 : N ≤ 20 := by omega
  rw [hNn] at hconvT
  have iy1 : IntKind.i64.wrap (rc T + 1) = rc T + 1 := IntWalk.i64_in _ (by omega)
  have Hau := Lib.hid hau
  have Hav := Lib.hid hav
  have Hc1 := Lib.hid hc1
  have Hc2 := Lib.hid hc2
  have Hc3 := Lib.hid hc3
  have Hc4 := Lib.hid hc4
  have Hc5 := Lib.hid hc5
  have Hc6 := Lib.hid hc6
  have HcT := Lib.hid hconvT
  have HRT := Lib.hid hRT
  have Ht1 := Lib.hid ht1
  have Ht2 := Lib.hid ht2
  have HNn := Lib.hid hNn
  have g0 := Lib.hid hg
  have B0 := Lib.hid (Below.refl w.heap.size w)
  clear t0 t1 t2 t3 hT70 hrT hkr ov ou vx vy nx ny lx ly o0 q0 e5 eA eB z1 z2 A1 A2 E1 E2 hau hav hc1 hc2 hc3 hc4 hc5 hc6 hconvT hRT ht1 ht2 hNn hvT sA sD sx sy hRTz hN hg hs hv hu hat
  generalize Uni.enc ((rns T).take k) ++ Uni.enc x ++ Uni.enc y ++ Uni.enc ((rns T).drop k) = S4 at *
  generalize Uni.enc ((rns T).take k) ++ Uni.enc x ++ Uni.enc y = S3 at *
  generalize Uni.enc ((rns T).take k) ++ Uni.enc x ++ Uni.enc ((rns T).drop k) = S1 at *
  generalize Uni.enc ((rns T).take k) ++ Uni.enc y ++ Uni.enc ((rns T).drop k) = S5 at *
  generalize Uni.enc ((rns T).take k) ++ Uni.enc x = S2 at *
  generalize Uni.enc ((rns T).take k) ++ Uni.enc y = S6 at *
  generalize Uni.enc x = sx at *
  generalize Uni.enc y = sy at *
  generalize rc T = R at *
  generalize rns T = rs at *
  generalize hlo : o.length = lo at *
  generalize hlq : q.length = lq at *
  generalize X.length = lX at *
  generalize Y.length = lY at *
  clear hlo hlq
  have hadd1 := Hav.out
  have hadd2 := Hau.out
  go_enter Tryd.func13, Tryd.ntmps13
  go_wp2_with fail
  refine (HL.out).mono ?_
  rintro e w1 ⟨rfl, hb⟩
  have B1 := Lib.hid (up B0.out hb)
  have g1 := Lib.hid (g0.out.below' hb)
  clear B0 g0 hb
  go_wp2_with fail
  refine (HR.out _).mono ?_
  rintro e w2 ⟨rfl, hb⟩
  have B2 := Lib.hid (up B1.out hb)
  have g2 := Lib.hid (g1.out.below' hb)
  clear B1 g1 hb
  go_wp2_with fail
  refine (HP.out _).mono ?_
  rintro e w3 ⟨rfl, hb⟩
  have B3 := Lib.hid (up B2.out hb)
  have g3 := Lib.hid (g2.out.below' hb)
  clear B2 g2 hb
  go_wp2_with fail
  refine (HV.out _).mono ?_
  rintro e w4 ⟨rfl, hb⟩
  have B4 := Lib.hid (up B3.out hb)
  have g4 := Lib.hid (g3.out.below' hb)
  clear B3 g3 hb
  go_wp2_with fail
  refine (HU.out _).mono ?_
  rintro e w5 ⟨rfl, hb⟩
  have B5 := Lib.hid (up B4.out hb)
  have g5 := Lib.hid (g4.out.below' hb)
  clear B4 g4 hb
  go_wp2_with fail
  refine (HX.out _).mono ?_
  rintro e w6 ⟨ao, co, rfl, ro, hb⟩
  have B6 := Lib.hid (up B5.out hb)
  have g6 := Lib.hid (g5.out.below' hb)
  have ro6 := Lib.hid ro
  clear B5 g5 hb ro
  go_wp2_with fail
  refine (HS1.out _ _ _ g6.out ro6.out).mono ?_
  rintro e w7 ⟨a1, c1, rfl, r1, hb⟩
  have B7 := Lib.hid (up B6.out hb)
  have g7 := Lib.hid (g6.out.below' hb)
  have ro7 := Lib.hid (ro6.out.go hb)
  have r17 := Lib.hid r1
  clear B6 g6 ro6 hb r1
  clear ro7
  go_wp2_with fail
  refine abs_run (fun W => Below w7.heap.size w7 W ∧ Blk w7.heap.size (.cells #[.int .i64 1, .int .i64 0, .slice a1 1 c1] 71 (0, 0)) W) ⟨(by (repeat (first | exact Below.refl _ _ | assumption | (refine Below.drew ?_) | (refine below_drewN ?_ _) | (refine Below.alloc ?_ (by first | (simp; done) | (simp; omega) | omega) _) | (refine Below.setCell ?_ (by first | (simp; done) | (simp; omega) | omega) _) | (refine Below.trans ?_ (Below.mono (by assumption) (by first | (simp; done) | (simp; omega) | omega)))))), Blk.new w7 _⟩ ?_
  rintro w8 ⟨hb, b1⟩
  have B8 := Lib.hid (up B7.out hb)
  have g8 := Lib.hid (g7.out.below' hb)
  have r18 := Lib.hid (r17.out.go hb)
  have b18 := Lib.hid b1
  clear B7 g7 r17 hb b1
  refine (HY.out _).mono ?_
  rintro e w9 ⟨aq, cq, rfl, rq, hb⟩
  have B9 := Lib.hid (up B8.out hb)
  have g9 := Lib.hid (g8.out.below' hb)
  have r19 := Lib.hid (r18.out.go hb)
  have b19 := Lib.hid (b18.out.go hb)
  have rq9 := Lib.hid rq
  clear B8 g8 r18 b18 hb rq
  go_wp2_with fail
  refine (HS2.out _ _ _ g9.out rq9.out).mono ?_
  rintro e w10 ⟨a2, c2, rfl, r2, hb⟩
  have B10 := Lib.hid (up B9.out hb)
  have g10 := Lib.hid (g9.out.below' hb)
  have r110 := Lib.hid (r19.out.go hb)
  have b110 := Lib.hid (b19.out.go hb)
  have rq10 := Lib.hid (rq9.out.go hb)
  have r210 := Lib.hid r2
  clear B9 g9 r19 b19 rq9 hb r2
  clear rq10
  go_wp2_with fail
  refine abs_w (fun W => Below w10.heap.size w10 W ∧ Blk w10.heap.size (.cells #[.int .i64 1, .int .i64 0, .slice a2 1 c2] 71 (0, 0)) W) ⟨(Below.refl _ _).alloc (Nat.le_refl _) _, Blk.new w10 _⟩ ?_
  rintro w11 ⟨u11, x2⟩
  have B11 := Lib.hid (up B10.out u11)
  have G9 := Lib.hid (g10.out.below' u11)
  have X1 := Lib.hid (b110.out.go u11)
  have X2 := Lib.hid x2
  have R1 := Lib.hid (r110.out.go u11)
  have R2 := Lib.hid (r210.out.go u11)
  clear u11 x2 B10 g10 b110 r110 r210 HL HR HP HV HU HS1 HS2
  obtain ⟨Vp, HV⟩ : ∃ Vp : Nat → Value → World → Prop, Hid (Vp = fun i v W => match i with
      | 0 => v = .agg #[.int .i64 1, .int .i64 0, .slice a1 1 c1]
      | 1 => v = .int .i64 R
      | 2 => v = .int .i64 (k : Int)
      | 3 => v = .string sy
      | 4 => ∃ a c, v = .slice a lq c ∧ RdS (· < W.heap.size) W q a lq c
      | 5 => ∃ x0 x1 x2 x3 x4 a c, v = .tuple #[.agg #[.int .i64 x0, .int .i64 x1, .slice x2 x3 x4], .slice a lY c, .int .i64 0] ∧ RdS (· < W.heap.size) W Y a lY c
      | 6 => ∃ x0 x1 x2 x3 x4 a c, v = .tuple #[.agg #[.int .i64 x0, .int .i64 x1, .slice x2 x3 x4], .slice a lY c, .int .i64 0] ∧ RdS (· < W.heap.size) W Y a lY c
      | 7 => ∃ x0 x1 x2 x3 x4, v = .agg #[.int .i64 x0, .int .i64 x1, .slice x2 x3 x4]
      | 8 => ∃ a c, v = .slice a lY c ∧ RdS (· < W.heap.size) W Y a lY c
      | 9 => v = .int .i64 0
      | 10 => ∃ g, v = .pointer (some ⟨g, 0, none⟩) ∧ w11.heap.size ≤ g ∧ Blk g (.cells zeroEd 71 (0, 0)) W
      | 11 => v = undef
      | 12 => ∃ a c, v = .slice a lY c ∧ RdS (· < W.heap.size) W Y a lY c
      | _ => v = .int .i64 0) := ⟨_, rfl⟩
  obtain ⟨Ip, HIp⟩ : ∃ Ip : (Nat → Bool) → (Nat → Value) → World → Prop, Hid (Ip = fun L x W => (Below w11.heap.size w11 W)) := ⟨_, rfl⟩
  refine region_lit3 (by kernel_rfl) (by kernel_rfl) (by kernel_rfl) [[], [], [], [], [1, 2, 3], [0, 1, 2, 3, 4], [0, 1, 2, 3, 4, 5], [0, 1, 2, 3, 4, 5, 6], [0, 1, 2, 3, 4, 5, 6], [0, 1, 2, 3, 4, 5, 6], [], [0, 1, 2, 3, 4, 5, 6, 7, 10], [0, 1, 2, 3, 4, 5, 6, 8], [0, 1, 2, 3, 4, 5, 6, 9]] (by kernel_rfl) [some 63, some 64, some 65, some 66, some 67, some 68, some 62, some 69, some 70, some 71, some 18, none, some 19, some 20] (by kernel_rfl) [[0, 5, 6, 7, 8, 9, 11, 12, 13], [1, 4, 5, 6, 7, 8, 9, 11, 12, 13], [2, 4, 5, 6, 7, 8, 9, 11, 12, 13], [3, 4, 5, 6, 7, 8, 9, 11, 12, 13], [4, 5, 6, 7, 8, 9, 11, 12, 13], [5, 6, 7, 8, 9, 11, 12, 13], [6, 7, 8, 9, 11, 12, 13], [7, 11], [8, 12], [9, 13], [10, 11], [11], [12], [13]] (by kernel_rfl) [[11], [], [], [], [11], [], [], [], [], [], [11], [], [], []] [[], [], [], [], [1, 2, 3], [0, 4], [5], [6], [6], [6], [], [7, 10], [8], [9]] (by kernel_rfl)
    Ip
    Vp
    (fun j W W' => match j with
      | 11 => ∃ g, Blk g (.cells zeroEd 71 (0, 0)) W ∧ Touch (fun z => z = g) W W' ∧ w11.heap.size ≤ g
      | _ => Below W.heap.size W W')
    [fun x => ⟨#[undef, undef, undef, undef, undef, undef, undef, undef, undef, undef, undef, undef, undef, undef, .pointer (some ⟨w7.heap.size, 0, none⟩), undef, undef, undef, undef, undef, undef, undef, undef, undef, undef, undef, undef, undef, undef, undef, undef, undef, undef, undef, undef, undef, undef, undef, undef, undef, undef, undef, undef, undef, undef, undef, undef, undef, undef, undef, undef, undef, undef, undef, undef, undef, undef, undef, undef, undef, undef, undef, undef, undef], []⟩,
   fun x => ⟨#[undef, undef, undef, undef, undef, undef, undef, undef, undef, undef, .int .i64 R, undef, undef, undef, undef, undef, undef, undef, undef, undef, undef, undef, undef, undef, undef, undef, undef, undef, undef, undef, undef, undef, undef, undef, undef, undef, undef, undef, undef, undef, undef, undef, undef, undef, undef, undef, undef, undef, undef, undef, undef, undef, undef, undef, undef, undef, undef, undef, undef, undef, undef, undef, undef, undef, undef], []⟩,
   fun x => ⟨#[undef, undef, undef, undef, undef, undef, undef, undef, undef, undef, undef, .int .i64 (k : Int), undef, undef, undef, undef, undef, undef, undef, undef, undef, undef, undef, undef, undef, undef, undef, undef, undef, undef, undef, undef, undef, undef, undef, undef, undef, undef, undef, undef, undef, undef, undef, undef, undef, undef, undef, undef, undef, undef, undef, undef, undef, undef, undef, undef, undef, undef, undef, undef, undef, undef, undef, undef, undef, undef], []⟩,
   fun x => ⟨#[undef, undef, undef, undef, undef, undef, undef, undef, undef, undef, undef, undef, undef, .string sy, undef, undef, undef, undef, undef, undef, undef, undef, undef, undef, undef, undef, undef, undef, undef, undef, undef, undef, undef, undef, undef, undef, undef, undef, undef, undef, undef, undef, undef, undef, undef, undef, undef, undef, undef, undef, undef, undef, undef, undef, undef, undef, undef, undef, undef, undef, undef, undef, undef, undef, undef, undef, undef], []⟩,
   fun x => ⟨#[undef, undef, undef, undef, undef, undef, undef, undef, undef, undef, undef, undef, undef, undef, undef, undef, undef, undef, undef, undef, undef, undef, undef, undef, undef, undef, undef, undef, undef, undef, undef, undef, undef, undef, undef, undef, undef, undef, undef, undef, undef, undef, undef, undef, undef, undef, undef, undef, undef, undef, undef, undef, undef, undef, undef, undef, undef, undef, undef, undef, undef, undef, undef, undef, x 1, x 2, x 3, undef], []⟩,
   fun x => ⟨#[undef, undef, undef, undef, undef, undef, undef, undef, undef, undef, undef, undef, undef, undef, undef, undef, undef, undef, undef, undef, undef, undef, undef, undef, undef, undef, undef, undef, undef, undef, undef, undef, undef, undef, undef, undef, undef, undef, undef, undef, undef, undef, undef, undef, undef, undef, undef, undef, undef, undef, undef, undef, undef, undef, undef, undef, undef, undef, undef, undef, undef, undef, undef, x 0, undef, undef, undef, x 4, undef], []⟩,
   fun x => ⟨#[undef, undef, undef, undef, undef, undef, undef, undef, undef, undef, undef, undef, undef, undef, undef, undef, undef, undef, undef, undef, undef, undef, undef, undef, undef, undef, undef, undef, undef, undef, undef, undef, undef, undef, undef, undef, undef, undef, undef, undef, undef, undef, undef, undef, undef, undef, undef, undef, undef, undef, undef, undef, undef, undef, undef, undef, undef, undef, undef, undef, undef, undef, undef, undef, undef, undef, undef, undef, x 5], []⟩,
   fun x => ⟨#[undef, undef, undef, undef, undef, undef, undef, undef, undef, undef, undef, undef, undef, undef, undef, undef, undef, undef, undef, undef, undef, undef, undef, undef, undef, undef, undef, undef, undef, undef, undef, undef, undef, undef, undef, undef, undef, undef, undef, undef, undef, undef, undef, undef, undef, undef, undef, undef, undef, undef, undef, undef, undef, undef, undef, undef, undef, undef, undef, undef, undef, undef, x 6, undef, undef, undef, undef, undef, undef, undef], []⟩,
   fun x => ⟨#[undef, undef, undef, undef, undef, undef, undef, undef, undef, undef, undef, undef, undef, undef, undef, undef, undef, undef, undef, undef, undef, undef, undef, undef, undef, undef, undef, undef, undef, undef, undef, undef, undef, undef, undef, undef, undef, undef, undef, undef, undef, undef, undef, undef, undef, undef, undef, undef, undef, undef, undef, undef, undef, undef, undef, undef, undef, undef, undef, undef, undef, undef, x 6, undef, undef, undef, undef, undef, undef, undef, undef], []⟩,
   fun x => ⟨#[undef, undef, undef, undef, undef, undef, undef, undef, undef, undef, undef, undef, undef, undef, undef, undef, undef, undef, undef, undef, undef, undef, undef, undef, undef, undef, undef, undef, undef, undef, undef, undef, undef, undef, undef, undef, undef, undef, undef, undef, undef, undef, undef, undef, undef, undef, undef, undef, undef, undef, undef, undef, undef, undef, undef, undef, undef, undef, undef, undef, undef, undef, x 6, undef, undef, undef, undef, undef, undef, undef, undef, undef], []⟩,
   fun x => ⟨#[undef, undef, undef, undef, undef, undef, undef, undef, undef, undef, undef, undef, undef, undef, undef, undef, undef, undef, undef], []⟩,
   fun x => ⟨#[undef, undef, undef, undef, undef, undef, undef, undef, undef, undef, undef, undef, undef, undef, undef, undef, undef, undef, x 10, undef, undef, undef, undef, undef, undef, undef, undef, undef, undef, undef, undef, undef, undef, undef, undef, undef, undef, undef, undef, undef, undef, undef, undef, undef, undef, undef, undef, undef, undef, undef, undef, undef, undef, undef, undef, undef, undef, undef, undef, undef, undef, undef, undef, undef, undef, undef, undef, undef, undef, x 7], []⟩,
   fun x => ⟨#[undef, undef, undef, undef, undef, undef, undef, undef, undef, undef, undef, undef, undef, undef, undef, undef, undef, undef, undef, undef, undef, undef, undef, undef, undef, undef, undef, undef, undef, undef, undef, undef, undef, undef, undef, undef, undef, undef, undef, undef, undef, undef, undef, undef, undef, undef, undef, undef, undef, undef, undef, undef, undef, undef, undef, undef, undef, undef, undef, undef, undef, undef, undef, undef, undef, undef, undef, undef, undef, undef, x 8], []⟩,
   fun x => ⟨#[undef, undef, undef, undef, undef, undef, undef, undef, undef, undef, undef, undef, undef, undef, undef, undef, undef, undef, undef, undef, undef, undef, undef, undef, undef, undef, undef, undef, undef, undef, undef, undef, undef, undef, undef, undef, undef, undef, undef, undef, undef, undef, undef, undef, undef, undef, undef, undef, undef, undef, undef, undef, undef, undef, undef, undef, undef, undef, undef, undef, undef, undef, undef, undef, undef, undef, undef, undef, undef, undef, undef, x 9], []⟩]
    ?hF ?mono ?h0 ?step [1, 2, 3, 5, 6, 7, 8, 9, 11, 12, 13] (by kernel_rfl) ?fin
  case hF =>
    exact ⟨fun x => ⟨by kernel_rfl, by kernel_rfl⟩, fun x => ⟨by kernel_rfl, by kernel_rfl⟩, fun x => ⟨by kernel_rfl, by kernel_rfl⟩, fun x => ⟨by kernel_rfl, by kernel_rfl⟩, fun x => ⟨by kernel_rfl, by kernel_rfl⟩, fun x => ⟨by kernel_rfl, by kernel_rfl⟩, fun x => ⟨by kernel_rfl, by kernel_rfl⟩, fun x => ⟨by kernel_rfl, by kernel_rfl⟩, fun x => ⟨by kernel_rfl, by kernel_rfl⟩, fun x => ⟨by kernel_rfl, by kernel_rfl⟩, fun x => ⟨by kernel_rfl, by kernel_rfl⟩, fun x => ⟨by kernel_rfl, by kernel_rfl⟩, fun x => ⟨by kernel_rfl, by kernel_rfl⟩, fun x => ⟨by kernel_rfl, by kernel_rfl⟩, trivial⟩
  case mono =>
    intro i j hi hj hne hna hnk v W W' hE hv
    rw [HV.out] at hv ⊢
    simp only [List.length_cons, List.length_nil] at hi hj
    match i, hi with
    | 0, _ | 1, _ | 2, _ | 3, _ | 9, _ | 11, _ | 13, _ => exact hv
    | 4, _ =>
      match j, hj with
      | 4, _ => exact absurd rfl hne
      | 1, _ => exact absurd (by simp) hna
      | 2, _ => exact absurd (by simp) hna
      | 3, _ => exact absurd (by simp) hna
      | 11, _ => exact absurd (by simp) hnk
      | 0, _ => exact (by obtain ⟨a, c, e, h⟩ := hv; exact ⟨a, c, e, h.go hE⟩)
      | 5, _ => exact (by obtain ⟨a, c, e, h⟩ := hv; exact ⟨a, c, e, h.go hE⟩)
      | 6, _ => exact (by obtain ⟨a, c, e, h⟩ := hv; exact ⟨a, c, e, h.go hE⟩)
      | 7, _ => exact (by obtain ⟨a, c, e, h⟩ := hv; exact ⟨a, c, e, h.go hE⟩)
      | 8, _ => exact (by obtain ⟨a, c, e, h⟩ := hv; exact ⟨a, c, e, h.go hE⟩)
      | 9, _ => exact (by obtain ⟨a, c, e, h⟩ := hv; exact ⟨a, c, e, h.go hE⟩)
      | 10, _ => exact (by obtain ⟨a, c, e, h⟩ := hv; exact ⟨a, c, e, h.go hE⟩)
      | 12, _ => exact (by obtain ⟨a, c, e, h⟩ := hv; exact ⟨a, c, e, h.go hE⟩)
      | 13, _ => exact (by obtain ⟨a, c, e, h⟩ := hv; exact ⟨a, c, e, h.go hE⟩)
      | m + 14, h => exact absurd h (by omega)
    | 5, _ =>
      match j, hj with
      | 5, _ => exact absurd rfl hne
      | 0, _ => exact absurd (by simp) hna
      | 1, _ => exact absurd (by simp) hna
      | 2, _ => exact absurd (by simp) hna
      | 3, _ => exact absurd (by simp) hna
      | 4, _ => exact absurd (by simp) hna
      | 6, _ => exact (by obtain ⟨x0, x1, x2, x3, x4, a, c, e, h⟩ := hv; exact ⟨x0, x1, x2, x3, x4, a, c, e, h.go hE⟩)
      | 7, _ => exact (by obtain ⟨x0, x1, x2, x3, x4, a, c, e, h⟩ := hv; exact ⟨x0, x1, x2, x3, x4, a, c, e, h.go hE⟩)
      | 8, _ => exact (by obtain ⟨x0, x1, x2, x3, x4, a, c, e, h⟩ := hv; exact ⟨x0, x1, x2, x3, x4, a, c, e, h.go hE⟩)
      | 9, _ => exact (by obtain ⟨x0, x1, x2, x3, x4, a, c, e, h⟩ := hv; exact ⟨x0, x1, x2, x3, x4, a, c, e, h.go hE⟩)
      | 10, _ => exact (by obtain ⟨x0, x1, x2, x3, x4, a, c, e, h⟩ := hv; exact ⟨x0, x1, x2, x3, x4, a, c, e, h.go hE⟩)
      | 11, _ => exact (by obtain ⟨x0, x1, x2, x3, x4, a, c, e, h⟩ := hv; obtain ⟨g, hz, ht, -⟩ := hE; exact ⟨x0, x1, x2, x3, x4, a, c, e, h.offE hz ht⟩)
      | 12, _ => exact (by obtain ⟨x0, x1, x2, x3, x4, a, c, e, h⟩ := hv; exact ⟨x0, x1, x2, x3, x4, a, c, e, h.go hE⟩)
      | 13, _ => exact (by obtain ⟨x0, x1, x2, x3, x4, a, c, e, h⟩ := hv; exact ⟨x0, x1, x2, x3, x4, a, c, e, h.go hE⟩)
      | m + 14, h => exact absurd h (by omega)
    | 6, _ =>
      match j, hj with
      | 6, _ => exact absurd rfl hne
      | 0, _ => exact absurd (by simp) hna
      | 1, _ => exact absurd (by simp) hna
      | 2, _ => exact absurd (by simp) hna
      | 3, _ => exact absurd (by simp) hna
      | 4, _ => exact absurd (by simp) hna
      | 5, _ => exact absurd (by simp) hna
      | 7, _ => exact (by obtain ⟨x0, x1, x2, x3, x4, a, c, e, h⟩ := hv; exact ⟨x0, x1, x2, x3, x4, a, c, e, h.go hE⟩)
      | 8, _ => exact (by obtain ⟨x0, x1, x2, x3, x4, a, c, e, h⟩ := hv; exact ⟨x0, x1, x2, x3, x4, a, c, e, h.go hE⟩)
      | 9, _ => exact (by obtain ⟨x0, x1, x2, x3, x4, a, c, e, h⟩ := hv; exact ⟨x0, x1, x2, x3, x4, a, c, e, h.go hE⟩)
      | 10, _ => exact (by obtain ⟨x0, x1, x2, x3, x4, a, c, e, h⟩ := hv; exact ⟨x0, x1, x2, x3, x4, a, c, e, h.go hE⟩)
      | 11, _ => exact (by obtain ⟨x0, x1, x2, x3, x4, a, c, e, h⟩ := hv; obtain ⟨g, hz, ht, -⟩ := hE; exact ⟨x0, x1, x2, x3, x4, a, c, e, h.offE hz ht⟩)
      | 12, _ => exact (by obtain ⟨x0, x1, x2, x3, x4, a, c, e, h⟩ := hv; exact ⟨x0, x1, x2, x3, x4, a, c, e, h.go hE⟩)
      | 13, _ => exact (by obtain ⟨x0, x1, x2, x3, x4, a, c, e, h⟩ := hv; exact ⟨x0, x1, x2, x3, x4, a, c, e, h.go hE⟩)
      | m + 14, h => exact absurd h (by omega)
    | 7, _ =>
      match j, hj with
      | 7, _ => exact absurd rfl hne
      | 0, _ => exact absurd (by simp) hna
      | 1, _ => exact absurd (by simp) hna
      | 2, _ => exact absurd (by simp) hna
      | 3, _ => exact absurd (by simp) hna
      | 4, _ => exact absurd (by simp) hna
      | 5, _ => exact absurd (by simp) hna
      | 6, _ => exact absurd (by simp) hna
      | 8, _ => exact (id hv)
      | 9, _ => exact (id hv)
      | 10, _ => exact (id hv)
      | 11, _ => exact (id hv)
      | 12, _ => exact (id hv)
      | 13, _ => exact (id hv)
      | m + 14, h => exact absurd h (by omega)
    | 8, _ =>
      match j, hj with
      | 8, _ => exact absurd rfl hne
      | 0, _ => exact absurd (by simp) hna
      | 1, _ => exact absurd (by simp) hna
      | 2, _ => exact absurd (by simp) hna
      | 3, _ => exact absurd (by simp) hna
      | 4, _ => exact absurd (by simp) hna
      | 5, _ => exact absurd (by simp) hna
      | 6, _ => exact absurd (by simp) hna
      | 7, _ => exact (by obtain ⟨a, c, e, h⟩ := hv; exact ⟨a, c, e, h.go hE⟩)
      | 9, _ => exact (by obtain ⟨a, c, e, h⟩ := hv; exact ⟨a, c, e, h.go hE⟩)
      | 10, _ => exact (by obtain ⟨a, c, e, h⟩ := hv; exact ⟨a, c, e, h.go hE⟩)
      | 11, _ => exact (by obtain ⟨a, c, e, h⟩ := hv; obtain ⟨g, hz, ht, -⟩ := hE; exact ⟨a, c, e, h.offE hz ht⟩)
      | 12, _ => exact (by obtain ⟨a, c, e, h⟩ := hv; exact ⟨a, c, e, h.go hE⟩)
      | 13, _ => exact (by obtain ⟨a, c, e, h⟩ := hv; exact ⟨a, c, e, h.go hE⟩)
      | m + 14, h => exact absurd h (by omega)
    | 10, _ =>
      match j, hj with
      | 10, _ => exact absurd rfl hne
      | 11, _ => exact absurd (by simp) hnk
      | 0, _ => exact (by obtain ⟨g, h1, h2, h3⟩ := hv; exact ⟨g, h1, h2, h3.go hE⟩)
      | 1, _ => exact (by obtain ⟨g, h1, h2, h3⟩ := hv; exact ⟨g, h1, h2, h3.go hE⟩)
      | 2, _ => exact (by obtain ⟨g, h1, h2, h3⟩ := hv; exact ⟨g, h1, h2, h3.go hE⟩)
      | 3, _ => exact (by obtain ⟨g, h1, h2, h3⟩ := hv; exact ⟨g, h1, h2, h3.go hE⟩)
      | 4, _ => exact (by obtain ⟨g, h1, h2, h3⟩ := hv; exact ⟨g, h1, h2, h3.go hE⟩)
      | 5, _ => exact (by obtain ⟨g, h1, h2, h3⟩ := hv; exact ⟨g, h1, h2, h3.go hE⟩)
      | 6, _ => exact (by obtain ⟨g, h1, h2, h3⟩ := hv; exact ⟨g, h1, h2, h3.go hE⟩)
      | 7, _ => exact (by obtain ⟨g, h1, h2, h3⟩ := hv; exact ⟨g, h1, h2, h3.go hE⟩)
      | 8, _ => exact (by obtain ⟨g, h1, h2, h3⟩ := hv; exact ⟨g, h1, h2, h3.go hE⟩)
      | 9, _ => exact (by obtain ⟨g, h1, h2, h3⟩ := hv; exact ⟨g, h1, h2, h3.go hE⟩)
      | 12, _ => exact (by obtain ⟨g, h1, h2, h3⟩ := hv; exact ⟨g, h1, h2, h3.go hE⟩)
      | 13, _ => exact (by obtain ⟨g, h1, h2, h3⟩ := hv; exact ⟨g, h1, h2, h3.go hE⟩)
      | m + 14, h => exact absurd h (by omega)
    | 12, _ =>
      match j, hj with
      | 12, _ => exact absurd rfl hne
      | 0, _ => exact absurd (by simp) hna
      | 1, _ => exact absurd (by simp) hna
      | 2, _ => exact absurd (by simp) hna
      | 3, _ => exact absurd (by simp) hna
      | 4, _ => exact absurd (by simp) hna
      | 5, _ => exact absurd (by simp) hna
      | 6, _ => exact absurd (by simp) hna
      | 8, _ => exact absurd (by simp) hna
      | 7, _ => exact (by obtain ⟨a, c, e, h⟩ := hv; exact ⟨a, c, e, h.go hE⟩)
      | 9, _ => exact (by obtain ⟨a, c, e, h⟩ := hv; exact ⟨a, c, e, h.go hE⟩)
      | 10, _ => exact (by obtain ⟨a, c, e, h⟩ := hv; exact ⟨a, c, e, h.go hE⟩)
      | 11, _ => exact (by obtain ⟨a, c, e, h⟩ := hv; obtain ⟨g, hz, ht, -⟩ := hE; exact ⟨a, c, e, h.offE hz ht⟩)
      | 13, _ => exact (by obtain ⟨a, c, e, h⟩ := hv; exact ⟨a, c, e, h.go hE⟩)
      | m + 14, h => exact absurd h (by omega)
    | m + 14, h => exact absurd h (by omega)
  case h0 => intro x; exact toI HIp (Below.refl _ _).drew
  case step =>
    refine ⟨?_, ?_, ?_, ?_, ?_, ?_, ?_, ?_, ?_, ?_, ?_, ?_, ?_, ?_, trivial⟩
    all_goals
      intro x W L hI hL hV
      replace hI : (Below w11.heap.size w11 W) := ofI HIp hI
      rw [HV.out] at hV
      simp only [AllV, and_true] at hV
    · clear hV
      (try dsimp only)
      obtain ⟨q0, q1, q2⟩ := blk3_cells (X1.out.go hI)
      have HI := Lib.hid hI
      clear hI
      go_wp2_with fail
      refine step3_done rfl ?_ ?_ ?_
      · exact (toI HIp HI.out)
      · exact (Below.refl _ _)
      · exact (toV HV rfl)
    · clear hV
      (try dsimp only)
      have HI := Lib.hid hI
      clear hI
      go_wp2_with fail
      refine step3_done rfl ?_ ?_ ?_
      · exact (toI HIp HI.out)
      · exact (Below.refl _ _)
      · exact (toV HV rfl)
    · clear hV
      (try dsimp only)
      have HI := Lib.hid hI
      clear hI
      go_wp2_with fail
      refine step3_done rfl ?_ ?_ ?_
      · exact (toI HIp HI.out)
      · exact (Below.refl _ _)
      · exact (toV HV rfl)
    · clear hV
      (try dsimp only)
      have HI := Lib.hid hI
      clear hI
      go_wp2_with fail
      refine step3_done rfl ?_ ?_ ?_
      · exact (toI HIp HI.out)
      · exact (Below.refl _ _)
      · exact (toV HV rfl)
    · obtain ⟨u1, u2, u3⟩ := hV
      simp only [u1, u2, u3]
      clear u1 u2 u3
      have HI := Lib.hid hI
      clear hI
      go_wp2_with fail
      refine (HY.out _).mono ?_
      rintro e W' ⟨a', c', rfl, hr, hb⟩
      go_wp2_with fail
      refine step3_done rfl ?_ ?_ ?_
      · exact (toI HIp (up HI.out hb))
      · exact hb
      · exact (toV HV ⟨_, _, rfl, hr⟩)
    · obtain ⟨u0, ⟨a4, c4, u4, r4⟩⟩ := hV
      simp only [u0, u4]
      have U4 := Lib.hid u4
      clear u0 u4
      have HI := Lib.hid hI
      clear hI
      have R4 := Lib.hid r4
      clear r4
      go_wp2_with fail
      refine (HH1.out _ _ _ _ _ (G9.out.below' HI.out) (R1.out.go HI.out) R4.out).mono ?_
      rintro e W' ⟨y2, y4, a', c', rfl, hr, hb⟩
      go_wp2_with fail
      refine step3_done rfl ?_ ?_ ?_
      · exact (toI HIp (up HI.out hb))
      · exact hb
      · exact (toV HV ⟨_, _, _, _, _, _, _, rfl, hr⟩)
    · obtain ⟨x05, x15, x25, x35, x45, a5, c5, u5, r5⟩ := hV
      simp only [u5]
      have U5 := Lib.hid u5
      clear u5
      have HI := Lib.hid hI
      clear hI
      go_wp2_with fail
      refine step3_done rfl ?_ ?_ ?_
      · exact (toI HIp HI.out)
      · exact (Below.refl _ _)
      · exact (toV HV ⟨_, _, _, _, _, _, _, rfl, r5⟩)
    · obtain ⟨x06, x16, x26, x36, x46, a6, c6, u6, r6⟩ := hV
      simp only [u6]
      have U6 := Lib.hid u6
      clear u6
      have HI := Lib.hid hI
      clear hI
      go_wp2_with fail
      refine step3_done rfl ?_ ?_ ?_
      · exact (toI HIp HI.out)
      · exact (Below.refl _ _)
      · exact (toV HV ⟨_, _, _, _, _, rfl⟩)
    · obtain ⟨x06, x16, x26, x36, x46, a6, c6, u6, r6⟩ := hV
      simp only [u6]
      have U6 := Lib.hid u6
      clear u6
      have HI := Lib.hid hI
      clear hI
      go_wp2_with fail
      refine step3_done rfl ?_ ?_ ?_
      · exact (toI HIp HI.out)
      · exact (Below.refl _ _)
      · exact (toV HV ⟨_, _, rfl, r6⟩)
    · obtain ⟨x06, x16, x26, x36, x46, a6, c6, u6, r6⟩ := hV
      simp only [u6]
      have U6 := Lib.hid u6
      clear u6
      have HI := Lib.hid hI
      clear hI
      go_wp2_with fail
      refine step3_done rfl ?_ ?_ ?_
      · exact (toI HIp HI.out)
      · exact (Below.refl _ _)
      · exact (toV HV rfl)
    · clear hV
      (try dsimp only)
      have HI := Lib.hid hI
      clear hI
      have hzW := HI.out.size
      go_wp2_with fail
      have uW : ∀ o, Below W.heap.size W (W.alloc o) := fun o => (Below.refl _ _).alloc (Nat.le_refl _) o
      refine step3_done rfl ?_ ?_ ?_
      · exact (toI HIp (up HI.out (uW _)))
      · exact (uW _)
      · exact (toV HV ⟨_, rfl, hzW, Blk.new _ _⟩)
    · obtain ⟨⟨x07, x17, x27, x37, x47, u7⟩, ⟨g10, u10, l10, b10⟩⟩ := hV
      simp only [u10, u7]
      have U7 := Lib.hid u7
      have U10 := Lib.hid u10
      clear u7 u10
      obtain ⟨q0, q1, q2⟩ := blk3_cells b10
      have fW := b10.frozen
      have hg9 := b10.lt
      have HT := Lib.hid (touch3 (g := g10) (w := W) (.int .i64 x07) (.int .i64 x17) (.slice x27 x37 x47))
      have HI := Lib.hid hI
      clear hI
      have HB9 := Lib.hid b10
      clear b10
      go_wp2_with fail
      refine step3_done (v := undef) rfl ?_ ?_ ?_
      · exact (toI HIp (HI.out.trans (HT.out.toBelow HI.out.size (fun k hk => by omega))))
      · exact ⟨g10, HB9.out, HT.out, l10⟩
      · exact (toV HV rfl)
    · obtain ⟨a8y, c8y, u8, r8⟩ := hV
      simp only [u8]
      have U8 := Lib.hid u8
      clear u8
      have HI := Lib.hid hI
      clear hI
      go_wp2_with fail
      refine step3_done rfl ?_ ?_ ?_
      · exact (toI HIp HI.out)
      · exact (Below.refl _ _)
      · exact (toV HV ⟨_, _, rfl, r8⟩)
    · have u9 := hV
      clear hV
      simp only [u9]
      clear u9
      have HI := Lib.hid hI
      clear hI
      go_wp2_with fail
      refine step3_done rfl ?_ ?_ ?_
      · exact (toI HIp HI.out)
      · exact (Below.refl _ _)
      · exact (toV HV rfl)
  case fin =>
    intro x W L hL hI hV
    replace hI : (Below w11.heap.size w11 W) := ofI HIp hI
    rw [HV.out] at hV
    simp only [AllV, and_true] at hV
    obtain ⟨u1, u2, u3, ⟨x05, x15, x25, x35, x45, a5, c5, u5, r5⟩, ⟨x06, x16, x26, x36, x46, a6, c6, u6, r6⟩, ⟨x07, x17, x27, x37, x47, u7⟩, ⟨a8y, c8y, u8, r8⟩, u9, u11, ⟨a12y, c12y, u12, r12⟩, u13⟩ := hV
    simp only [getsD, List.getD_cons_succ, List.getD_cons_zero, List.length_cons, List.length_nil, List.range, List.range.loop, u1, u2, u3, u5, u6, u7, u8, u9, u11, u12, u13, Act.put, List.setIfInBounds_toArray, List.set_cons_succ, List.set_cons_zero]
    clear u1 u2 u3 u5 u6 u7 u8 u9 u11 u12 u13
    have b12 := hI
    clear hI hL
    have B12 := Lib.hid (up B11.out b12)
    have G12 := Lib.hid (G9.out.below' b12)
    have X2' := Lib.hid (X2.out.go b12)
    have R2' := Lib.hid (R2.out.go b12)
    have RY := Lib.hid r12
    obtain ⟨w12, rfl⟩ : ∃ x : World, x = W := ⟨_, rfl⟩
    clear b12 B11 G9 X1 X2 R1 R2 r12 HH1 HY
    have G9 := G12
    have X2 := X2'
    have R2 := R2'
    clear G12 X2' R2'
    go_wp2_with fail
    obtain ⟨Vp, HV⟩ : ∃ Vp : Nat → Value → World → Prop, Hid (Vp = fun i v W => match i with
        | 0 => v = .agg #[.int .i64 1, .int .i64 0, .slice a2 1 c2]
        | 1 => v = .int .i64 R
        | 2 => v = .int .i64 (k : Int)
        | 3 => v = .string sx
        | 4 => ∃ a c, v = .slice a lo c ∧ RdS (· < W.heap.size) W o a lo c
        | 5 => ∃ x0 x1 x2 x3 x4 a c, v = .tuple #[.agg #[.int .i64 x0, .int .i64 x1, .slice x2 x3 x4], .slice a lX c, .int .i64 0] ∧ RdS (· < W.heap.size) W X a lX c
        | 6 => ∃ x0 x1 x2 x3 x4 a c, v = .tuple #[.agg #[.int .i64 x0, .int .i64 x1, .slice x2 x3 x4], .slice a lX c, .int .i64 0] ∧ RdS (· < W.heap.size) W X a lX c
        | 7 => ∃ x0 x1 x2 x3 x4, v = .agg #[.int .i64 x0, .int .i64 x1, .slice x2 x3 x4]
        | 8 => ∃ a c, v = .slice a lX c ∧ RdS (· < W.heap.size) W X a lX c
        | 9 => v = .int .i64 0
        | 10 => ∃ g, v = .pointer (some ⟨g, 0, none⟩) ∧ w12.heap.size ≤ g ∧ Blk g (.cells zeroEd 71 (0, 0)) W
        | 11 => v = undef
        | 12 => ∃ a c, v = .slice a lX c ∧ RdS (· < W.heap.size) W X a lX c
        | _ => v = .int .i64 0) := ⟨_, rfl⟩
    obtain ⟨Ip, HIp⟩ : ∃ Ip : (Nat → Bool) → (Nat → Value) → World → Prop, Hid (Ip = fun L x W => (Below w12.heap.size w12 W)) := ⟨_, rfl⟩
    refine region_lit3 (by kernel_rfl) (by kernel_rfl) (by kernel_rfl) [[], [], [], [], [1, 2, 3], [0, 1, 2, 3, 4], [0, 1, 2, 3, 4, 5], [0, 1, 2, 3, 4, 5, 6], [0, 1, 2, 3, 4, 5, 6], [0, 1, 2, 3, 4, 5, 6], [], [0, 1, 2, 3, 4, 5, 6, 7, 10], [0, 1, 2, 3, 4, 5, 6, 8], [0, 1, 2, 3, 4, 5, 6, 9]] (by kernel_rfl) [some 73, some 74, some 75, some 76, some 77, some 78, some 72, some 79, some 80, some 81, some 21, none, some 22, some 23] (by kernel_rfl) [[0, 5, 6, 7, 8, 9, 11, 12, 13], [1, 4, 5, 6, 7, 8, 9, 11, 12, 13], [2, 4, 5, 6, 7, 8, 9, 11, 12, 13], [3, 4, 5, 6, 7, 8, 9, 11, 12, 13], [4, 5, 6, 7, 8, 9, 11, 12, 13], [5, 6, 7, 8, 9, 11, 12, 13], [6, 7, 8, 9, 11, 12, 13], [7, 11], [8, 12], [9, 13], [10, 11], [11], [12], [13]] (by kernel_rfl) [[11], [], [], [], [11], [], [], [], [], [], [11], [], [], []] [[], [], [], [], [1, 2, 3], [0, 4], [5], [6], [6], [6], [], [7, 10], [8], [9]] (by kernel_rfl)
      Ip
      Vp
      (fun j W W' => match j with
        | 11 => ∃ g, Blk g (.cells zeroEd 71 (0, 0)) W ∧ Touch (fun z => z = g) W W' ∧ w12.heap.size ≤ g
        | _ => Below W.heap.size W W')
      [fun x => ⟨#[undef, undef, undef, undef, undef, undef, undef, undef, undef, undef, undef, undef, undef, undef, undef, undef, .pointer (some ⟨w10.heap.size, 0, none⟩), undef, undef, undef, undef, undef, undef, undef, undef, undef, undef, undef, undef, undef, undef, undef, undef, undef, undef, undef, undef, undef, undef, undef, undef, undef, undef, undef, undef, undef, undef, undef, undef, undef, undef, undef, undef, undef, undef, undef, undef, undef, undef, undef, undef, undef, undef, undef, undef, undef, undef, undef, undef, undef, undef, undef, undef, undef], []⟩,
   fun x => ⟨#[undef, undef, undef, undef, undef, undef, undef, undef, undef, undef, .int .i64 R, undef, undef, undef, undef, undef, undef, undef, undef, undef, undef, undef, undef, undef, undef, undef, undef, undef, undef, undef, undef, undef, undef, undef, undef, undef, undef, undef, undef, undef, undef, undef, undef, undef, undef, undef, undef, undef, undef, undef, undef, undef, undef, undef, undef, undef, undef, undef, undef, undef, undef, undef, undef, undef, undef, undef, undef, undef, undef, undef, undef, undef, undef, undef, undef], []⟩,
   fun x => ⟨#[undef, undef, undef, undef, undef, undef, undef, undef, undef, undef, undef, .int .i64 (k : Int), undef, undef, undef, undef, undef, undef, undef, undef, undef, undef, undef, undef, undef, undef, undef, undef, undef, undef, undef, undef, undef, undef, undef, undef, undef, undef, undef, undef, undef, undef, undef, undef, undef, undef, undef, undef, undef, undef, undef, undef, undef, undef, undef, undef, undef, undef, undef, undef, undef, undef, undef, undef, undef, undef, undef, undef, undef, undef, undef, undef, undef, undef, undef, undef], []⟩,
   fun x => ⟨#[undef, undef, undef, undef, undef, undef, undef, undef, undef, undef, undef, undef, .string sx, undef, undef, undef, undef, undef, undef, undef, undef, undef, undef, undef, undef, undef, undef, undef, undef, undef, undef, undef, undef, undef, undef, undef, undef, undef, undef, undef, undef, undef, undef, undef, undef, undef, undef, undef, undef, undef, undef, undef, undef, undef, undef, undef, undef, undef, undef, undef, undef, undef, undef, undef, undef, undef, undef, undef, undef, undef, undef, undef, undef, undef, undef, undef, undef], []⟩,
   fun x => ⟨#[undef, undef, undef, undef, undef, undef, undef, undef, undef, undef, undef, undef, undef, undef, undef, undef, undef, undef, undef, undef, undef, undef, undef, undef, undef, undef, undef, undef, undef, undef, undef, undef, undef, undef, undef, undef, undef, undef, undef, undef, undef, undef, undef, undef, undef, undef, undef, undef, undef, undef, undef, undef, undef, undef, undef, undef, undef, undef, undef, undef, undef, undef, undef, undef, undef, undef, undef, undef, undef, undef, undef, undef, undef, undef, x 1, x 2, x 3, undef], []⟩,
   fun x => ⟨#[undef, undef, undef, undef, undef, undef, undef, undef, undef, undef, undef, undef, undef, undef, undef, undef, undef, undef, undef, undef, undef, undef, undef, undef, undef, undef, undef, undef, undef, undef, undef, undef, undef, undef, undef, undef, undef, undef, undef, undef, undef, undef, undef, undef, undef, undef, undef, undef, undef, undef, undef, undef, undef, undef, undef, undef, undef, undef, undef, undef, undef, undef, undef, undef, undef, undef, undef, undef, undef, undef, undef, undef, undef, x 0, undef, undef, undef, x 4, undef], []⟩,
   fun x => ⟨#[undef, undef, undef, undef, undef, undef, undef, undef, undef, undef, undef, undef, undef, undef, undef, undef, undef, undef, undef, undef, undef, undef, undef, undef, undef, undef, undef, undef, undef, undef, undef, undef, undef, undef, undef, undef, undef, undef, undef, undef, undef, undef, undef, undef, undef, undef, undef, undef, undef, undef, undef, undef, undef, undef, undef, undef, undef, undef, undef, undef, undef, undef, undef, undef, undef, undef, undef, undef, undef, undef, undef, undef, undef, undef, undef, undef, undef, undef, x 5], []⟩,
   fun x => ⟨#[undef, undef, undef, undef, undef, undef, undef, undef, undef, undef, undef, undef, undef, undef, undef, undef, undef, undef, undef, undef, undef, undef, undef, undef, undef, undef, undef, undef, undef, undef, undef, undef, undef, undef, undef, undef, undef, undef, undef, undef, undef, undef, undef, undef, undef, undef, undef, undef, undef, undef, undef, undef, undef, undef, undef, undef, undef, undef, undef, undef, undef, undef, undef, undef, undef, undef, undef, undef, undef, undef, undef, undef, x 6, undef, undef, undef, undef, undef, undef, undef], []⟩,
   fun x => ⟨#[undef, undef, undef, undef, undef, undef, undef, undef, undef, undef, undef, undef, undef, undef, undef, undef, undef, undef, undef, undef, undef, undef, undef, undef, undef, undef, undef, undef, undef, undef, undef, undef, undef, undef, undef, undef, undef, undef, undef, undef, undef, undef, undef, undef, undef, undef, undef, undef, undef, undef, undef, undef, undef, undef, undef, undef, undef, undef, undef, undef, undef, undef, undef, undef, undef, undef, undef, undef, undef, undef, undef, undef, x 6, undef, undef, undef, undef, undef, undef, undef, undef], []⟩,
   fun x => ⟨#[undef, undef, undef, undef, undef, undef, undef, undef, undef, undef, undef, undef, undef, undef, undef, undef, undef, undef, undef, undef, undef, undef, undef, undef, undef, undef, undef, undef, undef, undef, undef, undef, undef, undef, undef, undef, undef, undef, undef, undef, undef, undef, undef, undef, undef, undef, undef, undef, undef, undef, undef, undef, undef, undef, undef, undef, undef, undef, undef, undef, undef, undef, undef, undef, undef, undef, undef, undef, undef, undef, undef, undef, x 6, undef, undef, undef, undef, undef, undef, undef, undef, undef], []⟩,
   fun x => ⟨#[undef, undef, undef, undef, undef, undef, undef, undef, undef, undef, undef, undef, undef, undef, undef, undef, undef, undef, undef, undef, undef, undef], []⟩,
   fun x => ⟨#[undef, undef, undef, undef, undef, undef, undef, undef, undef, undef, undef, undef, undef, undef, undef, undef, undef, undef, undef, undef, undef, x 10, undef, undef, undef, undef, undef, undef, undef, undef, undef, undef, undef, undef, undef, undef, undef, undef, undef, undef, undef, undef, undef, undef, undef, undef, undef, undef, undef, undef, undef, undef, undef, undef, undef, undef, undef, undef, undef, undef, undef, undef, undef, undef, undef, undef, undef, undef, undef, undef, undef, undef, undef, undef, undef, undef, undef, undef, undef, x 7], []⟩,
   fun x => ⟨#[undef, undef, undef, undef, undef, undef, undef, undef, undef, undef, undef, undef, undef, undef, undef, undef, undef, undef, undef, undef, undef, undef, undef, undef, undef, undef, undef, undef, undef, undef, undef, undef, undef, undef, undef, undef, undef, undef, undef, undef, undef, undef, undef, undef, undef, undef, undef, undef, undef, undef, undef, undef, undef, undef, undef, undef, undef, undef, undef, undef, undef, undef, undef, undef, undef, undef, undef, undef, undef, undef, undef, undef, undef, undef, undef, undef, undef, undef, undef, undef, x 8], []⟩,
   fun x => ⟨#[undef, undef, undef, undef, undef, undef, undef, undef, undef, undef, undef, undef, undef, undef, undef, undef, undef, undef, undef, undef, undef, undef, undef, undef, undef, undef, undef, undef, undef, undef, undef, undef, undef, undef, undef, undef, undef, undef, undef, undef, undef, undef, undef, undef, undef, undef, undef, undef, undef, undef, undef, undef, undef, undef, undef, undef, undef, undef, undef, undef, undef, undef, undef, undef, undef, undef, undef, undef, undef, undef, undef, undef, undef, undef, undef, undef, undef, undef, undef, undef, undef, x 9], []⟩]
      ?hF ?mono ?h0 ?step [1, 2, 3, 5, 6, 7, 8, 9, 11, 12, 13] (by kernel_rfl) ?fin
    case hF =>
      exact ⟨fun x => ⟨by kernel_rfl, by kernel_rfl⟩, fun x => ⟨by kernel_rfl, by kernel_rfl⟩, fun x => ⟨by kernel_rfl, by kernel_rfl⟩, fun x => ⟨by kernel_rfl, by kernel_rfl⟩, fun x => ⟨by kernel_rfl, by kernel_rfl⟩, fun x => ⟨by kernel_rfl, by kernel_rfl⟩, fun x => ⟨by kernel_rfl, by kernel_rfl⟩, fun x => ⟨by kernel_rfl, by kernel_rfl⟩, fun x => ⟨by kernel_rfl, by kernel_rfl⟩, fun x => ⟨by kernel_rfl, by kernel_rfl⟩, fun x => ⟨by kernel_rfl, by kernel_rfl⟩, fun x => ⟨by kernel_rfl, by kernel_rfl⟩, fun x => ⟨by kernel_rfl, by kernel_rfl⟩, fun x => ⟨by kernel_rfl, by kernel_rfl⟩, trivial⟩
    case mono =>
      intro i j hi hj hne hna hnk v W W' hE hv
      rw [HV.out] at hv ⊢
      simp only [List.length_cons, List.length_nil] at hi hj
      match i, hi with
      | 0, _ | 1, _ | 2, _ | 3, _ | 9, _ | 11, _ | 13, _ => exact hv
      | 4, _ =>
        match j, hj with
        | 4, _ => exact absurd rfl hne
        | 1, _ => exact absurd (by simp) hna
        | 2, _ => exact absurd (by simp) hna
        | 3, _ => exact absurd (by simp) hna
        | 11, _ => exact absurd (by simp) hnk
        | 0, _ => exact (by obtain ⟨a, c, e, h⟩ := hv; exact ⟨a, c, e, h.go hE⟩)
        | 5, _ => exact (by obtain ⟨a, c, e, h⟩ := hv; exact ⟨a, c, e, h.go hE⟩)
        | 6, _ => exact (by obtain ⟨a, c, e, h⟩ := hv; exact ⟨a, c, e, h.go hE⟩)
        | 7, _ => exact (by obtain ⟨a, c, e, h⟩ := hv; exact ⟨a, c, e, h.go hE⟩)
        | 8, _ => exact (by obtain ⟨a, c, e, h⟩ := hv; exact ⟨a, c, e, h.go hE⟩)
        | 9, _ => exact (by obtain ⟨a, c, e, h⟩ := hv; exact ⟨a, c, e, h.go hE⟩)
        | 10, _ => exact (by obtain ⟨a, c, e, h⟩ := hv; exact ⟨a, c, e, h.go hE⟩)
        | 12, _ => exact (by obtain ⟨a, c, e, h⟩ := hv; exact ⟨a, c, e, h.go hE⟩)
        | 13, _ => exact (by obtain ⟨a, c, e, h⟩ := hv; exact ⟨a, c, e, h.go hE⟩)
        | m + 14, h => exact absurd h (by omega)
      | 5, _ =>
        match j, hj with
        | 5, _ => exact absurd rfl hne
        | 0, _ => exact absurd (by simp) hna
        | 1, _ => exact absurd (by simp) hna
        | 2, _ => exact absurd (by simp) hna
        | 3, _ => exact absurd (by simp) hna
        | 4, _ => exact absurd (by simp) hna
        | 6, _ => exact (by obtain ⟨x0, x1, x2, x3, x4, a, c, e, h⟩ := hv; exact ⟨x0, x1, x2, x3, x4, a, c, e, h.go hE⟩)
        | 7, _ => exact (by obtain ⟨x0, x1, x2, x3, x4, a, c, e, h⟩ := hv; exact ⟨x0, x1, x2, x3, x4, a, c, e, h.go hE⟩)
        | 8, _ => exact (by obtain ⟨x0, x1, x2, x3, x4, a, c, e, h⟩ := hv; exact ⟨x0, x1, x2, x3, x4, a, c, e, h.go hE⟩)
        | 9, _ => exact (by obtain ⟨x0, x1, x2, x3, x4, a, c, e, h⟩ := hv; exact ⟨x0, x1, x2, x3, x4, a, c, e, h.go hE⟩)
        | 10, _ => exact (by obtain ⟨x0, x1, x2, x3, x4, a, c, e, h⟩ := hv; exact ⟨x0, x1, x2, x3, x4, a, c, e, h.go hE⟩)
        | 11, _ => exact (by obtain ⟨x0, x1, x2, x3, x4, a, c, e, h⟩ := hv; obtain ⟨g, hz, ht, -⟩ := hE; exact ⟨x0, x1, x2, x3, x4, a, c, e, h.offE hz ht⟩)
        | 12, _ => exact (by obtain ⟨x0, x1, x2, x3, x4, a, c, e, h⟩ := hv; exact ⟨x0, x1, x2, x3, x4, a, c, e, h.go hE⟩)
        | 13, _ => exact (by obtain ⟨x0, x1, x2, x3, x4, a, c, e, h⟩ := hv; exact ⟨x0, x1, x2, x3, x4, a, c, e, h.go hE⟩)
        | m + 14, h => exact absurd h (by omega)
      | 6, _ =>
        match j, hj with
        | 6, _ => exact absurd rfl hne
        | 0, _ => exact absurd (by simp) hna
        | 1, _ => exact absurd (by simp) hna
        | 2, _ => exact absurd (by simp) hna
        | 3, _ => exact absurd (by simp) hna
        | 4, _ => exact absurd (by simp) hna
        | 5, _ => exact absurd (by simp) hna
        | 7, _ => exact (by obtain ⟨x0, x1, x2, x3, x4, a, c, e, h⟩ := hv; exact ⟨x0, x1, x2, x3, x4, a, c, e, h.go hE⟩)
        | 8, _ => exact (by obtain ⟨x0, x1, x2, x3, x4, a, c, e, h⟩ := hv; exact ⟨x0, x1, x2, x3, x4, a, c, e, h.go hE⟩)
        | 9, _ => exact (by obtain ⟨x0, x1, x2, x3, x4, a, c, e, h⟩ := hv; exact ⟨x0, x1, x2, x3, x4, a, c, e, h.go hE⟩)
        | 10, _ => exact (by obtain ⟨x0, x1, x2, x3, x4, a, c, e, h⟩ := hv; exact ⟨x0, x1, x2, x3, x4, a, c, e, h.go hE⟩)
        | 11, _ => exact (by obtain ⟨x0, x1, x2, x3, x4, a, c, e, h⟩ := hv; obtain ⟨g, hz, ht, -⟩ := hE; exact ⟨x0, x1, x2, x3, x4, a, c, e, h.offE hz ht⟩)
        | 12, _ => exact (by obtain ⟨x0, x1, x2, x3, x4, a, c, e, h⟩ := hv; exact ⟨x0, x1, x2, x3, x4, a, c, e, h.go hE⟩)
        | 13, _ => exact (by obtain ⟨x0, x1, x2, x3, x4, a, c, e, h⟩ := hv; exact ⟨x0, x1, x2, x3, x4, a, c, e, h.go hE⟩)
        | m + 14, h => exact absurd h (by omega)
      | 7, _ =>
        match j, hj with
        | 7, _ => exact absurd rfl hne
        | 0, _ => exact absurd (by simp) hna
        | 1, _ => exact absurd (by simp) hna
        | 2, _ => exact absurd (by simp) hna
        | 3, _ => exact absurd (by simp) hna
        | 4, _ => exact absurd (by simp) hna
        | 5, _ => exact absurd (by simp) hna
        | 6, _ => exact absurd (by simp) hna
        | 8, _ => exact (id hv)
        | 9, _ => exact (id hv)
        | 10, _ => exact (id hv)
        | 11, _ => exact (id hv)
        | 12, _ => exact (id hv)
        | 13, _ => exact (id hv)
        | m + 14, h => exact absurd h (by omega)
      | 8, _ =>
        match j, hj with
        | 8, _ => exact absurd rfl hne
        | 0, _ => exact absurd (by simp) hna
        | 1, _ => exact absurd (by simp) hna
        | 2, _ => exact absurd (by simp) hna
        | 3, _ => exact absurd (by simp) hna
        | 4, _ => exact absurd (by simp) hna
        | 5, _ => exact absurd (by simp) hna
        | 6, _ => exact absurd (by simp) hna
        | 7, _ => exact (by obtain ⟨a, c, e, h⟩ := hv; exact ⟨a, c, e, h.go hE⟩)
        | 9, _ => exact (by obtain ⟨a, c, e, h⟩ := hv; exact ⟨a, c, e, h.go hE⟩)
        | 10, _ => exact (by obtain ⟨a, c, e, h⟩ := hv; exact ⟨a, c, e, h.go hE⟩)
        | 11, _ => exact (by obtain ⟨a, c, e, h⟩ := hv; obtain ⟨g, hz, ht, -⟩ := hE; exact ⟨a, c, e, h.offE hz ht⟩)
        | 12, _ => exact (by obtain ⟨a, c, e, h⟩ := hv; exact ⟨a, c, e, h.go hE⟩)
        | 13, _ => exact (by obtain ⟨a, c, e, h⟩ := hv; exact ⟨a, c, e, h.go hE⟩)
        | m + 14, h => exact absurd h (by omega)
      | 10, _ =>
        match j, hj with
        | 10, _ => exact absurd rfl hne
        | 11, _ => exact absurd (by simp) hnk
        | 0, _ => exact (by obtain ⟨g, h1, h2, h3⟩ := hv; exact ⟨g, h1, h2, h3.go hE⟩)
        | 1, _ => exact (by obtain ⟨g, h1, h2, h3⟩ := hv; exact ⟨g, h1, h2, h3.go hE⟩)
        | 2, _ => exact (by obtain ⟨g, h1, h2, h3⟩ := hv; exact ⟨g, h1, h2, h3.go hE⟩)
        | 3, _ => exact (by obtain ⟨g, h1, h2, h3⟩ := hv; exact ⟨g, h1, h2, h3.go hE⟩)
        | 4, _ => exact (by obtain ⟨g, h1, h2, h3⟩ := hv; exact ⟨g, h1, h2, h3.go hE⟩)
        | 5, _ => exact (by obtain ⟨g, h1, h2, h3⟩ := hv; exact ⟨g, h1, h2, h3.go hE⟩)
        | 6, _ => exact (by obtain ⟨g, h1, h2, h3⟩ := hv; exact ⟨g, h1, h2, h3.go hE⟩)
        | 7, _ => exact (by obtain ⟨g, h1, h2, h3⟩ := hv; exact ⟨g, h1, h2, h3.go hE⟩)
        | 8, _ => exact (by obtain ⟨g, h1, h2, h3⟩ := hv; exact ⟨g, h1, h2, h3.go hE⟩)
        | 9, _ => exact (by obtain ⟨g, h1, h2, h3⟩ := hv; exact ⟨g, h1, h2, h3.go hE⟩)
        | 12, _ => exact (by obtain ⟨g, h1, h2, h3⟩ := hv; exact ⟨g, h1, h2, h3.go hE⟩)
        | 13, _ => exact (by obtain ⟨g, h1, h2, h3⟩ := hv; exact ⟨g, h1, h2, h3.go hE⟩)
        | m + 14, h => exact absurd h (by omega)
      | 12, _ =>
        match j, hj with
        | 12, _ => exact absurd rfl hne
        | 0, _ => exact absurd (by simp) hna
        | 1, _ => exact absurd (by simp) hna
        | 2, _ => exact absurd (by simp) hna
        | 3, _ => exact absurd (by simp) hna
        | 4, _ => exact absurd (by simp) hna
        | 5, _ => exact absurd (by simp) hna
        | 6, _ => exact absurd (by simp) hna
        | 8, _ => exact absurd (by simp) hna
        | 7, _ => exact (by obtain ⟨a, c, e, h⟩ := hv; exact ⟨a, c, e, h.go hE⟩)
        | 9, _ => exact (by obtain ⟨a, c, e, h⟩ := hv; exact ⟨a, c, e, h.go hE⟩)
        | 10, _ => exact (by obtain ⟨a, c, e, h⟩ := hv; exact ⟨a, c, e, h.go hE⟩)
        | 11, _ => exact (by obtain ⟨a, c, e, h⟩ := hv; obtain ⟨g, hz, ht, -⟩ := hE; exact ⟨a, c, e, h.offE hz ht⟩)
        | 13, _ => exact (by obtain ⟨a, c, e, h⟩ := hv; exact ⟨a, c, e, h.go hE⟩)
        | m + 14, h => exact absurd h (by omega)
      | m + 14, h => exact absurd h (by omega)
    case h0 => intro x; exact toI HIp (Below.refl _ _).drew
    case step =>
      refine ⟨?_, ?_, ?_, ?_, ?_, ?_, ?_, ?_, ?_, ?_, ?_, ?_, ?_, ?_, trivial⟩
      all_goals
        intro x W L hI hL hV
        replace hI : (Below w12.heap.size w12 W) := ofI HIp hI
        rw [HV.out] at hV
        simp only [AllV, and_true] at hV
      · clear hV
        (try dsimp only)
        obtain ⟨q0, q1, q2⟩ := blk3_cells (X2.out.go hI)
        have HI := Lib.hid hI
        clear hI
        go_wp2_with fail
        refine step3_done rfl ?_ ?_ ?_
        · exact (toI HIp HI.out)
        · exact (Below.refl _ _)
        · exact (toV HV rfl)
      · clear hV
        (try dsimp only)
        have HI := Lib.hid hI
        clear hI
        go_wp2_with fail
        refine step3_done rfl ?_ ?_ ?_
        · exact (toI HIp HI.out)
        · exact (Below.refl _ _)
        · exact (toV HV rfl)
      · clear hV
        (try dsimp only)
        have HI := Lib.hid hI
        clear hI
        go_wp2_with fail
        refine step3_done rfl ?_ ?_ ?_
        · exact (toI HIp HI.out)
        · exact (Below.refl _ _)
        · exact (toV HV rfl)
      · clear hV
        (try dsimp only)
        have HI := Lib.hid hI
        clear hI
        go_wp2_with fail
        refine step3_done rfl ?_ ?_ ?_
        · exact (toI HIp HI.out)
        · exact (Below.refl _ _)
        · exact (toV HV rfl)
      · obtain ⟨u1, u2, u3⟩ := hV
        simp only [u1, u2, u3]
        clear u1 u2 u3
        have HI := Lib.hid hI
        clear hI
        go_wp2_with fail
        refine (HX.out _).mono ?_
        rintro e W' ⟨a', c', rfl, hr, hb⟩
        go_wp2_with fail
        refine step3_done rfl ?_ ?_ ?_
        · exact (toI HIp (up HI.out hb))
        · exact hb
        · exact (toV HV ⟨_, _, rfl, hr⟩)
      · obtain ⟨u0, ⟨a4, c4, u4, r4⟩⟩ := hV
        simp only [u0, u4]
        have U4 := Lib.hid u4
        clear u0 u4
        have HI := Lib.hid hI
        clear hI
        have R4 := Lib.hid r4
        clear r4
        go_wp2_with fail
        refine (HH2.out _ _ _ _ _ (G9.out.below' HI.out) (R2.out.go HI.out) R4.out).mono ?_
        rintro e W' ⟨y2, y4, a', c', rfl, hr, hb⟩
        go_wp2_with fail
        refine step3_done rfl ?_ ?_ ?_
        · exact (toI HIp (up HI.out hb))
        · exact hb
        · exact (toV HV ⟨_, _, _, _, _, _, _, rfl, hr⟩)
      · obtain ⟨x05, x15, x25, x35, x45, a5, c5, u5, r5⟩ := hV
        simp only [u5]
        have U5 := Lib.hid u5
        clear u5
        have HI := Lib.hid hI
        clear hI
        go_wp2_with fail
        refine step3_done rfl ?_ ?_ ?_
        · exact (toI HIp HI.out)
        · exact (Below.refl _ _)
        · exact (toV HV ⟨_, _, _, _, _, _, _, rfl, r5⟩)
      · obtain ⟨x06, x16, x26, x36, x46, a6, c6, u6, r6⟩ := hV
        simp only [u6]
        have U6 := Lib.hid u6
        clear u6
        have HI := Lib.hid hI
        clear hI
        go_wp2_with fail
        refine step3_done rfl ?_ ?_ ?_
        · exact (toI HIp HI.out)
        · exact (Below.refl _ _)
        · exact (toV HV ⟨_, _, _, _, _, rfl⟩)
      · obtain ⟨x06, x16, x26, x36, x46, a6, c6, u6, r6⟩ := hV
        simp only [u6]
        have U6 := Lib.hid u6
        clear u6
        have HI := Lib.hid hI
        clear hI
        go_wp2_with fail
        refine step3_done rfl ?_ ?_ ?_
        · exact (toI HIp HI.out)
        · exact (Below.refl _ _)
        · exact (toV HV ⟨_, _, rfl, r6⟩)
      · obtain ⟨x06, x16, x26, x36, x46, a6, c6, u6, r6⟩ := hV
        simp only [u6]
        have U6 := Lib.hid u6
        clear u6
        have HI := Lib.hid hI
        clear hI
        go_wp2_with fail
        refine step3_done rfl ?_ ?_ ?_
        · exact (toI HIp HI.out)
        · exact (Below.refl _ _)
        · exact (toV HV rfl)
      · clear hV
        (try dsimp only)
        have HI := Lib.hid hI
        clear hI
        have hzW := HI.out.size
        go_wp2_with fail
        have uW : ∀ o, Below W.heap.size W (W.alloc o) := fun o => (Below.refl _ _).alloc (Nat.le_refl _) o
        refine step3_done rfl ?_ ?_ ?_
        · exact (toI HIp (up HI.out (uW _)))
        · exact (uW _)
        · exact (toV HV ⟨_, rfl, hzW, Blk.new _ _⟩)
      · obtain ⟨⟨x07, x17, x27, x37, x47, u7⟩, ⟨g10, u10, l10, b10⟩⟩ := hV
        simp only [u10, u7]
        have U7 := Lib.hid u7
        have U10 := Lib.hid u10
        clear u7 u10
        obtain ⟨q0, q1, q2⟩ := blk3_cells b10
        have fW := b10.frozen
        have hg9 := b10.lt
        have HT := Lib.hid (touch3 (g := g10) (w := W) (.int .i64 x07) (.int .i64 x17) (.slice x27 x37 x47))
        have HI := Lib.hid hI
        clear hI
        have HB9 := Lib.hid b10
        clear b10
        go_wp2_with fail
        refine step3_done (v := undef) rfl ?_ ?_ ?_
        · exact (toI HIp (HI.out.trans (HT.out.toBelow HI.out.size (fun k hk => by omega))))
        · exact ⟨g10, HB9.out, HT.out, l10⟩
        · exact (toV HV rfl)
      · obtain ⟨a8x, c8x, u8, r8⟩ := hV
        simp only [u8]
        have U8 := Lib.hid u8
        clear u8
        have HI := Lib.hid hI
        clear hI
        go_wp2_with fail
        refine step3_done rfl ?_ ?_ ?_
        · exact (toI HIp HI.out)
        · exact (Below.refl _ _)
        · exact (toV HV ⟨_, _, rfl, r8⟩)
      · have u9 := hV
        clear hV
        simp only [u9]
        clear u9
        have HI := Lib.hid hI
        clear hI
        go_wp2_with fail
        refine step3_done rfl ?_ ?_ ?_
        · exact (toI HIp HI.out)
        · exact (Below.refl _ _)
        · exact (toV HV rfl)
    case fin =>
      intro x W L hL hI hV
      replace hI : (Below w12.heap.size w12 W) := ofI HIp hI
      rw [HV.out] at hV
      simp only [AllV, and_true] at hV
      obtain ⟨u1, u2, u3, ⟨x05, x15, x25, x35, x45, a5, c5, u5, r5⟩, ⟨x06, x16, x26, x36, x46, a6, c6, u6, r6⟩, ⟨x07, x17, x27, x37, x47, u7⟩, ⟨a8x, c8x, u8, r8⟩, u9, u11, ⟨a12x, c12x, u12, r12⟩, u13⟩ := hV
      simp only [getsD, List.getD_cons_succ, List.getD_cons_zero, List.length_cons, List.length_nil, List.range, List.range.loop, u1, u2, u3, u5, u6, u7, u8, u9, u11, u12, u13, Act.put, List.setIfInBounds_toArray, List.set_cons_succ, List.set_cons_zero]
      clear u1 u2 u3 u5 u6 u7 u8 u9 u11 u12 u13
      have b13 := hI
      clear hI hL
      have B13 := Lib.hid (up B12.out b13)
      have G13 := Lib.hid (G9.out.below' b13)
      have RY' := Lib.hid (RY.out.go b13)
      have RX := Lib.hid r12
      obtain ⟨w13, rfl⟩ : ∃ x : World, x = W := ⟨_, rfl⟩
      clear b13 B12 G9 X2 R2 RY r12 HH2 HX
      have hcv := HcT.out w13
      have Hgc : Hid (N ≤ grownCap w13 N 0 21 ∧ grownCap w13 N 0 21 ≤ 9223372036854775807) := ⟨grownCap_ge _ _ _ _, Nat.le_trans (grownCap_le_maxLen _ _ _ _ (by unfold maxLen; omega)) (by unfold maxLen; omega)⟩
      generalize hgc : grownCap w13 N 0 21 = gc at *
      clear hgc
      go_wp2_with fail
      refine abs_w (fun W => Below w13.heap.size w13 W ∧ RunesAt W w13.heap.size rs) ⟨?_, ?_⟩ ?_
      · exact ((Below.refl _ _).alloc (Nat.le_refl _) _).drew
      · exact runesAt_new w13 RT _ rs HRT.out _
      rintro w14 ⟨u14, hrn⟩
      have HRn := Lib.hid hrn
      have B14 := Lib.hid (up B13.out u14)
      have G10 := Lib.hid (G13.out.below' u14)
      have RY := Lib.hid (RY'.out.go u14)
      have RX' := Lib.hid (RX.out.go u14)
      generalize hrg : w13.heap.size = rg at *
      clear hrg u14 hrn hcv B13 G13 RY' RX
      have RX := RX'
      clear RX'
      obtain ⟨gc1, gc2⟩ := Hgc.out
      obtain ⟨Vp, HV⟩ : ∃ Vp : Nat → Value → World → Prop, Hid (Vp = fun i v W => match i with
          | 0 => v = .slice (some ⟨rg, 0, none⟩) N gc
          | 1 => v = .int .i64 (k : Int)
          | 2 => ∃ c, v = .slice (some ⟨rg, 0, none⟩) k c
          | 3 => v = .string (Uni.enc (rs.take k))
          | 4 => v = .string sx
          | 5 => v = .string S2
          | 6 => v = .slice (some ⟨rg, 0, none⟩) N gc
          | 7 => v = .int .i64 (k : Int)
          | 8 => ∃ o c, v = .slice (some ⟨rg, o, none⟩) (N - k) c ∧ (o = k ∨ (k = N ∧ o = 0))
          | 9 => v = .string (Uni.enc (rs.drop k))
          | 10 => v = .string S1
          | 11 => v = .slice a12y lY c12y
          | 12 => v = .tuple #[.string S4, .int .i64 0]
          | 13 => v = .tuple #[.string S4, .int .i64 0]
          | 14 => v = .string S4
          | 15 => v = .int .i64 0
          | 16 => v = .string S4
          | _ => v = .int .i64 0) := ⟨_, rfl⟩
      refine region_lit2 (by kernel_rfl) (by kernel_rfl) (by kernel_rfl) [[], [], [0, 1], [0, 1, 2], [], [0, 1, 2, 3, 4], [], [], [6, 7], [6, 7, 8], [0, 1, 2, 3, 4, 5, 6, 7, 8, 9], [], [0, 1, 2, 3, 4, 5, 6, 7, 8, 9, 10, 11], [0, 1, 2, 3, 4, 5, 6, 7, 8, 9, 10, 11, 12], [0, 1, 2, 3, 4, 5, 6, 7, 8, 9, 10, 11, 12, 13], [0, 1, 2, 3, 4, 5, 6, 7, 8, 9, 10, 11, 12, 13], [0, 1, 2, 3, 4, 5, 6, 7, 8, 9, 10, 11, 12, 13, 14], [0, 1, 2, 3, 4, 5, 6, 7, 8, 9, 10, 11, 12, 13, 15]] (by kernel_rfl) [some 85, some 86, some 87, some 88, some 89, some 90, some 91, some 92, some 93, some 94, some 95, some 96, some 97, some 84, some 98, some 99, some 25, some 26] (by kernel_rfl) [false, false, false, false, false, false, false, false, false, false, false, false, false, false, false, false, false, false] (by kernel_rfl)
        (fun W => Below w14.heap.size w14 W)
        Vp
        (fun W W' => Below W.heap.size W W')
        [fun x => ⟨#[undef, undef, undef, undef, undef, undef, undef, undef, undef, undef, undef, undef, undef, undef, undef, undef, undef, undef, undef, undef, undef, undef, undef, undef, .slice (some ⟨rg, 0, none⟩) N gc, undef, undef, undef, undef, undef, undef, undef, undef, undef, undef, undef, undef, undef, undef, undef, undef, undef, undef, undef, undef, undef, undef, undef, undef, undef, undef, undef, undef, undef, undef, undef, undef, undef, undef, undef, undef, undef, undef, undef, undef, undef, undef, undef, undef, undef, undef, undef, undef, undef, undef, undef, undef, undef, undef, undef, undef, undef, undef, undef, undef, undef], []⟩,
   fun x => ⟨#[undef, undef, undef, undef, undef, undef, undef, undef, undef, undef, undef, .int .i64 (k : Int), undef, undef, undef, undef, undef, undef, undef, undef, undef, undef, undef, undef, undef, undef, undef, undef, undef, undef, undef, undef, undef, undef, undef, undef, undef, undef, undef, undef, undef, undef, undef, undef, undef, undef, undef, undef, undef, undef, undef, undef, undef, undef, undef, undef, undef, undef, undef, undef, undef, undef, undef, undef, undef, undef, undef, undef, undef, undef, undef, undef, undef, undef, undef, undef, undef, undef, undef, undef, undef, undef, undef, undef, undef, undef, undef], []⟩,
   fun x => ⟨#[undef, undef, undef, undef, undef, undef, undef, undef, undef, undef, undef, undef, undef, undef, undef, undef, undef, undef, undef, undef, undef, undef, undef, undef, undef, undef, undef, undef, undef, undef, undef, undef, undef, undef, undef, undef, undef, undef, undef, undef, undef, undef, undef, undef, undef, undef, undef, undef, undef, undef, undef, undef, undef, undef, undef, undef, undef, undef, undef, undef, undef, undef, undef, undef, undef, undef, undef, undef, undef, undef, undef, undef, undef, undef, undef, undef, undef, undef, undef, undef, undef, undef, undef, undef, undef, x 0, x 1, undef], []⟩,
   fun x => ⟨#[undef, undef, undef, undef, undef, undef, undef, undef, undef, undef, undef, undef, undef, undef, undef, undef, undef, undef, undef, undef, undef, undef, undef, undef, undef, undef, undef, undef, undef, undef, undef, undef, undef, undef, undef, undef, undef, undef, undef, undef, undef, undef, undef, undef, undef, undef, undef, undef, undef, undef, undef, undef, undef, undef, undef, undef, undef, undef, undef, undef, undef, undef, undef, undef, undef, undef, undef, undef, undef, undef, undef, undef, undef, undef, undef, undef, undef, undef, undef, undef, undef, undef, undef, undef, undef, undef, undef, x 2, undef], []⟩,
   fun x => ⟨#[undef, undef, undef, undef, undef, undef, undef, undef, undef, undef, undef, undef, .string sx, undef, undef, undef, undef, undef, undef, undef, undef, undef, undef, undef, undef, undef, undef, undef, undef, undef, undef, undef, undef, undef, undef, undef, undef, undef, undef, undef, undef, undef, undef, undef, undef, undef, undef, undef, undef, undef, undef, undef, undef, undef, undef, undef, undef, undef, undef, undef, undef, undef, undef, undef, undef, undef, undef, undef, undef, undef, undef, undef, undef, undef, undef, undef, undef, undef, undef, undef, undef, undef, undef, undef, undef, undef, undef, undef, undef, undef], []⟩,
   fun x => ⟨#[undef, undef, undef, undef, undef, undef, undef, undef, undef, undef, undef, undef, undef, undef, undef, undef, undef, undef, undef, undef, undef, undef, undef, undef, undef, undef, undef, undef, undef, undef, undef, undef, undef, undef, undef, undef, undef, undef, undef, undef, undef, undef, undef, undef, undef, undef, undef, undef, undef, undef, undef, undef, undef, undef, undef, undef, undef, undef, undef, undef, undef, undef, undef, undef, undef, undef, undef, undef, undef, undef, undef, undef, undef, undef, undef, undef, undef, undef, undef, undef, undef, undef, undef, undef, undef, undef, undef, undef, x 3, x 4, undef], []⟩,
   fun x => ⟨#[undef, undef, undef, undef, undef, undef, undef, undef, undef, undef, undef, undef, undef, undef, undef, undef, undef, undef, undef, undef, undef, undef, undef, undef, .slice (some ⟨rg, 0, none⟩) N gc, undef, undef, undef, undef, undef, undef, undef, undef, undef, undef, undef, undef, undef, undef, undef, undef, undef, undef, undef, undef, undef, undef, undef, undef, undef, undef, undef, undef, undef, undef, undef, undef, undef, undef, undef, undef, undef, undef, undef, undef, undef, undef, undef, undef, undef, undef, undef, undef, undef, undef, undef, undef, undef, undef, undef, undef, undef, undef, undef, undef, undef, undef, undef, undef, undef, undef, undef], []⟩,
   fun x => ⟨#[undef, undef, undef, undef, undef, undef, undef, undef, undef, undef, undef, .int .i64 (k : Int), undef, undef, undef, undef, undef, undef, undef, undef, undef, undef, undef, undef, undef, undef, undef, undef, undef, undef, undef, undef, undef, undef, undef, undef, undef, undef, undef, undef, undef, undef, undef, undef, undef, undef, undef, undef, undef, undef, undef, undef, undef, undef, undef, undef, undef, undef, undef, undef, undef, undef, undef, undef, undef, undef, undef, undef, undef, undef, undef, undef, undef, undef, undef, undef, undef, undef, undef, undef, undef, undef, undef, undef, undef, undef, undef, undef, undef, undef, undef, undef, undef], []⟩,
   fun x => ⟨#[undef, undef, undef, undef, undef, undef, undef, undef, undef, undef, undef, undef, undef, undef, undef, undef, undef, undef, undef, undef, undef, undef, undef, undef, undef, undef, undef, undef, undef, undef, undef, undef, undef, undef, undef, undef, undef, undef, undef, undef, undef, undef, undef, undef, undef, undef, undef, undef, undef, undef, undef, undef, undef, undef, undef, undef, undef, undef, undef, undef, undef, undef, undef, undef, undef, undef, undef, undef, undef, undef, undef, undef, undef, undef, undef, undef, undef, undef, undef, undef, undef, undef, undef, undef, undef, undef, undef, undef, undef, undef, undef, x 6, x 7, undef], []⟩,
   fun x => ⟨#[undef, undef, undef, undef, undef, undef, undef, undef, undef, undef, undef, undef, undef, undef, undef, undef, undef, undef, undef, undef, undef, undef, undef, undef, undef, undef, undef, undef, undef, undef, undef, undef, undef, undef, undef, undef, undef, undef, undef, undef, undef, undef, undef, undef, undef, undef, undef, undef, undef, undef, undef, undef, undef, undef, undef, undef, undef, undef, undef, undef, undef, undef, undef, undef, undef, undef, undef, undef, undef, undef, undef, undef, undef, undef, undef, undef, undef, undef, undef, undef, undef, undef, undef, undef, undef, undef, undef, undef, undef, undef, undef, undef, undef, x 8, undef], []⟩,
   fun x => ⟨#[undef, undef, undef, undef, undef, undef, undef, undef, undef, undef, undef, undef, undef, undef, undef, undef, undef, undef, undef, undef, undef, undef, undef, undef, undef, undef, undef, undef, undef, undef, undef, undef, undef, undef, undef, undef, undef, undef, undef, undef, undef, undef, undef, undef, undef, undef, undef, undef, undef, undef, undef, undef, undef, undef, undef, undef, undef, undef, undef, undef, undef, undef, undef, undef, undef, undef, undef, undef, undef, undef, undef, undef, undef, undef, undef, undef, undef, undef, undef, undef, undef, undef, undef, undef, undef, undef, undef, undef, undef, undef, x 5, undef, undef, undef, x 9, undef], []⟩,
   fun x => ⟨#[undef, undef, undef, undef, undef, undef, undef, undef, undef, undef, undef, undef, undef, undef, undef, undef, undef, undef, undef, .slice a12y lY c12y, undef, undef, undef, undef, undef, undef, undef, undef, undef, undef, undef, undef, undef, undef, undef, undef, undef, undef, undef, undef, undef, undef, undef, undef, undef, undef, undef, undef, undef, undef, undef, undef, undef, undef, undef, undef, undef, undef, undef, undef, undef, undef, undef, undef, undef, undef, undef, undef, undef, undef, undef, undef, undef, undef, undef, undef, undef, undef, undef, undef, undef, undef, undef, undef, undef, undef, undef, undef, undef, undef, undef, undef, undef, undef, undef, undef, undef], []⟩,
   fun x => ⟨#[undef, undef, undef, undef, undef, undef, undef, undef, undef, undef, undef, undef, undef, undef, undef, undef, undef, undef, undef, undef, undef, undef, undef, undef, undef, undef, undef, undef, undef, undef, undef, undef, undef, undef, undef, undef, undef, undef, undef, undef, undef, undef, undef, undef, undef, undef, undef, undef, undef, undef, undef, undef, undef, undef, undef, undef, undef, undef, undef, undef, undef, undef, undef, undef, undef, undef, undef, undef, undef, undef, undef, undef, undef, undef, undef, undef, undef, undef, undef, undef, undef, undef, undef, undef, undef, undef, undef, undef, undef, undef, undef, undef, undef, undef, undef, x 10, x 11, undef], []⟩,
   fun x => ⟨#[undef, undef, undef, undef, undef, undef, undef, undef, undef, undef, undef, undef, undef, undef, undef, undef, undef, undef, undef, undef, undef, undef, undef, undef, undef, undef, undef, undef, undef, undef, undef, undef, undef, undef, undef, undef, undef, undef, undef, undef, undef, undef, undef, undef, undef, undef, undef, undef, undef, undef, undef, undef, undef, undef, undef, undef, undef, undef, undef, undef, undef, undef, undef, undef, undef, undef, undef, undef, undef, undef, undef, undef, undef, undef, undef, undef, undef, undef, undef, undef, undef, undef, undef, undef, undef, undef, undef, undef, undef, undef, undef, undef, undef, undef, undef, undef, undef, x 12], []⟩,
   fun x => ⟨#[undef, undef, undef, undef, undef, undef, undef, undef, undef, undef, undef, undef, undef, undef, undef, undef, undef, undef, undef, undef, undef, undef, undef, undef, undef, undef, undef, undef, undef, undef, undef, undef, undef, undef, undef, undef, undef, undef, undef, undef, undef, undef, undef, undef, undef, undef, undef, undef, undef, undef, undef, undef, undef, undef, undef, undef, undef, undef, undef, undef, undef, undef, undef, undef, undef, undef, undef, undef, undef, undef, undef, undef, undef, undef, undef, undef, undef, undef, undef, undef, undef, undef, undef, undef, x 13, undef, undef, undef, undef, undef, undef, undef, undef, undef, undef, undef, undef, undef, undef], []⟩,
   fun x => ⟨#[undef, undef, undef, undef, undef, undef, undef, undef, undef, undef, undef, undef, undef, undef, undef, undef, undef, undef, undef, undef, undef, undef, undef, undef, undef, undef, undef, undef, undef, undef, undef, undef, undef, undef, undef, undef, undef, undef, undef, undef, undef, undef, undef, undef, undef, undef, undef, undef, undef, undef, undef, undef, undef, undef, undef, undef, undef, undef, undef, undef, undef, undef, undef, undef, undef, undef, undef, undef, undef, undef, undef, undef, undef, undef, undef, undef, undef, undef, undef, undef, undef, undef, undef, undef, x 13, undef, undef, undef, undef, undef, undef, undef, undef, undef, undef, undef, undef, undef, undef, undef], []⟩,
   fun x => ⟨#[undef, undef, undef, undef, undef, undef, undef, undef, undef, undef, undef, undef, undef, undef, undef, undef, undef, undef, undef, undef, undef, undef, undef, undef, undef, undef, undef, undef, undef, undef, undef, undef, undef, undef, undef, undef, undef, undef, undef, undef, undef, undef, undef, undef, undef, undef, undef, undef, undef, undef, undef, undef, undef, undef, undef, undef, undef, undef, undef, undef, undef, undef, undef, undef, undef, undef, undef, undef, undef, undef, undef, undef, undef, undef, undef, undef, undef, undef, undef, undef, undef, undef, undef, undef, undef, undef, undef, undef, undef, undef, undef, undef, undef, undef, undef, undef, undef, undef, x 14], []⟩,
   fun x => ⟨#[undef, undef, undef, undef, undef, undef, undef, undef, undef, undef, undef, undef, undef, undef, undef, undef, undef, undef, undef, undef, undef, undef, undef, undef, undef, undef, undef, undef, undef, undef, undef, undef, undef, undef, undef, undef, undef, undef, undef, undef, undef, undef, undef, undef, undef, undef, undef, undef, undef, undef, undef, undef, undef, undef, undef, undef, undef, undef, undef, undef, undef, undef, undef, undef, undef, undef, undef, undef, undef, undef, undef, undef, undef, undef, undef, undef, undef, undef, undef, undef, undef, undef, undef, undef, undef, undef, undef, undef, undef, undef, undef, undef, undef, undef, undef, undef, undef, undef, undef, x 15], []⟩]
        ?hF ?mono ?h0 ?step ?fin
      case hF =>
        exact ⟨fun x => ⟨by kernel_rfl, by kernel_rfl⟩, fun x => ⟨by kernel_rfl, by kernel_rfl⟩, fun x => ⟨by kernel_rfl, by kernel_rfl⟩, fun x => ⟨by kernel_rfl, by kernel_rfl⟩, fun x => ⟨by kernel_rfl, by kernel_rfl⟩, fun x => ⟨by kernel_rfl, by kernel_rfl⟩, fun x => ⟨by kernel_rfl, by kernel_rfl⟩, fun x => ⟨by kernel_rfl, by kernel_rfl⟩, fun x => ⟨by kernel_rfl, by kernel_rfl⟩, fun x => ⟨by kernel_rfl, by kernel_rfl⟩, fun x => ⟨by kernel_rfl, by kernel_rfl⟩, fun x => ⟨by kernel_rfl, by kernel_rfl⟩, fun x => ⟨by kernel_rfl, by kernel_rfl⟩, fun x => ⟨by kernel_rfl, by kernel_rfl⟩, fun x => ⟨by kernel_rfl, by kernel_rfl⟩, fun x => ⟨by kernel_rfl, by kernel_rfl⟩, fun x => ⟨by kernel_rfl, by kernel_rfl⟩, fun x => ⟨by kernel_rfl, by kernel_rfl⟩, trivial⟩
      case mono =>
        intro i hi v W W' hE hv
        rw [HV.out] at hv ⊢
        match i, hi with
        | 0, _ | 1, _ | 2, _ | 3, _ | 4, _ | 5, _ | 6, _ | 7, _ | 8, _ | 9, _ | 10, _ | 11, _ | 12, _ | 13, _ | 14, _ | 15, _ | 16, _ => exact hv
        | 17, _ => exact hv
        | m + 18, h => exact absurd h (by simp)
      case h0 => first | exact (Below.refl _ _).drew | exact Below.drew (by assumption) | (refine Below.drew ?_; assumption)
      case step =>
        refine ⟨?_, ?_, ?_, ?_, ?_, ?_, ?_, ?_, ?_, ?_, ?_, ?_, ?_, ?_, ?_, ?_, ?_, ?_, trivial⟩
        all_goals
          intro x W hI hV
          rw [HV.out] at hV
          simp only [AllV, and_true] at hV
        · clear hV
          (try dsimp only)
          go_wp2_with fail
          exact step_done rfl hI (Below.refl _ _) (toV HV rfl)
        · clear hV
          (try dsimp only)
          go_wp2_with fail
          exact step_done rfl hI (Below.refl _ _) (toV HV rfl)
        · obtain ⟨u0, u1⟩ := hV
          simp only [u0, u1]
          clear u0 u1
          have i1 : (0 : Int) ≤ ((k : Nat) : Int) := by omega
          have i2 : ((k : Nat) : Int) ≤ ((gc : Nat) : Int) := by omega
          go_wp2_with fail
          exact step_done rfl hI (Below.refl _ _) (toV HV ⟨_, rfl⟩)
        · obtain ⟨u0, u1, ⟨c2, u2⟩⟩ := hV
          simp only [u2]
          clear u0 u1 u2
          have hcv := (HRn.out.below hI HRn.out.1).conv 0 k c2 (by have := HNn.out; omega)
          rw [Ht1.out] at hcv
          go_wp2_with fail
          exact step_done rfl hI (Below.refl _ _) (toV HV rfl)
        · clear hV
          (try dsimp only)
          go_wp2_with fail
          exact step_done rfl hI (Below.refl _ _) (toV HV rfl)
        · obtain ⟨u0, u1, ⟨c2, u2⟩, u3, u4⟩ := hV
          simp only [u3, u4]
          clear u0 u1 u2 u3 u4
          have hcc := Hc1.out W
          go_wp2_with fail
          exact step_done rfl hI (Below.refl _ _) (toV HV rfl)
        · clear hV
          (try dsimp only)
          go_wp2_with fail
          exact step_done rfl hI (Below.refl _ _) (toV HV rfl)
        · clear hV
          (try dsimp only)
          go_wp2_with fail
          exact step_done rfl hI (Below.refl _ _) (toV HV rfl)
        · obtain ⟨u6, u7⟩ := hV
          simp only [u6, u7]
          clear u6 u7
          have i1 : (0 : Int) ≤ ((k : Nat) : Int) := by omega
          have i2 : ((k : Nat) : Int) ≤ ((N : Nat) : Int) := by omega
          have i3 : ((N : Nat) : Int) ≤ ((gc : Nat) : Int) := by omega
          by_cases hck : k < gc
          · go_wp2_with fail
            exact step_done rfl hI (Below.refl _ _) (toV HV ⟨_, _, rfl, .inl rfl⟩)
          · have hkg : gc = k := by omega
            have hkN : k = N := by omega
            have HkN := Lib.hid hkN
            clear hkN
            subst hkg
            go_wp2_with fail
            exact step_done rfl hI (Below.refl _ _) (toV HV ⟨0, 0, by rw [show N - gc = 0 from by have := HkN.out; omega], .inr ⟨HkN.out, rfl⟩⟩)
        · obtain ⟨u6, u7, ⟨o8, c8, u8, h8⟩⟩ := hV
          simp only [u8]
          clear u6 u7 u8
          have hcv : (convert 90 9 (.slice (some ⟨rg, o8, none⟩) (N - k) c8)).run Tryd.prog W = .ok (.string (Uni.enc (rs.drop k))) W := by
            have h1 := (HRn.out.below hI HRn.out.1).conv o8 (N - k) c8 (by have := HNn.out; omega)
            rcases h8 with h | h
            · rw [h, Ht2.out] at h1; rw [h]; exact h1
            · have h2 := Ht2.out
              rw [← h2]
              have e1 : N - k = 0 := by omega
              rw [e1] at h1 ⊢
              simpa using h1
          clear h8
          go_wp2_with fail
          exact step_done rfl hI (Below.refl _ _) (toV HV rfl)
        · obtain ⟨u0, u1, ⟨c2, u2⟩, u3, u4, u5, u6, u7, ⟨o8, c8, u8, h8⟩, u9⟩ := hV
          simp only [u5, u9]
          clear u0 u1 u2 u3 u4 u5 u6 u7 u8 u9
          have hcc := Hc3.out W
          go_wp2_with fail
          exact step_done rfl hI (Below.refl _ _) (toV HV rfl)
        · clear hV
          (try dsimp only)
          go_wp2_with fail
          exact step_done rfl hI (Below.refl _ _) (toV HV rfl)
        · obtain ⟨u0, u1, ⟨c2, u2⟩, u3, u4, u5, u6, u7, ⟨o8, c8, u8, h8⟩, u9, u10, u11⟩ := hV
          simp only [u10, u11]
          clear u0 u1 u2 u3 u4 u5 u6 u7 u8 u9 u10 u11
          have HI := Lib.hid hI
          clear hI
          go_wp2_with fail
          refine (HA1.out _ _ _ _ (G10.out.below' HI.out) (RY.out.go HI.out)).mono ?_
          rintro e W' ⟨rfl, uW⟩
          have HW := Lib.hid (up HI.out uW)
          have HU := Lib.hid uW
          clear uW
          go_wp2_with fail
          exact step_done rfl HW.out HU.out (toV HV rfl)
        · obtain ⟨u0, u1, ⟨c2, u2⟩, u3, u4, u5, u6, u7, ⟨o8, c8, u8, h8⟩, u9, u10, u11, u12⟩ := hV
          simp only [u12]
          clear u0 u1 u2 u3 u4 u5 u6 u7 u8 u9 u10 u11 u12
          go_wp2_with fail
          exact step_done rfl hI (Below.refl _ _) (toV HV rfl)
        · obtain ⟨u0, u1, ⟨c2, u2⟩, u3, u4, u5, u6, u7, ⟨o8, c8, u8, h8⟩, u9, u10, u11, u12, u13⟩ := hV
          simp only [u13]
          clear u0 u1 u2 u3 u4 u5 u6 u7 u8 u9 u10 u11 u12 u13
          go_wp2_with fail
          exact step_done rfl hI (Below.refl _ _) (toV HV rfl)
        · obtain ⟨u0, u1, ⟨c2, u2⟩, u3, u4, u5, u6, u7, ⟨o8, c8, u8, h8⟩, u9, u10, u11, u12, u13⟩ := hV
          simp only [u13]
          clear u0 u1 u2 u3 u4 u5 u6 u7 u8 u9 u10 u11 u12 u13
          go_wp2_with fail
          exact step_done rfl hI (Below.refl _ _) (toV HV rfl)
        · obtain ⟨u0, u1, ⟨c2, u2⟩, u3, u4, u5, u6, u7, ⟨o8, c8, u8, h8⟩, u9, u10, u11, u12, u13, u14⟩ := hV
          simp only [u14]
          clear u0 u1 u2 u3 u4 u5 u6 u7 u8 u9 u10 u11 u12 u13 u14
          go_wp2_with fail
          exact step_done rfl hI (Below.refl _ _) (toV HV rfl)
        · obtain ⟨u0, u1, ⟨c2, u2⟩, u3, u4, u5, u6, u7, ⟨o8, c8, u8, h8⟩, u9, u10, u11, u12, u13, u15⟩ := hV
          simp only [u15]
          clear u0 u1 u2 u3 u4 u5 u6 u7 u8 u9 u10 u11 u12 u13 u15
          go_wp2_with fail
          exact step_done rfl hI (Below.refl _ _) (toV HV rfl)
      case fin =>
        intro x W hI hV
        rw [HV.out] at hV
        simp only [AllV, and_true, List.length_cons, List.length_nil, List.range, List.range.loop] at hV
        obtain ⟨u0, u1, ⟨c2, u2⟩, u3, u4, u5, u6, u7, ⟨o8, c8, u8, h8⟩, u9, u10, u11, u12, u13, u14, u15, u16, u17⟩ := hV
        simp only [getsD, List.getD_cons_succ, List.getD_cons_zero, List.length_cons, List.length_nil, List.range, List.range.loop, u0, u1, u2, u3, u4, u5, u6, u7, u8, u9, u10, u11, u12, u13, u14, u15, u16, u17, Act.put, List.setIfInBounds_toArray, List.set_cons_succ, List.set_cons_zero]
        clear u0 u1 u2 u3 u4 u5 u6 u7 u8 u9 u10 u11 u12 u13 u14 u15 u16 u17
        have u15 := hI
        clear hI
        have B15 := Lib.hid (up B14.out u15)
        have G10' := Lib.hid (G10.out.below' u15)
        have HRn' := Lib.hid (HRn.out.below u15 HRn.out.1)
        have RX' := Lib.hid (RX.out.go u15)
        obtain ⟨w15, rfl⟩ : ∃ x : World, x = W := ⟨_, rfl⟩
        clear u15 B14 G10 HRn RX
        have G10 := G10'
        have HRn := HRn'
        have RX := RX'
        clear G10' HRn' RX'
        go_wp2_with fail
        obtain ⟨Vp, HV⟩ : ∃ Vp : Nat → Value → World → Prop, Hid (Vp = fun i v W => match i with
            | 0 => v = .slice (some ⟨rg, 0, none⟩) N gc
            | 1 => v = .int .i64 (k : Int)
            | 2 => ∃ c, v = .slice (some ⟨rg, 0, none⟩) k c
            | 3 => v = .string (Uni.enc (rs.take k))
            | 4 => v = .string sy
            | 5 => v = .string S6
            | 6 => v = .slice (some ⟨rg, 0, none⟩) N gc
            | 7 => v = .int .i64 (k : Int)
            | 8 => ∃ o c, v = .slice (some ⟨rg, o, none⟩) (N - k) c ∧ (o = k ∨ (k = N ∧ o = 0))
            | 9 => v = .string (Uni.enc (rs.drop k))
            | 10 => v = .string S5
            | 11 => v = .slice a12x lX c12x
            | 12 => v = .tuple #[.string S4, .int .i64 0]
            | 13 => v = .tuple #[.string S4, .int .i64 0]
            | 14 => v = .string S4
            | 15 => v = .int .i64 0
            | 16 => v = .string S4
            | _ => v = .int .i64 0) := ⟨_, rfl⟩
        refine region_lit2 (by kernel_rfl) (by kernel_rfl) (by kernel_rfl) [[], [], [0, 1], [0, 1, 2], [], [0, 1, 2, 3, 4], [], [], [6, 7], [6, 7, 8], [0, 1, 2, 3, 4, 5, 6, 7, 8, 9], [], [0, 1, 2, 3, 4, 5, 6, 7, 8, 9, 10, 11], [0, 1, 2, 3, 4, 5, 6, 7, 8, 9, 10, 11, 12], [0, 1, 2, 3, 4, 5, 6, 7, 8, 9, 10, 11, 12, 13], [0, 1, 2, 3, 4, 5, 6, 7, 8, 9, 10, 11, 12, 13], [0, 1, 2, 3, 4, 5, 6, 7, 8, 9, 10, 11, 12, 13, 14], [0, 1, 2, 3, 4, 5, 6, 7, 8, 9, 10, 11, 12, 13, 15]] (by kernel_rfl) [some 101, some 102, some 103, some 104, some 105, some 106, some 107, some 108, some 109, some 110, some 111, some 112, some 113, some 100, some 114, some 115, some 27, some 28] (by kernel_rfl) [false, false, false, false, false, false, false, false, false, false, false, false, false, false, false, false, false, false] (by kernel_rfl)
          (fun W => Below w15.heap.size w15 W)
          Vp
          (fun W W' => Below W.heap.size W W')
          [fun x => ⟨#[undef, undef, undef, undef, undef, undef, undef, undef, undef, undef, undef, undef, undef, undef, undef, undef, undef, undef, undef, undef, undef, undef, undef, undef, .slice (some ⟨rg, 0, none⟩) N gc, undef, undef, undef, undef, undef, undef, undef, undef, undef, undef, undef, undef, undef, undef, undef, undef, undef, undef, undef, undef, undef, undef, undef, undef, undef, undef, undef, undef, undef, undef, undef, undef, undef, undef, undef, undef, undef, undef, undef, undef, undef, undef, undef, undef, undef, undef, undef, undef, undef, undef, undef, undef, undef, undef, undef, undef, undef, undef, undef, undef, undef, undef, undef, undef, undef, undef, undef, undef, undef, undef, undef, undef, undef, undef, undef, undef, undef], []⟩,
   fun x => ⟨#[undef, undef, undef, undef, undef, undef, undef, undef, undef, undef, undef, .int .i64 (k : Int), undef, undef, undef, undef, undef, undef, undef, undef, undef, undef, undef, undef, undef, undef, undef, undef, undef, undef, undef, undef, undef, undef, undef, undef, undef, undef, undef, undef, undef, undef, undef, undef, undef, undef, undef, undef, undef, undef, undef, undef, undef, undef, undef, undef, undef, undef, undef, undef, undef, undef, undef, undef, undef, undef, undef, undef, undef, undef, undef, undef, undef, undef, undef, undef, undef, undef, undef, undef, undef, undef, undef, undef, undef, undef, undef, undef, undef, undef, undef, undef, undef, undef, undef, undef, undef, undef, undef, undef, undef, undef, undef], []⟩,
   fun x => ⟨#[undef, undef, undef, undef, undef, undef, undef, undef, undef, undef, undef, undef, undef, undef, undef, undef, undef, undef, undef, undef, undef, undef, undef, undef, undef, undef, undef, undef, undef, undef, undef, undef, undef, undef, undef, undef, undef, undef, undef, undef, undef, undef, undef, undef, undef, undef, undef, undef, undef, undef, undef, undef, undef, undef, undef, undef, undef, undef, undef, undef, undef, undef, undef, undef, undef, undef, undef, undef, undef, undef, undef, undef, undef, undef, undef, undef, undef, undef, undef, undef, undef, undef, undef, undef, undef, undef, undef, undef, undef, undef, undef, undef, undef, undef, undef, undef, undef, undef, undef, undef, undef, x 0, x 1, undef], []⟩,
   fun x => ⟨#[undef, undef, undef, undef, undef, undef, undef, undef, undef, undef, undef, undef, undef, undef, undef, undef, undef, undef, undef, undef, undef, undef, undef, undef, undef, undef, undef, undef, undef, undef, undef, undef, undef, undef, undef, undef, undef, undef, undef, undef, undef, undef, undef, undef, undef, undef, undef, undef, undef, undef, undef, undef, undef, undef, undef, undef, undef, undef, undef, undef, undef, undef, undef, undef, undef, undef, undef, undef, undef, undef, undef, undef, undef, undef, undef, undef, undef, undef, undef, undef, undef, undef, undef, undef, undef, undef, undef, undef, undef, undef, undef, undef, undef, undef, undef, undef, undef, undef, undef, undef, undef, undef, undef, x 2, undef], []⟩,
   fun x => ⟨#[undef, undef, undef, undef, undef, undef, undef, undef, undef, undef, undef, undef, undef, .string sy, undef, undef, undef, undef, undef, undef, undef, undef, undef, undef, undef, undef, undef, undef, undef, undef, undef, undef, undef, undef, undef, undef, undef, undef, undef, undef, undef, undef, undef, undef, undef, undef, undef, undef, undef, undef, undef, undef, undef, undef, undef, undef, undef, undef, undef, undef, undef, undef, undef, undef, undef, undef, undef, undef, undef, undef, undef, undef, undef, undef, undef, undef, undef, undef, undef, undef, undef, undef, undef, undef, undef, undef, undef, undef, undef, undef, undef, undef, undef, undef, undef, undef, undef, undef, undef, undef, undef, undef, undef, undef, undef, undef], []⟩,
   fun x => ⟨#[undef, undef, undef, undef, undef, undef, undef, undef, undef, undef, undef, undef, undef, undef, undef, undef, undef, undef, undef, undef, undef, undef, undef, undef, undef, undef, undef, undef, undef, undef, undef, undef, undef, undef, undef, undef, undef, undef, undef, undef, undef, undef, undef, undef, undef, undef, undef, undef, undef, undef, undef, undef, undef, undef, undef, undef, undef, undef, undef, undef, undef, undef, undef, undef, undef, undef, undef, undef, undef, undef, undef, undef, undef, undef, undef, undef, undef, undef, undef, undef, undef, undef, undef, undef, undef, undef, undef, undef, undef, undef, undef, undef, undef, undef, undef, undef, undef, undef, undef, undef, undef, undef, undef, undef, x 3, x 4, undef], []⟩,
   fun x => ⟨#[undef, undef, undef, undef, undef, undef, undef, undef, undef, undef, undef, undef, undef, undef, undef, undef, undef, undef, undef, undef, undef, undef, undef, undef, .slice (some ⟨rg, 0, none⟩) N gc, undef, undef, undef, undef, undef, undef, undef, undef, undef, undef, undef, undef, undef, undef, undef, undef, undef, undef, undef, undef, undef, undef, undef, undef, undef, undef, undef, undef, undef, undef, undef, undef, undef, undef, undef, undef, undef, undef, undef, undef, undef, undef, undef, undef, undef, undef, undef, undef, undef, undef, undef, undef, undef, undef, undef, undef, undef, undef, undef, undef, undef, undef, undef, undef, undef, undef, undef, undef, undef, undef, undef, undef, undef, undef, undef, undef, undef, undef, undef, undef, undef, undef, undef], []⟩,
   fun x => ⟨#[undef, undef, undef, undef, undef, undef, undef, undef, undef, undef, undef, .int .i64 (k : Int), undef, undef, undef, undef, undef, undef, undef, undef, undef, undef, undef, undef, undef, undef, undef, undef, undef, undef, undef, undef, undef, undef, undef, undef, undef, undef, undef, undef, undef, undef, undef, undef, undef, undef, undef, undef, undef, undef, undef, undef, undef, undef, undef, undef, undef, undef, undef, undef, undef, undef, undef, undef, undef, undef, undef, undef, undef, undef, undef, undef, undef, undef, undef, undef, undef, undef, undef, undef, undef, undef, undef, undef, undef, undef, undef, undef, undef, undef, undef, undef, undef, undef, undef, undef, undef, undef, undef, undef, undef, undef, undef, undef, undef, undef, undef, undef, undef], []⟩,
   fun x => ⟨#[undef, undef, undef, undef, undef, undef, undef, undef, undef, undef, undef, undef, undef, undef, undef, undef, undef, undef, undef, undef, undef, undef, undef, undef, undef, undef, undef, undef, undef, undef, undef, undef, undef, undef, undef, undef, undef, undef, undef, undef, undef, undef, undef, undef, undef, undef, undef, undef, undef, undef, undef, undef, undef, undef, undef, undef, undef, undef, undef, undef, undef, undef, undef, undef, undef, undef, undef, undef, undef, undef, undef, undef, undef, undef, undef, undef, undef, undef, undef, undef, undef, undef, undef, undef, undef, undef, undef, undef, undef, undef, undef, undef, undef, undef, undef, undef, undef, undef, undef, undef, undef, undef, undef, undef, undef, undef, undef, x 6, x 7, undef], []⟩,
   fun x => ⟨#[undef, undef, undef, undef, undef, undef, undef, undef, undef, undef, undef, undef, undef, undef, undef, undef, undef, undef, undef, undef, undef, undef, undef, undef, undef, undef, undef, undef, undef, undef, undef, undef, undef, undef, undef, undef, undef, undef, undef, undef, undef, undef, undef, undef, undef, undef, undef, undef, undef, undef, undef, undef, undef, undef, undef, undef, undef, undef, undef, undef, undef, undef, undef, undef, undef, undef, undef, undef, undef, undef, undef, undef, undef, undef, undef, undef, undef, undef, undef, undef, undef, undef, undef, undef, undef, undef, undef, undef, undef, undef, undef, undef, undef, undef, undef, undef, undef, undef, undef, undef, undef, undef, undef, undef, undef, undef, undef, undef, undef, x 8, undef], []⟩,
   fun x => ⟨#[undef, undef, undef, undef, undef, undef, undef, undef, undef, undef, undef, undef, undef, undef, undef, undef, undef, undef, undef, undef, undef, undef, undef, undef, undef, undef, undef, undef, undef, undef, undef, undef, undef, undef, undef, undef, undef, undef, undef, undef, undef, undef, undef, undef, undef, undef, undef, undef, undef, undef, undef, undef, undef, undef, undef, undef, undef, undef, undef, undef, undef, undef, undef, undef, undef, undef, undef, undef, undef, undef, undef, undef, undef, undef, undef, undef, undef, undef, undef, undef, undef, undef, undef, undef, undef, undef, undef, undef, undef, undef, undef, undef, undef, undef, undef, undef, undef, undef, undef, undef, undef, undef, undef, undef, undef, undef, x 5, undef, undef, undef, x 9, undef], []⟩,
   fun x => ⟨#[undef, undef, undef, undef, undef, undef, undef, undef, undef, undef, undef, undef, undef, undef, undef, undef, undef, undef, undef, undef, undef, undef, .slice a12x lX c12x, undef, undef, undef, undef, undef, undef, undef, undef, undef, undef, undef, undef, undef, undef, undef, undef, undef, undef, undef, undef, undef, undef, undef, undef, undef, undef, undef, undef, undef, undef, undef, undef, undef, undef, undef, undef, undef, undef, undef, undef, undef, undef, undef, undef, undef, undef, undef, undef, undef, undef, undef, undef, undef, undef, undef, undef, undef, undef, undef, undef, undef, undef, undef, undef, undef, undef, undef, undef, undef, undef, undef, undef, undef, undef, undef, undef, undef, undef, undef, undef, undef, undef, undef, undef, undef, undef, undef, undef, undef, undef], []⟩,
   fun x => ⟨#[undef, undef, undef, undef, undef, undef, undef, undef, undef, undef, undef, undef, undef, undef, undef, undef, undef, undef, undef, undef, undef, undef, undef, undef, undef, undef, undef, undef, undef, undef, undef, undef, undef, undef, undef, undef, undef, undef, undef, undef, undef, undef, undef, undef, undef, undef, undef, undef, undef, undef, undef, undef, undef, undef, undef, undef, undef, undef, undef, undef, undef, undef, undef, undef, undef, undef, undef, undef, undef, undef, undef, undef, undef, undef, undef, undef, undef, undef, undef, undef, undef, undef, undef, undef, undef, undef, undef, undef, undef, undef, undef, undef, undef, undef, undef, undef, undef, undef, undef, undef, undef, undef, undef, undef, undef, undef, undef, undef, undef, undef, undef, x 10, x 11, undef], []⟩,
   fun x => ⟨#[undef, undef, undef, undef, undef, undef, undef, undef, undef, undef, undef, undef, undef, undef, undef, undef, undef, undef, undef, undef, undef, undef, undef, undef, undef, undef, undef, undef, undef, undef, undef, undef, undef, undef, undef, undef, undef, undef, undef, undef, undef, undef, undef, undef, undef, undef, undef, undef, undef, undef, undef, undef, undef, undef, undef, undef, undef, undef, undef, undef, undef, undef, undef, undef, undef, undef, undef, undef, undef, undef, undef, undef, undef, undef, undef, undef, undef, undef, undef, undef, undef, undef, undef, undef, undef, undef, undef, undef, undef, undef, undef, undef, undef, undef, undef, undef, undef, undef, undef, undef, undef, undef, undef, undef, undef, undef, undef, undef, undef, undef, undef, undef, undef, x 12], []⟩,
   fun x => ⟨#[undef, undef, undef, undef, undef, undef, undef, undef, undef, undef, undef, undef, undef, undef, undef, undef, undef, undef, undef, undef, undef, undef, undef, undef, undef, undef, undef, undef, undef, undef, undef, undef, undef, undef, undef, undef, undef, undef, undef, undef, undef, undef, undef, undef, undef, undef, undef, undef, undef, undef, undef, undef, undef, undef, undef, undef, undef, undef, undef, undef, undef, undef, undef, undef, undef, undef, undef, undef, undef, undef, undef, undef, undef, undef, undef, undef, undef, undef, undef, undef, undef, undef, undef, undef, undef, undef, undef, undef, undef, undef, undef, undef, undef, undef, undef, undef, undef, undef, undef, undef, x 13, undef, undef, undef, undef, undef, undef, undef, undef, undef, undef, undef, undef, undef, undef], []⟩,
   fun x => ⟨#[undef, undef, undef, undef, undef, undef, undef, undef, undef, undef, undef, undef, undef, undef, undef, undef, undef, undef, undef, undef, undef, undef, undef, undef, undef, undef, undef, undef, undef, undef, undef, undef, undef, undef, undef, undef, undef, undef, undef, undef, undef, undef, undef, undef, undef, undef, undef, undef, undef, undef, undef, undef, undef, undef, undef, undef, undef, undef, undef, undef, undef, undef, undef, undef, undef, undef, undef, undef, undef, undef, undef, undef, undef, undef, undef, undef, undef, undef, undef, undef, undef, undef, undef, undef, undef, undef, undef, undef, undef, undef, undef, undef, undef, undef, undef, undef, undef, undef, undef, undef, x 13, undef, undef, undef, undef, undef, undef, undef, undef, undef, undef, undef, undef, undef, undef, undef], []⟩,
   fun x => ⟨#[undef, undef, undef, undef, undef, undef, undef, undef, undef, undef, undef, undef, undef, undef, undef, undef, undef, undef, undef, undef, undef, undef, undef, undef, undef, undef, undef, undef, undef, undef, undef, undef, undef, undef, undef, undef, undef, undef, undef, undef, undef, undef, undef, undef, undef, undef, undef, undef, undef, undef, undef, undef, undef, undef, undef, undef, undef, undef, undef, undef, undef, undef, undef, undef, undef, undef, undef, undef, undef, undef, undef, undef, undef, undef, undef, undef, undef, undef, undef, undef, undef, undef, undef, undef, undef, undef, undef, undef, undef, undef, undef, undef, undef, undef, undef, undef, undef, undef, undef, undef, undef, undef, undef, undef, undef, undef, undef, undef, undef, undef, undef, undef, undef, undef, x 14], []⟩,
   fun x => ⟨#[undef, undef, undef, undef, undef, undef, undef, undef, undef, undef, undef, undef, undef, undef, undef, undef, undef, undef, undef, undef, undef, undef, undef, undef, undef, undef, undef, undef, undef, undef, undef, undef, undef, undef, undef, undef, undef, undef, undef, undef, undef, undef, undef, undef, undef, undef, undef, undef, undef, undef, undef, undef, undef, undef, undef, undef, undef, undef, undef, undef, undef, undef, undef, undef, undef, undef, undef, undef, undef, undef, undef, undef, undef, undef, undef, undef, undef, undef, undef, undef, undef, undef, undef, undef, undef, undef, undef, undef, undef, undef, undef, undef, undef, undef, undef, undef, undef, undef, undef, undef, undef, undef, undef, undef, undef, undef, undef, undef, undef, undef, undef, undef, undef, undef, undef, x 15], []⟩]
          ?hF ?mono ?h0 ?step ?fin
        case hF =>
          exact ⟨fun x => ⟨by kernel_rfl, by kernel_rfl⟩, fun x => ⟨by kernel_rfl, by kernel_rfl⟩, fun x => ⟨by kernel_rfl, by kernel_rfl⟩, fun x => ⟨by kernel_rfl, by kernel_rfl⟩, fun x => ⟨by kernel_rfl, by kernel_rfl⟩, fun x => ⟨by kernel_rfl, by kernel_rfl⟩, fun x => ⟨by kernel_rfl, by kernel_rfl⟩, fun x => ⟨by kernel_rfl, by kernel_rfl⟩, fun x => ⟨by kernel_rfl, by kernel_rfl⟩, fun x => ⟨by kernel_rfl, by kernel_rfl⟩, fun x => ⟨by kernel_rfl, by kernel_rfl⟩, fun x => ⟨by kernel_rfl, by kernel_rfl⟩, fun x => ⟨by kernel_rfl, by kernel_rfl⟩, fun x => ⟨by kernel_rfl, by kernel_rfl⟩, fun x => ⟨by kernel_rfl, by kernel_rfl⟩, fun x => ⟨by kernel_rfl, by kernel_rfl⟩, fun x => ⟨by kernel_rfl, by kernel_rfl⟩, fun x => ⟨by kernel_rfl, by kernel_rfl⟩, trivial⟩
        case mono =>
          intro i hi v W W' hE hv
          rw [HV.out] at hv ⊢
          match i, hi with
          | 0, _ | 1, _ | 2, _ | 3, _ | 4, _ | 5, _ | 6, _ | 7, _ | 8, _ | 9, _ | 10, _ | 11, _ | 12, _ | 13, _ | 14, _ | 15, _ | 16, _ => exact hv
          | 17, _ => exact hv
          | m + 18, h => exact absurd h (by simp)
        case h0 => first | exact (Below.refl _ _).drew | exact Below.drew (by assumption) | (refine Below.drew ?_; assumption)
        case step =>
          refine ⟨?_, ?_, ?_, ?_, ?_, ?_, ?_, ?_, ?_, ?_, ?_, ?_, ?_, ?_, ?_, ?_, ?_, ?_, trivial⟩
          all_goals
            intro x W hI hV
            rw [HV.out] at hV
            simp only [AllV, and_true] at hV
          · clear hV
            (try dsimp only)
            go_wp2_with fail
            exact step_done rfl hI (Below.refl _ _) (toV HV rfl)
          · clear hV
            (try dsimp only)
            go_wp2_with fail
            exact step_done rfl hI (Below.refl _ _) (toV HV rfl)
          · obtain ⟨u0, u1⟩ := hV
            simp only [u0, u1]
            clear u0 u1
            have i1 : (0 : Int) ≤ ((k : Nat) : Int) := by omega
            have i2 : ((k : Nat) : Int) ≤ ((gc : Nat) : Int) := by omega
            go_wp2_with fail
            exact step_done rfl hI (Below.refl _ _) (toV HV ⟨_, rfl⟩)
          · obtain ⟨u0, u1, ⟨c2, u2⟩⟩ := hV
            simp only [u2]
            clear u0 u1 u2
            have hcv := (HRn.out.below hI HRn.out.1).conv 0 k c2 (by have := HNn.out; omega)
            rw [Ht1.out] at hcv
            go_wp2_with fail
            exact step_done rfl hI (Below.refl _ _) (toV HV rfl)
          · clear hV
            (try dsimp only)
            go_wp2_with fail
            exact step_done rfl hI (Below.refl _ _) (toV HV rfl)
          · obtain ⟨u0, u1, ⟨c2, u2⟩, u3, u4⟩ := hV
            simp only [u3, u4]
            clear u0 u1 u2 u3 u4
            have hcc := Hc2.out W
            go_wp2_with fail
            exact step_done rfl hI (Below.refl _ _) (toV HV rfl)
          · clear hV
            (try dsimp only)
            go_wp2_with fail
            exact step_done rfl hI (Below.refl _ _) (toV HV rfl)
          · clear hV
            (try dsimp only)
            go_wp2_with fail
            exact step_done rfl hI (Below.refl _ _) (toV HV rfl)
          · obtain ⟨u6, u7⟩ := hV
            simp only [u6, u7]
            clear u6 u7
            have i1 : (0 : Int) ≤ ((k : Nat) : Int) := by omega
            have i2 : ((k : Nat) : Int) ≤ ((N : Nat) : Int) := by omega
            have i3 : ((N : Nat) : Int) ≤ ((gc : Nat) : Int) := by omega
            by_cases hck : k < gc
            · go_wp2_with fail
              exact step_done rfl hI (Below.refl _ _) (toV HV ⟨_, _, rfl, .inl rfl⟩)
            · have hkg : gc = k := by omega
              have hkN : k = N := by omega
              have HkN := Lib.hid hkN
              clear hkN
              subst hkg
              go_wp2_with fail
              exact step_done rfl hI (Below.refl _ _) (toV HV ⟨0, 0, by rw [show N - gc = 0 from by have := HkN.out; omega], .inr ⟨HkN.out, rfl⟩⟩)
          · obtain ⟨u6, u7, ⟨o8, c8, u8, h8⟩⟩ := hV
            simp only [u8]
            clear u6 u7 u8
            have hcv : (convert 90 9 (.slice (some ⟨rg, o8, none⟩) (N - k) c8)).run Tryd.prog W = .ok (.string (Uni.enc (rs.drop k))) W := by
              have h1 := (HRn.out.below hI HRn.out.1).conv o8 (N - k) c8 (by have := HNn.out; omega)
              rcases h8 with h | h
              · rw [h, Ht2.out] at h1; rw [h]; exact h1
              · have h2 := Ht2.out
                rw [← h2]
                have e1 : N - k = 0 := by omega
                rw [e1] at h1 ⊢
                simpa using h1
            clear h8
            go_wp2_with fail
            exact step_done rfl hI (Below.refl _ _) (toV HV rfl)
          · obtain ⟨u0, u1, ⟨c2, u2⟩, u3, u4, u5, u6, u7, ⟨o8, c8, u8, h8⟩, u9⟩ := hV
            simp only [u5, u9]
            clear u0 u1 u2 u3 u4 u5 u6 u7 u8 u9
            have hcc := Hc4.out W
            go_wp2_with fail
            exact step_done rfl hI (Below.refl _ _) (toV HV rfl)
          · clear hV
            (try dsimp only)
            go_wp2_with fail
            exact step_done rfl hI (Below.refl _ _) (toV HV rfl)
          · obtain ⟨u0, u1, ⟨c2, u2⟩, u3, u4, u5, u6, u7, ⟨o8, c8, u8, h8⟩, u9, u10, u11⟩ := hV
            simp only [u10, u11]
            clear u0 u1 u2 u3 u4 u5 u6 u7 u8 u9 u10 u11
            have HI := Lib.hid hI
            clear hI
            go_wp2_with fail
            refine (HA2.out _ _ _ _ (G10.out.below' HI.out) (RX.out.go HI.out)).mono ?_
            rintro e W' ⟨rfl, uW⟩
            have HW := Lib.hid (up HI.out uW)
            have HU := Lib.hid uW
            clear uW
            go_wp2_with fail
            exact step_done rfl HW.out HU.out (toV HV rfl)
          · obtain ⟨u0, u1, ⟨c2, u2⟩, u3, u4, u5, u6, u7, ⟨o8, c8, u8, h8⟩, u9, u10, u11, u12⟩ := hV
            simp only [u12]
            clear u0 u1 u2 u3 u4 u5 u6 u7 u8 u9 u10 u11 u12
            go_wp2_with fail
            exact step_done rfl hI (Below.refl _ _) (toV HV rfl)
          · obtain ⟨u0, u1, ⟨c2, u2⟩, u3, u4, u5, u6, u7, ⟨o8, c8, u8, h8⟩, u9, u10, u11, u12, u13⟩ := hV
            simp only [u13]
            clear u0 u1 u2 u3 u4 u5 u6 u7 u8 u9 u10 u11 u12 u13
            go_wp2_with fail
            exact step_done rfl hI (Below.refl _ _) (toV HV rfl)
          · obtain ⟨u0, u1, ⟨c2, u2⟩, u3, u4, u5, u6, u7, ⟨o8, c8, u8, h8⟩, u9, u10, u11, u12, u13⟩ := hV
            simp only [u13]
            clear u0 u1 u2 u3 u4 u5 u6 u7 u8 u9 u10 u11 u12 u13
            go_wp2_with fail
            exact step_done rfl hI (Below.refl _ _) (toV HV rfl)
          · obtain ⟨u0, u1, ⟨c2, u2⟩, u3, u4, u5, u6, u7, ⟨o8, c8, u8, h8⟩, u9, u10, u11, u12, u13, u14⟩ := hV
            simp only [u14]
            clear u0 u1 u2 u3 u4 u5 u6 u7 u8 u9 u10 u11 u12 u13 u14
            go_wp2_with fail
            exact step_done rfl hI (Below.refl _ _) (toV HV rfl)
          · obtain ⟨u0, u1, ⟨c2, u2⟩, u3, u4, u5, u6, u7, ⟨o8, c8, u8, h8⟩, u9, u10, u11, u12, u13, u15⟩ := hV
            simp only [u15]
            clear u0 u1 u2 u3 u4 u5 u6 u7 u8 u9 u10 u11 u12 u13 u15
            go_wp2_with fail
            exact step_done rfl hI (Below.refl _ _) (toV HV rfl)
        case fin =>
          intro x W hI hV
          rw [HV.out] at hV
          simp only [AllV, and_true, List.length_cons, List.length_nil, List.range, List.range.loop] at hV
          obtain ⟨u0, u1, ⟨c2, u2⟩, u3, u4, u5, u6, u7, ⟨o8, c8, u8, h8⟩, u9, u10, u11, u12, u13, u14, u15, u16, u17⟩ := hV
          simp only [getsD, List.getD_cons_succ, List.getD_cons_zero, List.length_cons, List.length_nil, List.range, List.range.loop, u0, u1, u2, u3, u4, u5, u6, u7, u8, u9, u10, u11, u12, u13, u14, u15, u16, u17, Act.put, List.setIfInBounds_toArray, List.set_cons_succ, List.set_cons_zero]
          clear u0 u1 u2 u3 u4 u5 u6 u7 u8 u9 u10 u11 u12 u13 u14 u15 u16 u17
          have u16 := hI
          clear hI
          have B16 := Lib.hid (up B15.out u16)
          have G10' := Lib.hid (G10.out.below' u16)
          have HRn' := Lib.hid (HRn.out.below u16 HRn.out.1)
          have RX' := Lib.hid (RX.out.go u16)
          obtain ⟨w16, rfl⟩ : ∃ x : World, x = W := ⟨_, rfl⟩
          clear u16 B15 G10 HRn RX
          have G10 := G10'
          have HRn := HRn'
          have RX := RX'
          clear G10' HRn' RX'
          go_wp2_with fail
          obtain ⟨Vp, HV⟩ : ∃ Vp : Nat → Value → World → Prop, Hid (Vp = fun i v W => match i with
              | 0 => v = .slice (some ⟨rg, 0, none⟩) N gc
              | 1 => v = .int .i64 (k : Int)
              | 2 => ∃ c, v = .slice (some ⟨rg, 0, none⟩) k c
              | 3 => v = .string (Uni.enc (rs.take k))
              | 4 => v = .string sx
              | 5 => v = .string S2
              | 6 => v = .string sy
              | 7 => v = .string S3
              | 8 => v = .slice (some ⟨rg, 0, none⟩) N gc
              | 9 => v = .int .i64 (k : Int)
              | 10 => ∃ o c, v = .slice (some ⟨rg, o, none⟩) (N - k) c ∧ (o = k ∨ (k = N ∧ o = 0))
              | 11 => v = .string (Uni.enc (rs.drop k))
              | 12 => v = .string S4
              | _ => v = .string S4) := ⟨_, rfl⟩
          refine region_lit2 (by kernel_rfl) (by kernel_rfl) (by kernel_rfl) [[], [], [0, 1], [0, 1, 2], [], [0, 1, 2, 3, 4], [], [0, 1, 2, 3, 4, 5, 6], [], [], [8, 9], [8, 9, 10], [0, 1, 2, 3, 4, 5, 6, 7, 8, 9, 10, 11], [0, 1, 2, 3, 4, 5, 6, 7, 8, 9, 10, 11, 12]] (by kernel_rfl) [some 116, some 117, some 118, some 119, some 120, some 121, some 122, some 123, some 124, some 125, some 126, some 127, some 128, some 29] (by kernel_rfl) [false, false, false, false, false, false, false, false, false, false, false, false, false, true] (by kernel_rfl)
            (fun W => Below w16.heap.size w16 W)
            Vp
            (fun W W' => Below W.heap.size W W')
            [fun x => ⟨#[undef, undef, undef, undef, undef, undef, undef, undef, undef, undef, undef, undef, undef, undef, undef, undef, undef, undef, undef, undef, undef, undef, undef, undef, .slice (some ⟨rg, 0, none⟩) N gc, undef, undef, undef, undef, undef, undef, undef, undef, undef, undef, undef, undef, undef, undef, undef, undef, undef, undef, undef, undef, undef, undef, undef, undef, undef, undef, undef, undef, undef, undef, undef, undef, undef, undef, undef, undef, undef, undef, undef, undef, undef, undef, undef, undef, undef, undef, undef, undef, undef, undef, undef, undef, undef, undef, undef, undef, undef, undef, undef, undef, undef, undef, undef, undef, undef, undef, undef, undef, undef, undef, undef, undef, undef, undef, undef, undef, undef, undef, undef, undef, undef, undef, undef, undef, undef, undef, undef, undef, undef, undef, undef, undef], []⟩,
   fun x => ⟨#[undef, undef, undef, undef, undef, undef, undef, undef, undef, undef, undef, .int .i64 (k : Int), undef, undef, undef, undef, undef, undef, undef, undef, undef, undef, undef, undef, undef, undef, undef, undef, undef, undef, undef, undef, undef, undef, undef, undef, undef, undef, undef, undef, undef, undef, undef, undef, undef, undef, undef, undef, undef, undef, undef, undef, undef, undef, undef, undef, undef, undef, undef, undef, undef, undef, undef, undef, undef, undef, undef, undef, undef, undef, undef, undef, undef, undef, undef, undef, undef, undef, undef, undef, undef, undef, undef, undef, undef, undef, undef, undef, undef, undef, undef, undef, undef, undef, undef, undef, undef, undef, undef, undef, undef, undef, undef, undef, undef, undef, undef, undef, undef, undef, undef, undef, undef, undef, undef, undef, undef, undef], []⟩,
   fun x => ⟨#[undef, undef, undef, undef, undef, undef, undef, undef, undef, undef, undef, undef, undef, undef, undef, undef, undef, undef, undef, undef, undef, undef, undef, undef, undef, undef, undef, undef, undef, undef, undef, undef, undef, undef, undef, undef, undef, undef, undef, undef, undef, undef, undef, undef, undef, undef, undef, undef, undef, undef, undef, undef, undef, undef, undef, undef, undef, undef, undef, undef, undef, undef, undef, undef, undef, undef, undef, undef, undef, undef, undef, undef, undef, undef, undef, undef, undef, undef, undef, undef, undef, undef, undef, undef, undef, undef, undef, undef, undef, undef, undef, undef, undef, undef, undef, undef, undef, undef, undef, undef, undef, undef, undef, undef, undef, undef, undef, undef, undef, undef, undef, undef, undef, undef, undef, undef, x 0, x 1, undef], []⟩,
   fun x => ⟨#[undef, undef, undef, undef, undef, undef, undef, undef, undef, undef, undef, undef, undef, undef, undef, undef, undef, undef, undef, undef, undef, undef, undef, undef, undef, undef, undef, undef, undef, undef, undef, undef, undef, undef, undef, undef, undef, undef, undef, undef, undef, undef, undef, undef, undef, undef, undef, undef, undef, undef, undef, undef, undef, undef, undef, undef, undef, undef, undef, undef, undef, undef, undef, undef, undef, undef, undef, undef, undef, undef, undef, undef, undef, undef, undef, undef, undef, undef, undef, undef, undef, undef, undef, undef, undef, undef, undef, undef, undef, undef, undef, undef, undef, undef, undef, undef, undef, undef, undef, undef, undef, undef, undef, undef, undef, undef, undef, undef, undef, undef, undef, undef, undef, undef, undef, undef, undef, undef, x 2, undef], []⟩,
   fun x => ⟨#[undef, undef, undef, undef, undef, undef, undef, undef, undef, undef, undef, undef, .string sx, undef, undef, undef, undef, undef, undef, undef, undef, undef, undef, undef, undef, undef, undef, undef, undef, undef, undef, undef, undef, undef, undef, undef, undef, undef, undef, undef, undef, undef, undef, undef, undef, undef, undef, undef, undef, undef, undef, undef, undef, undef, undef, undef, undef, undef, undef, undef, undef, undef, undef, undef, undef, undef, undef, undef, undef, undef, undef, undef, undef, undef, undef, undef, undef, undef, undef, undef, undef, undef, undef, undef, undef, undef, undef, undef, undef, undef, undef, undef, undef, undef, undef, undef, undef, undef, undef, undef, undef, undef, undef, undef, undef, undef, undef, undef, undef, undef, undef, undef, undef, undef, undef, undef, undef, undef, undef, undef, undef], []⟩,
   fun x => ⟨#[undef, undef, undef, undef, undef, undef, undef, undef, undef, undef, undef, undef, undef, undef, undef, undef, undef, undef, undef, undef, undef, undef, undef, undef, undef, undef, undef, undef, undef, undef, undef, undef, undef, undef, undef, undef, undef, undef, undef, undef, undef, undef, undef, undef, undef, undef, undef, undef, undef, undef, undef, undef, undef, undef, undef, undef, undef, undef, undef, undef, undef, undef, undef, undef, undef, undef, undef, undef, undef, undef, undef, undef, undef, undef, undef, undef, undef, undef, undef, undef, undef, undef, undef, undef, undef, undef, undef, undef, undef, undef, undef, undef, undef, undef, undef, undef, undef, undef, undef, undef, undef, undef, undef, undef, undef, undef, undef, undef, undef, undef, undef, undef, undef, undef, undef, undef, undef, undef, undef, x 3, x 4, undef], []⟩,
   fun x => ⟨#[undef, undef, undef, undef, undef, undef, undef, undef, undef, undef, undef, undef, undef, .string sy, undef, undef, undef, undef, undef, undef, undef, undef, undef, undef, undef, undef, undef, undef, undef, undef, undef, undef, undef, undef, undef, undef, undef, undef, undef, undef, undef, undef, undef, undef, undef, undef, undef, undef, undef, undef, undef, undef, undef, undef, undef, undef, undef, undef, undef, undef, undef, undef, undef, undef, undef, undef, undef, undef, undef, undef, undef, undef, undef, undef, undef, undef, undef, undef, undef, undef, undef, undef, undef, undef, undef, undef, undef, undef, undef, undef, undef, undef, undef, undef, undef, undef, undef, undef, undef, undef, undef, undef, undef, undef, undef, undef, undef, undef, undef, undef, undef, undef, undef, undef, undef, undef, undef, undef, undef, undef, undef, undef, undef], []⟩,
   fun x => ⟨#[undef, undef, undef, undef, undef, undef, undef, undef, undef, undef, undef, undef, undef, undef, undef, undef, undef, undef, undef, undef, undef, undef, undef, undef, undef, undef, undef, undef, undef, undef, undef, undef, undef, undef, undef, undef, undef, undef, undef, undef, undef, undef, undef, undef, undef, undef, undef, undef, undef, undef, undef, undef, undef, undef, undef, undef, undef, undef, undef, undef, undef, undef, undef, undef, undef, undef, undef, undef, undef, undef, undef, undef, undef, undef, undef, undef, undef, undef, undef, undef, undef, undef, undef, undef, undef, undef, undef, undef, undef, undef, undef, undef, undef, undef, undef, undef, undef, undef, undef, undef, undef, undef, undef, undef, undef, undef, undef, undef, undef, undef, undef, undef, undef, undef, undef, undef, undef, undef, undef, undef, undef, x 5, x 6, undef], []⟩,
   fun x => ⟨#[undef, undef, undef, undef, undef, undef, undef, undef, undef, undef, undef, undef, undef, undef, undef, undef, undef, undef, undef, undef, undef, undef, undef, undef, .slice (some ⟨rg, 0, none⟩) N gc, undef, undef, undef, undef, undef, undef, undef, undef, undef, undef, undef, undef, undef, undef, undef, undef, undef, undef, undef, undef, undef, undef, undef, undef, undef, undef, undef, undef, undef, undef, undef, undef, undef, undef, undef, undef, undef, undef, undef, undef, undef, undef, undef, undef, undef, undef, undef, undef, undef, undef, undef, undef, undef, undef, undef, undef, undef, undef, undef, undef, undef, undef, undef, undef, undef, undef, undef, undef, undef, undef, undef, undef, undef, undef, undef, undef, undef, undef, undef, undef, undef, undef, undef, undef, undef, undef, undef, undef, undef, undef, undef, undef, undef, undef, undef, undef, undef, undef, undef, undef], []⟩,
   fun x => ⟨#[undef, undef, undef, undef, undef, undef, undef, undef, undef, undef, undef, .int .i64 (k : Int), undef, undef, undef, undef, undef, undef, undef, undef, undef, undef, undef, undef, undef, undef, undef, undef, undef, undef, undef, undef, undef, undef, undef, undef, undef, undef, undef, undef, undef, undef, undef, undef, undef, undef, undef, undef, undef, undef, undef, undef, undef, undef, undef, undef, undef, undef, undef, undef, undef, undef, undef, undef, undef, undef, undef, undef, undef, undef, undef, undef, undef, undef, undef, undef, undef, undef, undef, undef, undef, undef, undef, undef, undef, undef, undef, undef, undef, undef, undef, undef, undef, undef, undef, undef, undef, undef, undef, undef, undef, undef, undef, undef, undef, undef, undef, undef, undef, undef, undef, undef, undef, undef, undef, undef, undef, undef, undef, undef, undef, undef, undef, undef, undef, undef], []⟩,
   fun x => ⟨#[undef, undef, undef, undef, undef, undef, undef, undef, undef, undef, undef, undef, undef, undef, undef, undef, undef, undef, undef, undef, undef, undef, undef, undef, undef, undef, undef, undef, undef, undef, undef, undef, undef, undef, undef, undef, undef, undef, undef, undef, undef, undef, undef, undef, undef, undef, undef, undef, undef, undef, undef, undef, undef, undef, undef, undef, undef, undef, undef, undef, undef, undef, undef, undef, undef, undef, undef, undef, undef, undef, undef, undef, undef, undef, undef, undef, undef, undef, undef, undef, undef, undef, undef, undef, undef, undef, undef, undef, undef, undef, undef, undef, undef, undef, undef, undef, undef, undef, undef, undef, undef, undef, undef, undef, undef, undef, undef, undef, undef, undef, undef, undef, undef, undef, undef, undef, undef, undef, undef, undef, undef, undef, undef, undef, x 8, x 9, undef], []⟩,
   fun x => ⟨#[undef, undef, undef, undef, undef, undef, undef, undef, undef, undef, undef, undef, undef, undef, undef, undef, undef, undef, undef, undef, undef, undef, undef, undef, undef, undef, undef, undef, undef, undef, undef, undef, undef, undef, undef, undef, undef, undef, undef, undef, undef, undef, undef, undef, undef, undef, undef, undef, undef, undef, undef, undef, undef, undef, undef, undef, undef, undef, undef, undef, undef, undef, undef, undef, undef, undef, undef, undef, undef, undef, undef, undef, undef, undef, undef, undef, undef, undef, undef, undef, undef, undef, undef, undef, undef, undef, undef, undef, undef, undef, undef, undef, undef, undef, undef, undef, undef, undef, undef, undef, undef, undef, undef, undef, undef, undef, undef, undef, undef, undef, undef, undef, undef, undef, undef, undef, undef, undef, undef, undef, undef, undef, undef, undef, undef, undef, x 10, undef], []⟩,
   fun x => ⟨#[undef, undef, undef, undef, undef, undef, undef, undef, undef, undef, undef, undef, undef, undef, undef, undef, undef, undef, undef, undef, undef, undef, undef, undef, undef, undef, undef, undef, undef, undef, undef, undef, undef, undef, undef, undef, undef, undef, undef, undef, undef, undef, undef, undef, undef, undef, undef, undef, undef, undef, undef, undef, undef, undef, undef, undef, undef, undef, undef, undef, undef, undef, undef, undef, undef, undef, undef, undef, undef, undef, undef, undef, undef, undef, undef, undef, undef, undef, undef, undef, undef, undef, undef, undef, undef, undef, undef, undef, undef, undef, undef, undef, undef, undef, undef, undef, undef, undef, undef, undef, undef, undef, undef, undef, undef, undef, undef, undef, undef, undef, undef, undef, undef, undef, undef, undef, undef, undef, undef, undef, undef, undef, undef, x 7, undef, undef, undef, x 11, undef], []⟩,
   fun x => ⟨#[undef, undef, undef, undef, undef, undef, undef, undef, undef, undef, undef, undef, undef, undef, undef, undef, undef, undef, undef, undef, undef, undef, undef, undef, undef, undef, undef, undef, undef, undef, undef, undef, undef, undef, undef, undef, undef, undef, undef, undef, undef, undef, undef, undef, undef, undef, undef, undef, undef, undef, undef, undef, undef, undef, undef, undef, undef, undef, undef, undef, undef, undef, undef, undef, undef, undef, undef, undef, undef, undef, undef, undef, undef, undef, undef, undef, undef, undef, undef, undef, undef, undef, undef, undef, undef, undef, undef, undef, undef, undef, undef, undef, undef, undef, undef, undef, undef, undef, undef, undef, undef, undef, undef, undef, undef, undef, undef, undef, undef, undef, undef, undef, undef, undef, undef, undef, undef, undef, undef, undef, undef, undef, undef, undef, undef, undef, undef, undef, x 12], []⟩]
            ?hF ?mono ?h0 ?step ?fin
          case hF =>
            exact ⟨fun x => ⟨by kernel_rfl, by kernel_rfl⟩, fun x => ⟨by kernel_rfl, by kernel_rfl⟩, fun x => ⟨by kernel_rfl, by kernel_rfl⟩, fun x => ⟨by kernel_rfl, by kernel_rfl⟩, fun x => ⟨by kernel_rfl, by kernel_rfl⟩, fun x => ⟨by kernel_rfl, by kernel_rfl⟩, fun x => ⟨by kernel_rfl, by kernel_rfl⟩, fun x => ⟨by kernel_rfl, by kernel_rfl⟩, fun x => ⟨by kernel_rfl, by kernel_rfl⟩, fun x => ⟨by kernel_rfl, by kernel_rfl⟩, fun x => ⟨by kernel_rfl, by kernel_rfl⟩, fun x => ⟨by kernel_rfl, by kernel_rfl⟩, fun x => ⟨by kernel_rfl, by kernel_rfl⟩, fun x => ⟨by kernel_rfl, by kernel_rfl⟩, trivial⟩
          case mono =>
            intro i hi v W W' hE hv
            rw [HV.out] at hv ⊢
            match i, hi with
            | 0, _ | 1, _ | 2, _ | 3, _ | 4, _ | 5, _ | 6, _ | 7, _ | 8, _ | 9, _ | 10, _ | 11, _ | 12, _ => exact hv
            | m + 13, h => exact absurd h (by cases m <;> simp)
          case h0 => first | exact (Below.refl _ _).drew | exact Below.drew (by assumption) | (refine Below.drew ?_; assumption)
          case step =>
            refine ⟨?_, ?_, ?_, ?_, ?_, ?_, ?_, ?_, ?_, ?_, ?_, ?_, ?_, ?_, trivial⟩
            all_goals
              intro x W hI hV
              rw [HV.out] at hV
              simp only [AllV, and_true] at hV
            · clear hV
              (try dsimp only)
              go_wp2_with fail
              exact step_done rfl hI (Below.refl _ _) (toV HV rfl)
            · clear hV
              (try dsimp only)
              go_wp2_with fail
              exact step_done rfl hI (Below.refl _ _) (toV HV rfl)
            · obtain ⟨u0, u1⟩ := hV
              simp only [u0, u1]
              clear u0 u1
              have i1 : (0 : Int) ≤ ((k : Nat) : Int) := by omega
              have i2 : ((k : Nat) : Int) ≤ ((gc : Nat) : Int) := by omega
              go_wp2_with fail
              exact step_done rfl hI (Below.refl _ _) (toV HV ⟨_, rfl⟩)
            · obtain ⟨u0, u1, ⟨c2, u2⟩⟩ := hV
              simp only [u2]
              clear u0 u1 u2
              have hcv := (HRn.out.below hI HRn.out.1).conv 0 k c2 (by have := HNn.out; omega)
              rw [Ht1.out] at hcv
              go_wp2_with fail
              exact step_done rfl hI (Below.refl _ _) (toV HV rfl)
            · clear hV
              (try dsimp only)
              go_wp2_with fail
              exact step_done rfl hI (Below.refl _ _) (toV HV rfl)
            · obtain ⟨u0, u1, ⟨c2, u2⟩, u3, u4⟩ := hV
              simp only [u3, u4]
              clear u0 u1 u2 u3 u4
              have hcc := Hc1.out W
              go_wp2_with fail
              exact step_done rfl hI (Below.refl _ _) (toV HV rfl)
            · clear hV
              (try dsimp only)
              go_wp2_with fail
              exact step_done rfl hI (Below.refl _ _) (toV HV rfl)
            · obtain ⟨u0, u1, ⟨c2, u2⟩, u3, u4, u5, u6⟩ := hV
              simp only [u5, u6]
              clear u0 u1 u2 u3 u4 u5 u6
              have hcc := Hc5.out W
              go_wp2_with fail
              exact step_done rfl hI (Below.refl _ _) (toV HV rfl)
            · clear hV
              (try dsimp only)
              go_wp2_with fail
              exact step_done rfl hI (Below.refl _ _) (toV HV rfl)
            · clear hV
              (try dsimp only)
              go_wp2_with fail
              exact step_done rfl hI (Below.refl _ _) (toV HV rfl)
            · obtain ⟨u8, u9⟩ := hV
              simp only [u8, u9]
              clear u8 u9
              have i1 : (0 : Int) ≤ ((k : Nat) : Int) := by omega
              have i2 : ((k : Nat) : Int) ≤ ((N : Nat) : Int) := by omega
              have i3 : ((N : Nat) : Int) ≤ ((gc : Nat) : Int) := by omega
              by_cases hck : k < gc
              · go_wp2_with fail
                exact step_done rfl hI (Below.refl _ _) (toV HV ⟨_, _, rfl, .inl rfl⟩)
              · have hkg : gc = k := by omega
                have hkN : k = N := by omega
                have HkN := Lib.hid hkN
                clear hkN
                subst hkg
                go_wp2_with fail
                exact step_done rfl hI (Below.refl _ _) (toV HV ⟨0, 0, by rw [show N - gc = 0 from by have := HkN.out; omega], .inr ⟨HkN.out, rfl⟩⟩)
            · obtain ⟨u8, u9, ⟨o10, c10, u10, h10⟩⟩ := hV
              simp only [u10]
              clear u8 u9 u10
              have hcv : (convert 90 9 (.slice (some ⟨rg, o10, none⟩) (N - k) c10)).run Tryd.prog W = .ok (.string (Uni.enc (rs.drop k))) W := by
                have h1 := (HRn.out.below hI HRn.out.1).conv o10 (N - k) c10 (by have := HNn.out; omega)
                rcases h10 with h | h
                · rw [h, Ht2.out] at h1; rw [h]; exact h1
                · have h2 := Ht2.out
                  rw [← h2]
                  have e1 : N - k = 0 := by omega
                  rw [e1] at h1 ⊢
                  simpa using h1
              clear h10
              go_wp2_with fail
              exact step_done rfl hI (Below.refl _ _) (toV HV rfl)
            · obtain ⟨u0, u1, ⟨c2, u2⟩, u3, u4, u5, u6, u7, u8, u9, ⟨o10, c10, u10, h10⟩, u11⟩ := hV
              simp only [u7, u11]
              clear u0 u1 u2 u3 u4 u5 u6 u7 u8 u9 u10 u11
              have hcc := Hc6.out W
              go_wp2_with fail
              exact step_done rfl hI (Below.refl _ _) (toV HV rfl)
            · obtain ⟨u0, u1, ⟨c2, u2⟩, u3, u4, u5, u6, u7, u8, u9, ⟨o10, c10, u10, h10⟩, u11, u12⟩ := hV
              simp only [u12]
              clear u0 u1 u2 u3 u4 u5 u6 u7 u8 u9 u10 u11 u12
              go_wp2_with fail
              exact step_done rfl hI (Below.refl _ _) (toV HV rfl)
          case fin =>
            intro x W hI hV
            rw [HV.out] at hV
            simp only [AllV, and_true, List.length_cons, List.length_nil, List.range, List.range.loop] at hV
            obtain ⟨u0, u1, ⟨c2, u2⟩, u3, u4, u5, u6, u7, u8, u9, ⟨o10, c10, u10, h10⟩, u11, u12, u13⟩ := hV
            simp only [getsD, List.getD_cons_succ, List.getD_cons_zero, List.length_cons, List.length_nil, List.range, List.range.loop, u0, u1, u2, u3, u4, u5, u6, u7, u8, u9, u10, u11, u12, u13, Act.put, List.setIfInBounds_toArray, List.set_cons_succ, List.set_cons_zero]
            clear u0 u1 u2 u3 u4 u5 u6 u7 u8 u9 u10 u11 u12 u13
            have HF := Lib.hid (up B16.out hI)
            clear hI
            go_wp2_with fail
            go_ret
            exact ⟨rfl, HF.out⟩
end Go.Proofs.YtkhacogeffidoaaDoor
