/- The walk of LinkAll. -/
import Derived.Test.YtkhacogeffidoaaDoorAllSt
import Derived.Test.YtkhacogeffidoaaDoorShake
import Derived.Test.YtkhacogeffidoaaDoorLinkOnce
set_option linter.unusedVariables false
set_option linter.unusedSimpArgs false
namespace Go.Proofs.YtkhacogeffidoaaDoor
open Go.RowKit

set_option maxRecDepth 100000 in
set_option maxHeartbeats 8000000 in
theorem linkAll_walk (w : World) (hg : Good w) (l : List Raw) (a : Option Addr) (n cp : Nat) (hr : RdS (· < w.heap.size) w l a n cp) :
    Calls Tryd.prog 9 #[.slice a n cp] w fun e w' => e = .returned (.bool true) ∧ Below w.heap.size w w' := by
  have HS := Lib.hid (fun W (hg : Good W) (hr : RdS (· < W.heap.size) W l a n cp) => shake_any l a n cp W hg hr)
  have Hg := Lib.hid hg
  have Hr := Lib.hid hr
  have HGG := Lib.hid (fun W (hb : Below w.heap.size w W) => hg.go hb)
  have Htick := Lib.hid (fun (B g r : Nat) => all_tick B g r)
  have Hc0 := Lib.hid (fun (B g R n0 r0 s0 n1 r1 s1 m : Nat) => all_come0 B g R n0 r0 s0 n1 r1 s1 m)
  have Hc1 := Lib.hid (fun (B g R n0 r0 s0 n1 r1 s1 m : Nat) => all_come1 B g R n0 r0 s0 n1 r1 s1 m)
  clear hg hr
  go_enter Tryd.func9, Tryd.ntmps9
  go_wp2_with fail
  refine (HS.out _ Hg.out Hr.out).mono ?_
  rintro e w1 ⟨g, rfl, ⟨c, vs, m1, ho, hf0, hf1⟩, b1⟩
  have B1 := Lib.hid b1
  have M1 : Hid (CabA w.heap.size g (Rounds 0) 1000 w1) := ⟨c, vs, m1, Rounds.start ho, by omega, by omega⟩
  have hgb := m1.gb
  clear m1 b1 ho hf0 hf1 HS
  go_wp2_with fail
  go_loopw [4, 5] (fun ok vr wr => ∃ r : Nat, r ≤ 12 ∧ ok = .bool true ∧ vr = .int .i64 (r : Int) ∧ CabA w.heap.size g (Rounds r) 2000 wr ∧ Below w.heap.size w wr) (fun _ vr _ => 12 - (intOf vr).toNat)
  case atStart => exact ⟨0, by omega, rfl, rfl, M1.out.imp (fun _ h => h) (by omega), B1.out⟩
  case round =>
    obtain ⟨r, hr12, rfl, rfl, mr, br⟩ := hrel
    have MR := Lib.hid mr
    have BR := Lib.hid br
    clear mr br M1 B1
    by_cases hlt : r < 12
    · have hlt' : (r : Int) < 12 := by omega
      have MC := Lib.hid (all_clear MR.out)
      obtain ⟨c, vs, hM, -⟩ := MR.out
      have hgw := hM.lt
      obtain ⟨_, _, _, _, _, _, _, _, bM, -⟩ := hM.box
      have fW := bM.frozen
      obtain ⟨-, -, p10, p11, -⟩ := blk16_cells bM
      clear hM bM
      have hw2 : ∃ W2, W2 = (wr.setCell ⟨g, 10, none⟩ (.slice none 0 0)).setCell ⟨g, 11, none⟩ (.slice none 0 0) := ⟨_, rfl⟩
      obtain ⟨W2, hW2⟩ := hw2
      rw [← hW2] at MC
      have HW2 := Lib.hid hW2
      have B2 : Hid (Below w.heap.size w W2) := by
        rw [hW2]
        exact BR.out.trans (((touch1 (w := wr) (g := g) (i := 10) (.slice none 0 0)).trans (touch1 (g := g) (i := 11) (.slice none 0 0))).toBelow BR.out.size (fun z hz => by omega))
      clear hW2
      go_wp2_with fail
      rw [← HW2.out]
      refine (Htick.out w.heap.size g r W2 (fun W h => HGG.out W (B2.out.trans h)) MC.out).mono ?_
      rintro e w3 ⟨rfl, ⟨n0, n1, m3⟩, b3⟩
      have M3 := Lib.hid m3
      have B3 := Lib.hid b3
      clear m3 b3 MC
      go_wp2_with fail
      go_loopw [4, 6] (fun ok vk wk => ∃ k : Nat, k ≤ 60 ∧ ok = .bool true ∧ vk = .int .i64 (k : Int) ∧ CabA w.heap.size g (Rnd (r + 1) n0 (60 - k) (60 - k) n1 (60 - k) (60 - k)) (8 + 32 * k) wk ∧ Below w.heap.size w wk) (fun _ vk _ => 60 - (intOf vk).toNat)
      case atStart => exact ⟨0, by omega, rfl, rfl, M3.out, B2.out.trans B3.out⟩
      case round =>
        obtain ⟨k, hk60, rfl, rfl, mk, bk⟩ := hrel
        have MK := Lib.hid mk
        have BK := Lib.hid bk
        clear mk bk M3 B3
        by_cases hlk : k < 60
        · have hlk' : (k : Int) < 60 := by omega
          obtain ⟨j, hj⟩ : ∃ j, 60 - k = j + 1 := ⟨60 - k - 1, by omega⟩
          have hj2 : 60 - (k + 1) = j := by omega
          have MK2 : Hid (CabA w.heap.size g (Rnd (r + 1) n0 (j + 1) (j + 1) n1 (j + 1) (j + 1)) (8 + 32 * k) wr) := by have h := MK.out; rw [hj] at h; exact h
          clear MK
          go_wp2_with fail
          refine (Hc0.out w.heap.size g (r + 1) n0 (j + 1) j n1 j (j + 1) (8 + 32 * k) wr (fun W h => HGG.out W (BK.out.trans h)) MK2.out (Nat.le_refl _) (by omega)).mono ?_
          rintro e w4 ⟨rfl, m4, b4⟩
          have M4 := Lib.hid m4
          have B4 := Lib.hid (BK.out.trans b4)
          clear m4 b4 MK2
          go_wp2_with fail
          refine (Hc1.out w.heap.size g (r + 1) n0 j j n1 j j (8 + 32 * k + 16) w4 (fun W h => HGG.out W (B4.out.trans h)) M4.out (by omega) (by omega)).mono ?_
          rintro e w5 ⟨rfl, m5, b5⟩
          have M5 := Lib.hid m5
          have B5 := Lib.hid (B4.out.trans b5)
          clear m5 b5 M4
          go_wp2_with fail
          case roundEnd =>
            refine ⟨⟨k + 1, by omega, rfl, by push_cast; rfl, ?_, B5.out⟩, ?_⟩
            · rw [hj2]; exact M5.out.imp (fun _ h => h) (by omega)
            · simp [intOf]
              omega
        · have hk : k = 60 := by omega
          have hlk' : ¬ ((k : Int) < 60) := by omega
          have M6 : Hid (CabA w.heap.size g (Rounds (r + 1)) 2000 wr) := by
            have h := MK.out
            rw [hk] at h
            exact h.imp (fun c hc => hc.done) (by omega)
          clear MK
          go_wp2_with fail
          case roundEnd =>
            refine ⟨⟨r + 1, by omega, rfl, by push_cast; rfl, M6.out, BK.out⟩, ?_⟩
            simp [intOf]
            omega
    · have hr : r = 12 := by omega
      subst hr
      obtain ⟨c, vs, hM, hR, -⟩ := MR.out
      have ho := hR.once
      obtain ⟨a1, a2, a3, a4⟩ := hR.all
      obtain ⟨r1, r2⟩ := ho.right'
      obtain ⟨s1, s2⟩ := ho.turn.right'
      have HR0 := Lib.hid (fun W h => cab_right0 w.heap.size g c vs W h r1 r2)
      have HR1 := Lib.hid (fun W h => cab_right1 w.heap.size g c vs W h s1 s2)
      obtain ⟨x0, c0, b0, d0, x1, c1, b1, d1, bx, -⟩ := hM.box
      obtain ⟨v2, n2, hv2, -⟩ := hM.o2.form
      obtain ⟨v3, n3, hv3, -⟩ := hM.o3.form
      obtain ⟨v4, n4, hv4, -⟩ := hM.o4.form
      obtain ⟨v5, n5, hv5, -⟩ := hM.o5.form
      rw [a1] at hv4
      rw [a2] at hv5
      unfold cabCells at bx
      rw [hv2, hv3, hv4, hv5, a3, a4] at bx
      obtain ⟨CS, hCS⟩ : ∃ CS : Obj, CS = .cells #[.int .i64 c.e0.epoch, .int .i64 c.e0.next, .slice x0 0 c0, .slice b0 c.e0.queue.length d0, .int .i64 c.e0.heard, .int .i64 c.e1.epoch, .int .i64 c.e1.next, .slice x1 0 c1, .slice b1 c.e1.queue.length d1, .int .i64 c.e1.heard, vs 0, vs 1, .slice v2 c.s0.length n2, .slice v3 c.s1.length n3, .slice v4 c.s1.length n4, .slice v5 c.s0.length n5] 39 (0, 0) := ⟨_, rfl⟩
      rw [← hCS] at bx
      have HC : Hid (∀ W : World, Blk g CS W → W.cell? ⟨g, 2, none⟩ = some (.slice x0 0 c0) ∧ W.cell? ⟨g, 7, none⟩ = some (.slice x1 0 c1) ∧ W.cell? ⟨g, 12, none⟩ = some (.slice v2 c.s0.length n2) ∧ W.cell? ⟨g, 13, none⟩ = some (.slice v3 c.s1.length n3) ∧ W.cell? ⟨g, 14, none⟩ = some (.slice v4 c.s1.length n4) ∧ W.cell? ⟨g, 15, none⟩ = some (.slice v5 c.s0.length n5)) := by
        intro W hb
        rw [hCS] at hb
        obtain ⟨⟨-, -, p2, -⟩, ⟨-, -, p7, -⟩, -, -, p12, p13, p14, p15⟩ := blk16_cells hb
        exact ⟨p2, p7, p12, p13, p14, p15⟩
      have M1 := Lib.hid hM
      have BX := Lib.hid bx
      generalize c.s0.length = S0 at *
      generalize c.s1.length = S1 at *
      clear hM hR ho r1 r2 s1 s2 a1 a2 a3 a4 MR bx hCS hv2 hv3 hv4 hv5
      go_wp2_with fail
      obtain ⟨Vp, HV⟩ : ∃ Vp : Nat → Value → World → Prop, Hid (Vp = fun i v W => match i with
          | 0 => v = .bool true
          | 1 => v = .bool true
          | 2 => v = .pointer (some ⟨g, 0, none⟩)
          | 3 => v = .bool true
          | 4 => v = .bool true
          | 5 => v = .bool true
          | 6 => v = .pointer (some ⟨g, 0, none⟩)
          | 7 => v = .bool true
          | 8 => v = .bool true
          | 9 => v = .bool true
          | 10 => v = .pointer (some ⟨g, 0, none⟩)
          | 11 => v = .pointer (some ⟨g, 0, none⟩)
          | 12 => v = .pointer (some ⟨g, 14, none⟩)
          | 13 => v = .pointer (some ⟨g, 14, none⟩)
          | 14 => v = .slice v4 S1 n4
          | 15 => v = .int .i64 (S1 : Int)
          | 16 => v = .pointer (some ⟨g, 0, none⟩)
          | 17 => v = .pointer (some ⟨g, 0, none⟩)
          | 18 => v = .pointer (some ⟨g, 12, none⟩)
          | 19 => v = .pointer (some ⟨g, 13, none⟩)
          | 20 => v = .slice v3 S1 n3
          | 21 => v = .int .i64 (S1 : Int)
          | 22 => v = .bool true
          | 23 => v = .bool true
          | 24 => v = .bool true
          | 25 => v = .pointer (some ⟨g, 0, none⟩)
          | 26 => v = .pointer (some ⟨g, 0, none⟩)
          | 27 => v = .pointer (some ⟨g, 14, none⟩)
          | 28 => v = .pointer (some ⟨g, 15, none⟩)
          | 29 => v = .slice v5 S0 n5
          | 30 => v = .int .i64 (S0 : Int)
          | 31 => v = .pointer (some ⟨g, 0, none⟩)
          | 32 => v = .pointer (some ⟨g, 0, none⟩)
          | 33 => v = .pointer (some ⟨g, 12, none⟩)
          | 34 => v = .pointer (some ⟨g, 12, none⟩)
          | 35 => v = .slice v2 S0 n2
          | 36 => v = .int .i64 (S0 : Int)
          | 37 => v = .bool true
          | 38 => v = .bool true
          | 39 => v = .bool true
          | 40 => v = .pointer (some ⟨g, 0, none⟩)
          | 41 => v = .pointer (some ⟨g, 0, none⟩)
          | 42 => v = .pointer (some ⟨g, 0, none⟩)
          | 43 => v = .pointer (some ⟨g, 0, none⟩)
          | 44 => v = .pointer (some ⟨g, 2, none⟩)
          | 45 => v = .slice x0 0 c0
          | 46 => v = .int .i64 0
          | 47 => v = .pointer (some ⟨g, 0, none⟩)
          | 48 => v = .pointer (some ⟨g, 0, none⟩)
          | 49 => v = .pointer (some ⟨g, 0, none⟩)
          | 50 => v = .pointer (some ⟨g, 5, none⟩)
          | 51 => v = .pointer (some ⟨g, 7, none⟩)
          | 52 => v = .slice x1 0 c1
          | 53 => v = .int .i64 0
          | 54 => v = .int .i64 0
          | 55 => v = .bool true
          | 56 => v = .bool true
          | _ => v = .bool true) := ⟨_, rfl⟩
      obtain ⟨Ip, HIp⟩ : ∃ Ip : (Nat → Bool) → (Nat → Value) → World → Prop, Hid (Ip = fun L x W => (Below w.heap.size w W ∧ Blk g CS W ∧ CabM w.heap.size g c vs W)) := ⟨_, rfl⟩
      refine region_lit3 (by kernel_rfl) (by kernel_rfl) (by kernel_rfl) [[], [0], [0, 1], [0, 1, 2], [0, 1, 2, 3], [0, 1, 2, 3, 4], [0, 1, 2, 3, 4, 5], [0, 1, 2, 3, 4, 5, 6], [0, 1, 2, 3, 4, 5, 6, 7], [0, 1, 2, 3, 4, 5, 6, 7, 8], [0, 1, 2, 3, 4, 5, 6, 7, 8, 9], [0, 1, 2, 3, 4, 5, 6, 7, 8, 9, 10], [0, 1, 2, 3, 4, 5, 6, 7, 8, 9, 10, 11], [0, 1, 2, 3, 4, 5, 6, 7, 8, 9, 10, 11, 12], [0, 1, 2, 3, 4, 5, 6, 7, 8, 9, 10, 11, 12, 13], [0, 1, 2, 3, 4, 5, 6, 7, 8, 9, 10, 11, 12, 13, 14], [0, 1, 2, 3, 4, 5, 6, 7, 8, 9], [0, 1, 2, 3, 4, 5, 6, 7, 8, 9, 16], [0, 1, 2, 3, 4, 5, 6, 7, 8, 9, 16, 17], [0, 1, 2, 3, 4, 5, 6, 7, 8, 9, 16, 17, 18], [0, 1, 2, 3, 4, 5, 6, 7, 8, 9, 16, 17, 18, 19], [0, 1, 2, 3, 4, 5, 6, 7, 8, 9, 16, 17, 18, 19, 20], [0, 1, 2, 3, 4, 5, 6, 7, 8, 9, 10, 11, 12, 13, 14, 15, 16, 17, 18, 19, 20, 21], [0, 1, 2, 3, 4, 5, 6, 7, 8, 9, 10, 11, 12, 13, 14, 15, 16, 17, 18, 19, 20, 21, 22], [0, 1, 2, 3, 4, 5, 6, 7, 8, 9, 10, 11, 12, 13, 14, 15, 16, 17, 18, 19, 20, 21, 22, 23], [0, 1, 2, 3, 4, 5, 6, 7, 8, 9, 10, 11, 12, 13, 14, 15, 16, 17, 18, 19, 20, 21, 22, 23, 24], [0, 1, 2, 3, 4, 5, 6, 7, 8, 9, 10, 11, 12, 13, 14, 15, 16, 17, 18, 19, 20, 21, 22, 23, 24, 25], [0, 1, 2, 3, 4, 5, 6, 7, 8, 9, 10, 11, 12, 13, 14, 15, 16, 17, 18, 19, 20, 21, 22, 23, 24, 25, 26], [0, 1, 2, 3, 4, 5, 6, 7, 8, 9, 10, 11, 12, 13, 14, 15, 16, 17, 18, 19, 20, 21, 22, 23, 24, 25, 26, 27], [0, 1, 2, 3, 4, 5, 6, 7, 8, 9, 10, 11, 12, 13, 14, 15, 16, 17, 18, 19, 20, 21, 22, 23, 24, 25, 26, 27, 28], [0, 1, 2, 3, 4, 5, 6, 7, 8, 9, 10, 11, 12, 13, 14, 15, 16, 17, 18, 19, 20, 21, 22, 23, 24, 25, 26, 27, 28, 29], [0, 1, 2, 3, 4, 5, 6, 7, 8, 9, 10, 11, 12, 13, 14, 15, 16, 17, 18, 19, 20, 21, 22, 23, 24], [0, 1, 2, 3, 4, 5, 6, 7, 8, 9, 10, 11, 12, 13, 14, 15, 16, 17, 18, 19, 20, 21, 22, 23, 24, 31], [0, 1, 2, 3, 4, 5, 6, 7, 8, 9, 10, 11, 12, 13, 14, 15, 16, 17, 18, 19, 20, 21, 22, 23, 24, 31, 32], [0, 1, 2, 3, 4, 5, 6, 7, 8, 9, 10, 11, 12, 13, 14, 15, 16, 17, 18, 19, 20, 21, 22, 23, 24, 31, 32, 33], [0, 1, 2, 3, 4, 5, 6, 7, 8, 9, 10, 11, 12, 13, 14, 15, 16, 17, 18, 19, 20, 21, 22, 23, 24, 31, 32, 33, 34], [0, 1, 2, 3, 4, 5, 6, 7, 8, 9, 10, 11, 12, 13, 14, 15, 16, 17, 18, 19, 20, 21, 22, 23, 24, 31, 32, 33, 34, 35], [0, 1, 2, 3, 4, 5, 6, 7, 8, 9, 10, 11, 12, 13, 14, 15, 16, 17, 18, 19, 20, 21, 22, 23, 24, 25, 26, 27, 28, 29, 30, 31, 32, 33, 34, 35, 36], [0, 1, 2, 3, 4, 5, 6, 7, 8, 9, 10, 11, 12, 13, 14, 15, 16, 17, 18, 19, 20, 21, 22, 23, 24, 25, 26, 27, 28, 29, 30, 31, 32, 33, 34, 35, 36, 37], [0, 1, 2, 3, 4, 5, 6, 7, 8, 9, 10, 11, 12, 13, 14, 15, 16, 17, 18, 19, 20, 21, 22, 23, 24, 25, 26, 27, 28, 29, 30, 31, 32, 33, 34, 35, 36, 37, 38], [0, 1, 2, 3, 4, 5, 6, 7, 8, 9, 10, 11, 12, 13, 14, 15, 16, 17, 18, 19, 20, 21, 22, 23, 24, 25, 26, 27, 28, 29, 30, 31, 32, 33, 34, 35, 36, 37, 38, 39], [0, 1, 2, 3, 4, 5, 6, 7, 8, 9, 10, 11, 12, 13, 14, 15, 16, 17, 18, 19, 20, 21, 22, 23, 24, 25, 26, 27, 28, 29, 30, 31, 32, 33, 34, 35, 36, 37, 38, 39, 40], [0, 1, 2, 3, 4, 5, 6, 7, 8, 9, 10, 11, 12, 13, 14, 15, 16, 17, 18, 19, 20, 21, 22, 23, 24, 25, 26, 27, 28, 29, 30, 31, 32, 33, 34, 35, 36, 37, 38, 39, 40, 41], [0, 1, 2, 3, 4, 5, 6, 7, 8, 9, 10, 11, 12, 13, 14, 15, 16, 17, 18, 19, 20, 21, 22, 23, 24, 25, 26, 27, 28, 29, 30, 31, 32, 33, 34, 35, 36, 37, 38, 39, 40, 41, 42], [0, 1, 2, 3, 4, 5, 6, 7, 8, 9, 10, 11, 12, 13, 14, 15, 16, 17, 18, 19, 20, 21, 22, 23, 24, 25, 26, 27, 28, 29, 30, 31, 32, 33, 34, 35, 36, 37, 38, 39, 40, 41, 42, 43], [0, 1, 2, 3, 4, 5, 6, 7, 8, 9, 10, 11, 12, 13, 14, 15, 16, 17, 18, 19, 20, 21, 22, 23, 24, 25, 26, 27, 28, 29, 30, 31, 32, 33, 34, 35, 36, 37, 38, 39, 40, 41, 42, 43, 44], [0, 1, 2, 3, 4, 5, 6, 7, 8, 9, 10, 11, 12, 13, 14, 15, 16, 17, 18, 19, 20, 21, 22, 23, 24, 25, 26, 27, 28, 29, 30, 31, 32, 33, 34, 35, 36, 37, 38, 39, 40, 41, 42, 43, 44, 45], [0, 1, 2, 3, 4, 5, 6, 7, 8, 9, 10, 11, 12, 13, 14, 15, 16, 17, 18, 19, 20, 21, 22, 23, 24, 25, 26, 27, 28, 29, 30, 31, 32, 33, 34, 35, 36, 37, 38, 39], [0, 1, 2, 3, 4, 5, 6, 7, 8, 9, 10, 11, 12, 13, 14, 15, 16, 17, 18, 19, 20, 21, 22, 23, 24, 25, 26, 27, 28, 29, 30, 31, 32, 33, 34, 35, 36, 37, 38, 39, 47], [0, 1, 2, 3, 4, 5, 6, 7, 8, 9, 10, 11, 12, 13, 14, 15, 16, 17, 18, 19, 20, 21, 22, 23, 24, 25, 26, 27, 28, 29, 30, 31, 32, 33, 34, 35, 36, 37, 38, 39, 47, 48], [0, 1, 2, 3, 4, 5, 6, 7, 8, 9, 10, 11, 12, 13, 14, 15, 16, 17, 18, 19, 20, 21, 22, 23, 24, 25, 26, 27, 28, 29, 30, 31, 32, 33, 34, 35, 36, 37, 38, 39, 47, 48, 49], [0, 1, 2, 3, 4, 5, 6, 7, 8, 9, 10, 11, 12, 13, 14, 15, 16, 17, 18, 19, 20, 21, 22, 23, 24, 25, 26, 27, 28, 29, 30, 31, 32, 33, 34, 35, 36, 37, 38, 39, 47, 48, 49, 50], [0, 1, 2, 3, 4, 5, 6, 7, 8, 9, 10, 11, 12, 13, 14, 15, 16, 17, 18, 19, 20, 21, 22, 23, 24, 25, 26, 27, 28, 29, 30, 31, 32, 33, 34, 35, 36, 37, 38, 39, 47, 48, 49, 50, 51], [0, 1, 2, 3, 4, 5, 6, 7, 8, 9, 10, 11, 12, 13, 14, 15, 16, 17, 18, 19, 20, 21, 22, 23, 24, 25, 26, 27, 28, 29, 30, 31, 32, 33, 34, 35, 36, 37, 38, 39, 47, 48, 49, 50, 51, 52], [0, 1, 2, 3, 4, 5, 6, 7, 8, 9, 10, 11, 12, 13, 14, 15, 16, 17, 18, 19, 20, 21, 22, 23, 24, 25, 26, 27, 28, 29, 30, 31, 32, 33, 34, 35, 36, 37, 38, 39, 40, 41, 42, 43, 44, 45, 46, 47, 48, 49, 50, 51, 52, 53], [0, 1, 2, 3, 4, 5, 6, 7, 8, 9, 10, 11, 12, 13, 14, 15, 16, 17, 18, 19, 20, 21, 22, 23, 24, 25, 26, 27, 28, 29, 30, 31, 32, 33, 34, 35, 36, 37, 38, 39, 40, 41, 42, 43, 44, 45, 46, 47, 48, 49, 50, 51, 52, 53, 54], [0, 1, 2, 3, 4, 5, 6, 7, 8, 9, 10, 11, 12, 13, 14, 15, 16, 17, 18, 19, 20, 21, 22, 23, 24, 25, 26, 27, 28, 29, 30, 31, 32, 33, 34, 35, 36, 37, 38, 39, 40, 41, 42, 43, 44, 45, 46, 47, 48, 49, 50, 51, 52, 53, 54, 55], [0, 1, 2, 3, 4, 5, 6, 7, 8, 9, 10, 11, 12, 13, 14, 15, 16, 17, 18, 19, 20, 21, 22, 23, 24, 25, 26, 27, 28, 29, 30, 31, 32, 33, 34, 35, 36, 37, 38, 39, 40, 41, 42, 43, 44, 45, 46, 47, 48, 49, 50, 51, 52, 53, 54, 55, 56]] (by kernel_rfl) [some 42, some 43, some 44, some 45, some 46, some 47, some 48, some 49, some 50, some 51, some 52, some 53, some 54, some 55, some 56, some 57, some 58, some 59, some 60, some 61, some 62, some 63, some 64, some 65, some 66, some 67, some 68, some 69, some 70, some 71, some 72, some 73, some 74, some 75, some 76, some 77, some 78, some 79, some 80, some 81, some 82, some 83, some 84, some 85, some 86, some 87, some 88, some 89, some 90, some 91, some 92, some 93, some 94, some 95, some 96, some 97, some 98, some 2] (by kernel_rfl) [[0, 1, 2, 3, 4, 5, 6, 7, 8, 9, 10, 11, 12, 13, 14, 15, 16, 17, 18, 19, 20, 21, 22, 23, 24, 25, 26, 27, 28, 29, 30, 31, 32, 33, 34, 35, 36, 37, 38, 39, 40, 41, 42, 43, 44, 45, 46, 47, 48, 49, 50, 51, 52, 53, 54, 55, 56, 57], [1, 2, 3, 4, 5, 6, 7, 8, 9, 10, 11, 12, 13, 14, 15, 16, 17, 18, 19, 20, 21, 22, 23, 24, 25, 26, 27, 28, 29, 30, 31, 32, 33, 34, 35, 36, 37, 38, 39, 40, 41, 42, 43, 44, 45, 46, 47, 48, 49, 50, 51, 52, 53, 54, 55, 56, 57], [2, 3, 4, 5, 6, 7, 8, 9, 10, 11, 12, 13, 14, 15, 16, 17, 18, 19, 20, 21, 22, 23, 24, 25, 26, 27, 28, 29, 30, 31, 32, 33, 34, 35, 36, 37, 38, 39, 40, 41, 42, 43, 44, 45, 46, 47, 48, 49, 50, 51, 52, 53, 54, 55, 56, 57], [3, 4, 5, 6, 7, 8, 9, 10, 11, 12, 13, 14, 15, 16, 17, 18, 19, 20, 21, 22, 23, 24, 25, 26, 27, 28, 29, 30, 31, 32, 33, 34, 35, 36, 37, 38, 39, 40, 41, 42, 43, 44, 45, 46, 47, 48, 49, 50, 51, 52, 53, 54, 55, 56, 57], [4, 5, 6, 7, 8, 9, 10, 11, 12, 13, 14, 15, 16, 17, 18, 19, 20, 21, 22, 23, 24, 25, 26, 27, 28, 29, 30, 31, 32, 33, 34, 35, 36, 37, 38, 39, 40, 41, 42, 43, 44, 45, 46, 47, 48, 49, 50, 51, 52, 53, 54, 55, 56, 57], [5, 6, 7, 8, 9, 10, 11, 12, 13, 14, 15, 16, 17, 18, 19, 20, 21, 22, 23, 24, 25, 26, 27, 28, 29, 30, 31, 32, 33, 34, 35, 36, 37, 38, 39, 40, 41, 42, 43, 44, 45, 46, 47, 48, 49, 50, 51, 52, 53, 54, 55, 56, 57], [6, 7, 8, 9, 10, 11, 12, 13, 14, 15, 16, 17, 18, 19, 20, 21, 22, 23, 24, 25, 26, 27, 28, 29, 30, 31, 32, 33, 34, 35, 36, 37, 38, 39, 40, 41, 42, 43, 44, 45, 46, 47, 48, 49, 50, 51, 52, 53, 54, 55, 56, 57], [7, 8, 9, 10, 11, 12, 13, 14, 15, 16, 17, 18, 19, 20, 21, 22, 23, 24, 25, 26, 27, 28, 29, 30, 31, 32, 33, 34, 35, 36, 37, 38, 39, 40, 41, 42, 43, 44, 45, 46, 47, 48, 49, 50, 51, 52, 53, 54, 55, 56, 57], [8, 9, 10, 11, 12, 13, 14, 15, 16, 17, 18, 19, 20, 21, 22, 23, 24, 25, 26, 27, 28, 29, 30, 31, 32, 33, 34, 35, 36, 37, 38, 39, 40, 41, 42, 43, 44, 45, 46, 47, 48, 49, 50, 51, 52, 53, 54, 55, 56, 57], [9, 10, 11, 12, 13, 14, 15, 16, 17, 18, 19, 20, 21, 22, 23, 24, 25, 26, 27, 28, 29, 30, 31, 32, 33, 34, 35, 36, 37, 38, 39, 40, 41, 42, 43, 44, 45, 46, 47, 48, 49, 50, 51, 52, 53, 54, 55, 56, 57], [10, 11, 12, 13, 14, 15, 22, 23, 24, 25, 26, 27, 28, 29, 30, 31, 32, 33, 34, 35, 36, 37, 38, 39, 40, 41, 42, 43, 44, 45, 46, 47, 48, 49, 50, 51, 52, 53, 54, 55, 56, 57], [11, 12, 13, 14, 15, 22, 23, 24, 25, 26, 27, 28, 29, 30, 31, 32, 33, 34, 35, 36, 37, 38, 39, 40, 41, 42, 43, 44, 45, 46, 47, 48, 49, 50, 51, 52, 53, 54, 55, 56, 57], [12, 13, 14, 15, 22, 23, 24, 25, 26, 27, 28, 29, 30, 31, 32, 33, 34, 35, 36, 37, 38, 39, 40, 41, 42, 43, 44, 45, 46, 47, 48, 49, 50, 51, 52, 53, 54, 55, 56, 57], [13, 14, 15, 22, 23, 24, 25, 26, 27, 28, 29, 30, 31, 32, 33, 34, 35, 36, 37, 38, 39, 40, 41, 42, 43, 44, 45, 46, 47, 48, 49, 50, 51, 52, 53, 54, 55, 56, 57], [14, 15, 22, 23, 24, 25, 26, 27, 28, 29, 30, 31, 32, 33, 34, 35, 36, 37, 38, 39, 40, 41, 42, 43, 44, 45, 46, 47, 48, 49, 50, 51, 52, 53, 54, 55, 56, 57], [15, 22, 23, 24, 25, 26, 27, 28, 29, 30, 31, 32, 33, 34, 35, 36, 37, 38, 39, 40, 41, 42, 43, 44, 45, 46, 47, 48, 49, 50, 51, 52, 53, 54, 55, 56, 57], [16, 17, 18, 19, 20, 21, 22, 23, 24, 25, 26, 27, 28, 29, 30, 31, 32, 33, 34, 35, 36, 37, 38, 39, 40, 41, 42, 43, 44, 45, 46, 47, 48, 49, 50, 51, 52, 53, 54, 55, 56, 57], [17, 18, 19, 20, 21, 22, 23, 24, 25, 26, 27, 28, 29, 30, 31, 32, 33, 34, 35, 36, 37, 38, 39, 40, 41, 42, 43, 44, 45, 46, 47, 48, 49, 50, 51, 52, 53, 54, 55, 56, 57], [18, 19, 20, 21, 22, 23, 24, 25, 26, 27, 28, 29, 30, 31, 32, 33, 34, 35, 36, 37, 38, 39, 40, 41, 42, 43, 44, 45, 46, 47, 48, 49, 50, 51, 52, 53, 54, 55, 56, 57], [19, 20, 21, 22, 23, 24, 25, 26, 27, 28, 29, 30, 31, 32, 33, 34, 35, 36, 37, 38, 39, 40, 41, 42, 43, 44, 45, 46, 47, 48, 49, 50, 51, 52, 53, 54, 55, 56, 57], [20, 21, 22, 23, 24, 25, 26, 27, 28, 29, 30, 31, 32, 33, 34, 35, 36, 37, 38, 39, 40, 41, 42, 43, 44, 45, 46, 47, 48, 49, 50, 51, 52, 53, 54, 55, 56, 57], [21, 22, 23, 24, 25, 26, 27, 28, 29, 30, 31, 32, 33, 34, 35, 36, 37, 38, 39, 40, 41, 42, 43, 44, 45, 46, 47, 48, 49, 50, 51, 52, 53, 54, 55, 56, 57], [22, 23, 24, 25, 26, 27, 28, 29, 30, 31, 32, 33, 34, 35, 36, 37, 38, 39, 40, 41, 42, 43, 44, 45, 46, 47, 48, 49, 50, 51, 52, 53, 54, 55, 56, 57], [23, 24, 25, 26, 27, 28, 29, 30, 31, 32, 33, 34, 35, 36, 37, 38, 39, 40, 41, 42, 43, 44, 45, 46, 47, 48, 49, 50, 51, 52, 53, 54, 55, 56, 57], [24, 25, 26, 27, 28, 29, 30, 31, 32, 33, 34, 35, 36, 37, 38, 39, 40, 41, 42, 43, 44, 45, 46, 47, 48, 49, 50, 51, 52, 53, 54, 55, 56, 57], [25, 26, 27, 28, 29, 30, 37, 38, 39, 40, 41, 42, 43, 44, 45, 46, 47, 48, 49, 50, 51, 52, 53, 54, 55, 56, 57], [26, 27, 28, 29, 30, 37, 38, 39, 40, 41, 42, 43, 44, 45, 46, 47, 48, 49, 50, 51, 52, 53, 54, 55, 56, 57], [27, 28, 29, 30, 37, 38, 39, 40, 41, 42, 43, 44, 45, 46, 47, 48, 49, 50, 51, 52, 53, 54, 55, 56, 57], [28, 29, 30, 37, 38, 39, 40, 41, 42, 43, 44, 45, 46, 47, 48, 49, 50, 51, 52, 53, 54, 55, 56, 57], [29, 30, 37, 38, 39, 40, 41, 42, 43, 44, 45, 46, 47, 48, 49, 50, 51, 52, 53, 54, 55, 56, 57], [30, 37, 38, 39, 40, 41, 42, 43, 44, 45, 46, 47, 48, 49, 50, 51, 52, 53, 54, 55, 56, 57], [31, 32, 33, 34, 35, 36, 37, 38, 39, 40, 41, 42, 43, 44, 45, 46, 47, 48, 49, 50, 51, 52, 53, 54, 55, 56, 57], [32, 33, 34, 35, 36, 37, 38, 39, 40, 41, 42, 43, 44, 45, 46, 47, 48, 49, 50, 51, 52, 53, 54, 55, 56, 57], [33, 34, 35, 36, 37, 38, 39, 40, 41, 42, 43, 44, 45, 46, 47, 48, 49, 50, 51, 52, 53, 54, 55, 56, 57], [34, 35, 36, 37, 38, 39, 40, 41, 42, 43, 44, 45, 46, 47, 48, 49, 50, 51, 52, 53, 54, 55, 56, 57], [35, 36, 37, 38, 39, 40, 41, 42, 43, 44, 45, 46, 47, 48, 49, 50, 51, 52, 53, 54, 55, 56, 57], [36, 37, 38, 39, 40, 41, 42, 43, 44, 45, 46, 47, 48, 49, 50, 51, 52, 53, 54, 55, 56, 57], [37, 38, 39, 40, 41, 42, 43, 44, 45, 46, 47, 48, 49, 50, 51, 52, 53, 54, 55, 56, 57], [38, 39, 40, 41, 42, 43, 44, 45, 46, 47, 48, 49, 50, 51, 52, 53, 54, 55, 56, 57], [39, 40, 41, 42, 43, 44, 45, 46, 47, 48, 49, 50, 51, 52, 53, 54, 55, 56, 57], [40, 41, 42, 43, 44, 45, 46, 54, 55, 56, 57], [41, 42, 43, 44, 45, 46, 54, 55, 56, 57], [42, 43, 44, 45, 46, 54, 55, 56, 57], [43, 44, 45, 46, 54, 55, 56, 57], [44, 45, 46, 54, 55, 56, 57], [45, 46, 54, 55, 56, 57], [46, 54, 55, 56, 57], [47, 48, 49, 50, 51, 52, 53, 54, 55, 56, 57], [48, 49, 50, 51, 52, 53, 54, 55, 56, 57], [49, 50, 51, 52, 53, 54, 55, 56, 57], [50, 51, 52, 53, 54, 55, 56, 57], [51, 52, 53, 54, 55, 56, 57], [52, 53, 54, 55, 56, 57], [53, 54, 55, 56, 57], [54, 55, 56, 57], [55, 56, 57], [56, 57], [57]] (by kernel_rfl) [[], [], [], [], [], [], [], [], [], [], [], [], [], [], [], [], [], [], [], [], [], [], [], [], [], [], [], [], [], [], [], [], [], [], [], [], [], [], [], [], [], [], [], [], [], [], [], [], [], [], [], [], [], [], [], [], [], []] [[], [0], [1], [1, 2], [1, 3], [4], [5], [5, 6], [5, 7], [8], [9], [9, 10], [9, 11], [9, 12], [9, 13], [9, 14], [9], [9, 16], [9, 17], [9, 18], [9, 19], [9, 20], [9, 15, 21], [9, 22], [23], [24], [24, 25], [24, 26], [24, 27], [24, 28], [24, 29], [24], [24, 31], [24, 32], [24, 33], [24, 34], [24, 35], [24, 30, 36], [24, 37], [38], [39], [39, 40], [39, 41], [39, 42], [39, 43], [39, 44], [39, 45], [39], [39, 47], [39, 48], [39, 49], [39, 50], [39, 51], [39, 52], [39, 46, 53], [39, 54], [39, 55], [56]] (by kernel_rfl)
        Ip
        Vp
        (fun j W W' => match j with
          | 3 => Below W.heap.size W W'
          | 7 => Below W.heap.size W W'
          | _ => Below W.heap.size W W')
        [fun x => ⟨(fZm 4 (.bool true) (fEm 38)).toArray, []⟩,
   fun x => ⟨(fZm 42 (x 0) (fEm 1)).toArray, []⟩,
   fun x => ⟨(fZm 3 (.pointer (some ⟨g, 0, none⟩)) (fZm 39 (x 1) (fEm 1))).toArray, []⟩,
   fun x => ⟨(fZm 43 (x 1) (fZm 0 (x 2) (fEm 1))).toArray, []⟩,
   fun x => ⟨(fZm 43 (x 1) (fZm 1 (x 3) (fEm 1))).toArray, []⟩,
   fun x => ⟨(fZm 46 (x 4) (fEm 1)).toArray, []⟩,
   fun x => ⟨(fZm 3 (.pointer (some ⟨g, 0, none⟩)) (fZm 43 (x 5) (fEm 1))).toArray, []⟩,
   fun x => ⟨(fZm 47 (x 5) (fZm 0 (x 6) (fEm 1))).toArray, []⟩,
   fun x => ⟨(fZm 47 (x 5) (fZm 1 (x 7) (fEm 1))).toArray, []⟩,
   fun x => ⟨(fZm 50 (x 8) (fEm 1)).toArray, []⟩,
   fun x => ⟨(fZm 3 (.pointer (some ⟨g, 0, none⟩)) (fZm 47 (x 9) (fEm 1))).toArray, []⟩,
   fun x => ⟨(fZm 51 (x 9) (fZm 0 (x 10) (fEm 1))).toArray, []⟩,
   fun x => ⟨(fZm 51 (x 9) (fZm 1 (x 11) (fEm 1))).toArray, []⟩,
   fun x => ⟨(fZm 51 (x 9) (fZm 2 (x 12) (fEm 1))).toArray, []⟩,
   fun x => ⟨(fZm 51 (x 9) (fZm 3 (x 13) (fEm 1))).toArray, []⟩,
   fun x => ⟨(fZm 51 (x 9) (fZm 4 (x 14) (fEm 1))).toArray, []⟩,
   fun x => ⟨(fZm 3 (.pointer (some ⟨g, 0, none⟩)) (fZm 47 (x 9) (fEm 7))).toArray, []⟩,
   fun x => ⟨(fZm 51 (x 9) (fZm 6 (x 16) (fEm 1))).toArray, []⟩,
   fun x => ⟨(fZm 51 (x 9) (fZm 7 (x 17) (fEm 1))).toArray, []⟩,
   fun x => ⟨(fZm 51 (x 9) (fZm 8 (x 18) (fEm 1))).toArray, []⟩,
   fun x => ⟨(fZm 51 (x 9) (fZm 9 (x 19) (fEm 1))).toArray, []⟩,
   fun x => ⟨(fZm 51 (x 9) (fZm 10 (x 20) (fEm 1))).toArray, []⟩,
   fun x => ⟨(fZm 51 (x 9) (fZm 5 (x 15) (fZm 5 (x 21) (fEm 1)))).toArray, []⟩,
   fun x => ⟨(fZm 51 (x 9) (fZm 12 (x 22) (fEm 1))).toArray, []⟩,
   fun x => ⟨(fZm 65 (x 23) (fEm 1)).toArray, []⟩,
   fun x => ⟨(fZm 3 (.pointer (some ⟨g, 0, none⟩)) (fZm 62 (x 24) (fEm 1))).toArray, []⟩,
   fun x => ⟨(fZm 66 (x 24) (fZm 0 (x 25) (fEm 1))).toArray, []⟩,
   fun x => ⟨(fZm 66 (x 24) (fZm 1 (x 26) (fEm 1))).toArray, []⟩,
   fun x => ⟨(fZm 66 (x 24) (fZm 2 (x 27) (fEm 1))).toArray, []⟩,
   fun x => ⟨(fZm 66 (x 24) (fZm 3 (x 28) (fEm 1))).toArray, []⟩,
   fun x => ⟨(fZm 66 (x 24) (fZm 4 (x 29) (fEm 1))).toArray, []⟩,
   fun x => ⟨(fZm 3 (.pointer (some ⟨g, 0, none⟩)) (fZm 62 (x 24) (fEm 7))).toArray, []⟩,
   fun x => ⟨(fZm 66 (x 24) (fZm 6 (x 31) (fEm 1))).toArray, []⟩,
   fun x => ⟨(fZm 66 (x 24) (fZm 7 (x 32) (fEm 1))).toArray, []⟩,
   fun x => ⟨(fZm 66 (x 24) (fZm 8 (x 33) (fEm 1))).toArray, []⟩,
   fun x => ⟨(fZm 66 (x 24) (fZm 9 (x 34) (fEm 1))).toArray, []⟩,
   fun x => ⟨(fZm 66 (x 24) (fZm 10 (x 35) (fEm 1))).toArray, []⟩,
   fun x => ⟨(fZm 66 (x 24) (fZm 5 (x 30) (fZm 5 (x 36) (fEm 1)))).toArray, []⟩,
   fun x => ⟨(fZm 66 (x 24) (fZm 12 (x 37) (fEm 1))).toArray, []⟩,
   fun x => ⟨(fZm 80 (x 38) (fEm 1)).toArray, []⟩,
   fun x => ⟨(fZm 3 (.pointer (some ⟨g, 0, none⟩)) (fZm 77 (x 39) (fEm 1))).toArray, []⟩,
   fun x => ⟨(fZm 81 (x 39) (fZm 0 (x 40) (fEm 1))).toArray, []⟩,
   fun x => ⟨(fZm 81 (x 39) (fZm 1 (x 41) (fEm 1))).toArray, []⟩,
   fun x => ⟨(fZm 81 (x 39) (fZm 2 (x 42) (fEm 1))).toArray, []⟩,
   fun x => ⟨(fZm 81 (x 39) (fZm 3 (x 43) (fEm 1))).toArray, []⟩,
   fun x => ⟨(fZm 81 (x 39) (fZm 4 (x 44) (fEm 1))).toArray, []⟩,
   fun x => ⟨(fZm 81 (x 39) (fZm 5 (x 45) (fEm 1))).toArray, []⟩,
   fun x => ⟨(fZm 3 (.pointer (some ⟨g, 0, none⟩)) (fZm 77 (x 39) (fEm 8))).toArray, []⟩,
   fun x => ⟨(fZm 81 (x 39) (fZm 7 (x 47) (fEm 1))).toArray, []⟩,
   fun x => ⟨(fZm 81 (x 39) (fZm 8 (x 48) (fEm 1))).toArray, []⟩,
   fun x => ⟨(fZm 81 (x 39) (fZm 9 (x 49) (fEm 1))).toArray, []⟩,
   fun x => ⟨(fZm 81 (x 39) (fZm 10 (x 50) (fEm 1))).toArray, []⟩,
   fun x => ⟨(fZm 81 (x 39) (fZm 11 (x 51) (fEm 1))).toArray, []⟩,
   fun x => ⟨(fZm 81 (x 39) (fZm 12 (x 52) (fEm 1))).toArray, []⟩,
   fun x => ⟨(fZm 81 (x 39) (fZm 6 (x 46) (fZm 6 (x 53) (fEm 1)))).toArray, []⟩,
   fun x => ⟨(fZm 81 (x 39) (fZm 14 (x 54) (fEm 1))).toArray, []⟩,
   fun x => ⟨(fZm 81 (x 39) (fZm 15 (x 55) (fEm 1))).toArray, []⟩,
   fun x => ⟨(fZm 98 (x 56) []).toArray, []⟩]
        ?hF ?mono ?h0 ?step [0, 1, 2, 3, 4, 5, 6, 7, 8, 9, 10, 11, 12, 13, 14, 15, 16, 17, 18, 19, 20, 21, 22, 23, 24, 25, 26, 27, 28, 29, 30, 31, 32, 33, 34, 35, 36, 37, 38, 39, 40, 41, 42, 43, 44, 45, 46, 47, 48, 49, 50, 51, 52, 53, 54, 55, 56, 57] (by kernel_rfl) ?fin
      case hF =>
        iterate 58 refine ⟨fun x => ⟨by kernel_rfl, by kernel_rfl⟩, ?_⟩
        trivial
      case mono =>
        intro i j hi hj hne hna hnk v W W' hE hv
        rw [HV.out] at hv ⊢
        simp only [List.length_cons, List.length_nil] at hi hj
        match i, hi with
        | 0, _ | 1, _ | 2, _ | 3, _ | 4, _ | 5, _ | 6, _ | 7, _ | 8, _ | 9, _ | 10, _ | 11, _ | 12, _ | 13, _ | 14, _ | 15, _ | 16, _ | 17, _ | 18, _ | 19, _ | 20, _ | 21, _ | 22, _ | 23, _ | 24, _ | 25, _ | 26, _ | 27, _ | 28, _ | 29, _ | 30, _ | 31, _ | 32, _ | 33, _ | 34, _ | 35, _ | 36, _ | 37, _ | 38, _ | 39, _ | 40, _ | 41, _ | 42, _ | 43, _ | 44, _ | 45, _ | 46, _ | 47, _ | 48, _ | 49, _ | 50, _ | 51, _ | 52, _ | 53, _ | 54, _ | 55, _ | 56, _ | 57, _ => exact hv
        | m + 58, h => exact absurd h (by omega)
      case h0 => intro x; exact toI HIp ⟨(BR.out).drew, BX.out.go (Below.refl _ _).drew, M1.out.go (Below.refl _ _).drew⟩
      case step =>
        refine ⟨?_, ?_, ?_, ?_, ?_, ?_, ?_, ?_, ?_, ?_, ?_, ?_, ?_, ?_, ?_, ?_, ?_, ?_, ?_, ?_, ?_, ?_, ?_, ?_, ?_, ?_, ?_, ?_, ?_, ?_, ?_, ?_, ?_, ?_, ?_, ?_, ?_, ?_, ?_, ?_, ?_, ?_, ?_, ?_, ?_, ?_, ?_, ?_, ?_, ?_, ?_, ?_, ?_, ?_, ?_, ?_, ?_, ?_, trivial⟩
        all_goals
          intro x W L hI hL hV
          replace hI : (Below w.heap.size w W ∧ Blk g CS W ∧ CabM w.heap.size g c vs W) := ofI HIp hI
          rw [HV.out] at hV
          simp only [AllV, and_true] at hV
          dsimp only [fZm, fEm, List.reduceReplicate, List.cons_append, List.nil_append]
        · clear hV
          have HI := Lib.hid hI
          clear hI
          go_wp2_with fail
          refine step3_done rfl ?_ ?_ ?_
          · exact (toI HIp HI.out)
          · exact (Below.refl _ _)
          · exact (toV HV rfl)
        · have u0 := hV
          clear hV
          simp only [u0]
          clear u0
          have HI := Lib.hid hI
          clear hI
          go_wp2_with fail
          refine step3_done rfl ?_ ?_ ?_
          · exact (toI HIp HI.out)
          · exact (Below.refl _ _)
          · exact (toV HV rfl)
        · have u1 := hV
          clear hV
          simp only [u1]
          clear u1
          have HI := Lib.hid hI
          clear hI
          go_wp2_with fail
          refine step3_done rfl ?_ ?_ ?_
          · exact (toI HIp HI.out)
          · exact (Below.refl _ _)
          · exact (toV HV rfl)
        · obtain ⟨u1, u2⟩ := hV
          simp only [u1, u2]
          clear u1 u2
          have HI := Lib.hid hI
          clear hI
          go_wp2_with fail
          refine (HR0.out _ HI.out.2.2).mono ?_
          rintro e W' ⟨rfl, hb⟩
          have HB := Lib.hid hb
          clear hb
          go_wp2_with fail
          refine step3_done rfl ?_ ?_ ?_
          · exact (toI HIp ⟨up HI.out.1 HB.out, HI.out.2.1.go HB.out, HI.out.2.2.go HB.out⟩)
          · exact HB.out
          · exact (toV HV rfl)
        · obtain ⟨u1, u3⟩ := hV
          simp only [u1, u3]
          clear u1 u3
          have HI := Lib.hid hI
          clear hI
          go_wp2_with fail
          refine step3_done rfl ?_ ?_ ?_
          · exact (toI HIp HI.out)
          · exact (Below.refl _ _)
          · exact (toV HV rfl)
        · have u4 := hV
          clear hV
          simp only [u4]
          clear u4
          have HI := Lib.hid hI
          clear hI
          go_wp2_with fail
          refine step3_done rfl ?_ ?_ ?_
          · exact (toI HIp HI.out)
          · exact (Below.refl _ _)
          · exact (toV HV rfl)
        · have u5 := hV
          clear hV
          simp only [u5]
          clear u5
          have HI := Lib.hid hI
          clear hI
          go_wp2_with fail
          refine step3_done rfl ?_ ?_ ?_
          · exact (toI HIp HI.out)
          · exact (Below.refl _ _)
          · exact (toV HV rfl)
        · obtain ⟨u5, u6⟩ := hV
          simp only [u5, u6]
          clear u5 u6
          have HI := Lib.hid hI
          clear hI
          go_wp2_with fail
          refine (HR1.out _ HI.out.2.2).mono ?_
          rintro e W' ⟨rfl, hb⟩
          have HB := Lib.hid hb
          clear hb
          go_wp2_with fail
          refine step3_done rfl ?_ ?_ ?_
          · exact (toI HIp ⟨up HI.out.1 HB.out, HI.out.2.1.go HB.out, HI.out.2.2.go HB.out⟩)
          · exact HB.out
          · exact (toV HV rfl)
        · obtain ⟨u5, u7⟩ := hV
          simp only [u5, u7]
          clear u5 u7
          have HI := Lib.hid hI
          clear hI
          go_wp2_with fail
          refine step3_done rfl ?_ ?_ ?_
          · exact (toI HIp HI.out)
          · exact (Below.refl _ _)
          · exact (toV HV rfl)
        · have u8 := hV
          clear hV
          simp only [u8]
          clear u8
          have HI := Lib.hid hI
          clear hI
          go_wp2_with fail
          refine step3_done rfl ?_ ?_ ?_
          · exact (toI HIp HI.out)
          · exact (Below.refl _ _)
          · exact (toV HV rfl)
        · have u9 := hV
          clear hV
          simp only [u9]
          clear u9
          have HI := Lib.hid hI
          clear hI
          go_wp2_with fail
          refine step3_done rfl ?_ ?_ ?_
          · exact (toI HIp HI.out)
          · exact (Below.refl _ _)
          · exact (toV HV rfl)
        · obtain ⟨u9, u10⟩ := hV
          simp only [u9, u10]
          clear u9 u10
          have HI := Lib.hid hI
          clear hI
          go_wp2_with fail
          refine step3_done rfl ?_ ?_ ?_
          · exact (toI HIp HI.out)
          · exact (Below.refl _ _)
          · exact (toV HV rfl)
        · obtain ⟨u9, u11⟩ := hV
          simp only [u9, u11]
          clear u9 u11
          have HI := Lib.hid hI
          clear hI
          go_wp2_with fail
          refine step3_done rfl ?_ ?_ ?_
          · exact (toI HIp HI.out)
          · exact (Below.refl _ _)
          · exact (toV HV rfl)
        · obtain ⟨u9, u12⟩ := hV
          simp only [u9, u12]
          clear u9 u12
          have HI := Lib.hid hI
          clear hI
          go_wp2_with fail
          refine step3_done rfl ?_ ?_ ?_
          · exact (toI HIp HI.out)
          · exact (Below.refl _ _)
          · exact (toV HV rfl)
        · obtain ⟨u9, u13⟩ := hV
          simp only [u9, u13]
          clear u9 u13
          obtain ⟨q2, q7, q12, q13, q14, q15⟩ := HC.out _ hI.2.1
          have HI := Lib.hid hI
          clear hI
          go_wp2_with fail
          refine step3_done rfl ?_ ?_ ?_
          · exact (toI HIp HI.out)
          · exact (Below.refl _ _)
          · exact (toV HV rfl)
        · obtain ⟨u9, u14⟩ := hV
          simp only [u9, u14]
          clear u9 u14
          have HI := Lib.hid hI
          clear hI
          go_wp2_with fail
          refine step3_done rfl ?_ ?_ ?_
          · exact (toI HIp HI.out)
          · exact (Below.refl _ _)
          · exact (toV HV rfl)
        · have u9 := hV
          clear hV
          simp only [u9]
          clear u9
          have HI := Lib.hid hI
          clear hI
          go_wp2_with fail
          refine step3_done rfl ?_ ?_ ?_
          · exact (toI HIp HI.out)
          · exact (Below.refl _ _)
          · exact (toV HV rfl)
        · obtain ⟨u9, u16⟩ := hV
          simp only [u9, u16]
          clear u9 u16
          have HI := Lib.hid hI
          clear hI
          go_wp2_with fail
          refine step3_done rfl ?_ ?_ ?_
          · exact (toI HIp HI.out)
          · exact (Below.refl _ _)
          · exact (toV HV rfl)
        · obtain ⟨u9, u17⟩ := hV
          simp only [u9, u17]
          clear u9 u17
          have HI := Lib.hid hI
          clear hI
          go_wp2_with fail
          refine step3_done rfl ?_ ?_ ?_
          · exact (toI HIp HI.out)
          · exact (Below.refl _ _)
          · exact (toV HV rfl)
        · obtain ⟨u9, u18⟩ := hV
          simp only [u9, u18]
          clear u9 u18
          have HI := Lib.hid hI
          clear hI
          go_wp2_with fail
          refine step3_done rfl ?_ ?_ ?_
          · exact (toI HIp HI.out)
          · exact (Below.refl _ _)
          · exact (toV HV rfl)
        · obtain ⟨u9, u19⟩ := hV
          simp only [u9, u19]
          clear u9 u19
          obtain ⟨q2, q7, q12, q13, q14, q15⟩ := HC.out _ hI.2.1
          have HI := Lib.hid hI
          clear hI
          go_wp2_with fail
          refine step3_done rfl ?_ ?_ ?_
          · exact (toI HIp HI.out)
          · exact (Below.refl _ _)
          · exact (toV HV rfl)
        · obtain ⟨u9, u20⟩ := hV
          simp only [u9, u20]
          clear u9 u20
          have HI := Lib.hid hI
          clear hI
          go_wp2_with fail
          refine step3_done rfl ?_ ?_ ?_
          · exact (toI HIp HI.out)
          · exact (Below.refl _ _)
          · exact (toV HV rfl)
        · obtain ⟨u9, u15, u21⟩ := hV
          simp only [u9, u15, u21]
          clear u9 u15 u21
          have HI := Lib.hid hI
          clear hI
          go_wp2_with fail
          refine step3_done rfl ?_ ?_ ?_
          · exact (toI HIp HI.out)
          · exact (Below.refl _ _)
          · exact (toV HV rfl)
        · obtain ⟨u9, u22⟩ := hV
          simp only [u9, u22]
          clear u9 u22
          have HI := Lib.hid hI
          clear hI
          go_wp2_with fail
          refine step3_done rfl ?_ ?_ ?_
          · exact (toI HIp HI.out)
          · exact (Below.refl _ _)
          · exact (toV HV rfl)
        · have u23 := hV
          clear hV
          simp only [u23]
          clear u23
          have HI := Lib.hid hI
          clear hI
          go_wp2_with fail
          refine step3_done rfl ?_ ?_ ?_
          · exact (toI HIp HI.out)
          · exact (Below.refl _ _)
          · exact (toV HV rfl)
        · have u24 := hV
          clear hV
          simp only [u24]
          clear u24
          have HI := Lib.hid hI
          clear hI
          go_wp2_with fail
          refine step3_done rfl ?_ ?_ ?_
          · exact (toI HIp HI.out)
          · exact (Below.refl _ _)
          · exact (toV HV rfl)
        · obtain ⟨u24, u25⟩ := hV
          simp only [u24, u25]
          clear u24 u25
          have HI := Lib.hid hI
          clear hI
          go_wp2_with fail
          refine step3_done rfl ?_ ?_ ?_
          · exact (toI HIp HI.out)
          · exact (Below.refl _ _)
          · exact (toV HV rfl)
        · obtain ⟨u24, u26⟩ := hV
          simp only [u24, u26]
          clear u24 u26
          have HI := Lib.hid hI
          clear hI
          go_wp2_with fail
          refine step3_done rfl ?_ ?_ ?_
          · exact (toI HIp HI.out)
          · exact (Below.refl _ _)
          · exact (toV HV rfl)
        · obtain ⟨u24, u27⟩ := hV
          simp only [u24, u27]
          clear u24 u27
          have HI := Lib.hid hI
          clear hI
          go_wp2_with fail
          refine step3_done rfl ?_ ?_ ?_
          · exact (toI HIp HI.out)
          · exact (Below.refl _ _)
          · exact (toV HV rfl)
        · obtain ⟨u24, u28⟩ := hV
          simp only [u24, u28]
          clear u24 u28
          obtain ⟨q2, q7, q12, q13, q14, q15⟩ := HC.out _ hI.2.1
          have HI := Lib.hid hI
          clear hI
          go_wp2_with fail
          refine step3_done rfl ?_ ?_ ?_
          · exact (toI HIp HI.out)
          · exact (Below.refl _ _)
          · exact (toV HV rfl)
        · obtain ⟨u24, u29⟩ := hV
          simp only [u24, u29]
          clear u24 u29
          have HI := Lib.hid hI
          clear hI
          go_wp2_with fail
          refine step3_done rfl ?_ ?_ ?_
          · exact (toI HIp HI.out)
          · exact (Below.refl _ _)
          · exact (toV HV rfl)
        · have u24 := hV
          clear hV
          simp only [u24]
          clear u24
          have HI := Lib.hid hI
          clear hI
          go_wp2_with fail
          refine step3_done rfl ?_ ?_ ?_
          · exact (toI HIp HI.out)
          · exact (Below.refl _ _)
          · exact (toV HV rfl)
        · obtain ⟨u24, u31⟩ := hV
          simp only [u24, u31]
          clear u24 u31
          have HI := Lib.hid hI
          clear hI
          go_wp2_with fail
          refine step3_done rfl ?_ ?_ ?_
          · exact (toI HIp HI.out)
          · exact (Below.refl _ _)
          · exact (toV HV rfl)
        · obtain ⟨u24, u32⟩ := hV
          simp only [u24, u32]
          clear u24 u32
          have HI := Lib.hid hI
          clear hI
          go_wp2_with fail
          refine step3_done rfl ?_ ?_ ?_
          · exact (toI HIp HI.out)
          · exact (Below.refl _ _)
          · exact (toV HV rfl)
        · obtain ⟨u24, u33⟩ := hV
          simp only [u24, u33]
          clear u24 u33
          have HI := Lib.hid hI
          clear hI
          go_wp2_with fail
          refine step3_done rfl ?_ ?_ ?_
          · exact (toI HIp HI.out)
          · exact (Below.refl _ _)
          · exact (toV HV rfl)
        · obtain ⟨u24, u34⟩ := hV
          simp only [u24, u34]
          clear u24 u34
          obtain ⟨q2, q7, q12, q13, q14, q15⟩ := HC.out _ hI.2.1
          have HI := Lib.hid hI
          clear hI
          go_wp2_with fail
          refine step3_done rfl ?_ ?_ ?_
          · exact (toI HIp HI.out)
          · exact (Below.refl _ _)
          · exact (toV HV rfl)
        · obtain ⟨u24, u35⟩ := hV
          simp only [u24, u35]
          clear u24 u35
          have HI := Lib.hid hI
          clear hI
          go_wp2_with fail
          refine step3_done rfl ?_ ?_ ?_
          · exact (toI HIp HI.out)
          · exact (Below.refl _ _)
          · exact (toV HV rfl)
        · obtain ⟨u24, u30, u36⟩ := hV
          simp only [u24, u30, u36]
          clear u24 u30 u36
          have HI := Lib.hid hI
          clear hI
          go_wp2_with fail
          refine step3_done rfl ?_ ?_ ?_
          · exact (toI HIp HI.out)
          · exact (Below.refl _ _)
          · exact (toV HV rfl)
        · obtain ⟨u24, u37⟩ := hV
          simp only [u24, u37]
          clear u24 u37
          have HI := Lib.hid hI
          clear hI
          go_wp2_with fail
          refine step3_done rfl ?_ ?_ ?_
          · exact (toI HIp HI.out)
          · exact (Below.refl _ _)
          · exact (toV HV rfl)
        · have u38 := hV
          clear hV
          simp only [u38]
          clear u38
          have HI := Lib.hid hI
          clear hI
          go_wp2_with fail
          refine step3_done rfl ?_ ?_ ?_
          · exact (toI HIp HI.out)
          · exact (Below.refl _ _)
          · exact (toV HV rfl)
        · have u39 := hV
          clear hV
          simp only [u39]
          clear u39
          have HI := Lib.hid hI
          clear hI
          go_wp2_with fail
          refine step3_done rfl ?_ ?_ ?_
          · exact (toI HIp HI.out)
          · exact (Below.refl _ _)
          · exact (toV HV rfl)
        · obtain ⟨u39, u40⟩ := hV
          simp only [u39, u40]
          clear u39 u40
          have HI := Lib.hid hI
          clear hI
          go_wp2_with fail
          refine step3_done rfl ?_ ?_ ?_
          · exact (toI HIp HI.out)
          · exact (Below.refl _ _)
          · exact (toV HV rfl)
        · obtain ⟨u39, u41⟩ := hV
          simp only [u39, u41]
          clear u39 u41
          have HI := Lib.hid hI
          clear hI
          go_wp2_with fail
          refine step3_done rfl ?_ ?_ ?_
          · exact (toI HIp HI.out)
          · exact (Below.refl _ _)
          · exact (toV HV rfl)
        · obtain ⟨u39, u42⟩ := hV
          simp only [u39, u42]
          clear u39 u42
          have HI := Lib.hid hI
          clear hI
          go_wp2_with fail
          refine step3_done rfl ?_ ?_ ?_
          · exact (toI HIp HI.out)
          · exact (Below.refl _ _)
          · exact (toV HV rfl)
        · obtain ⟨u39, u43⟩ := hV
          simp only [u39, u43]
          clear u39 u43
          have HI := Lib.hid hI
          clear hI
          go_wp2_with fail
          refine step3_done rfl ?_ ?_ ?_
          · exact (toI HIp HI.out)
          · exact (Below.refl _ _)
          · exact (toV HV rfl)
        · obtain ⟨u39, u44⟩ := hV
          simp only [u39, u44]
          clear u39 u44
          obtain ⟨q2, q7, q12, q13, q14, q15⟩ := HC.out _ hI.2.1
          have HI := Lib.hid hI
          clear hI
          go_wp2_with fail
          refine step3_done rfl ?_ ?_ ?_
          · exact (toI HIp HI.out)
          · exact (Below.refl _ _)
          · exact (toV HV rfl)
        · obtain ⟨u39, u45⟩ := hV
          simp only [u39, u45]
          clear u39 u45
          have HI := Lib.hid hI
          clear hI
          go_wp2_with fail
          refine step3_done rfl ?_ ?_ ?_
          · exact (toI HIp HI.out)
          · exact (Below.refl _ _)
          · exact (toV HV rfl)
        · have u39 := hV
          clear hV
          simp only [u39]
          clear u39
          have HI := Lib.hid hI
          clear hI
          go_wp2_with fail
          refine step3_done rfl ?_ ?_ ?_
          · exact (toI HIp HI.out)
          · exact (Below.refl _ _)
          · exact (toV HV rfl)
        · obtain ⟨u39, u47⟩ := hV
          simp only [u39, u47]
          clear u39 u47
          have HI := Lib.hid hI
          clear hI
          go_wp2_with fail
          refine step3_done rfl ?_ ?_ ?_
          · exact (toI HIp HI.out)
          · exact (Below.refl _ _)
          · exact (toV HV rfl)
        · obtain ⟨u39, u48⟩ := hV
          simp only [u39, u48]
          clear u39 u48
          have HI := Lib.hid hI
          clear hI
          go_wp2_with fail
          refine step3_done rfl ?_ ?_ ?_
          · exact (toI HIp HI.out)
          · exact (Below.refl _ _)
          · exact (toV HV rfl)
        · obtain ⟨u39, u49⟩ := hV
          simp only [u39, u49]
          clear u39 u49
          have HI := Lib.hid hI
          clear hI
          go_wp2_with fail
          refine step3_done rfl ?_ ?_ ?_
          · exact (toI HIp HI.out)
          · exact (Below.refl _ _)
          · exact (toV HV rfl)
        · obtain ⟨u39, u50⟩ := hV
          simp only [u39, u50]
          clear u39 u50
          have HI := Lib.hid hI
          clear hI
          go_wp2_with fail
          refine step3_done rfl ?_ ?_ ?_
          · exact (toI HIp HI.out)
          · exact (Below.refl _ _)
          · exact (toV HV rfl)
        · obtain ⟨u39, u51⟩ := hV
          simp only [u39, u51]
          clear u39 u51
          obtain ⟨q2, q7, q12, q13, q14, q15⟩ := HC.out _ hI.2.1
          have HI := Lib.hid hI
          clear hI
          go_wp2_with fail
          refine step3_done rfl ?_ ?_ ?_
          · exact (toI HIp HI.out)
          · exact (Below.refl _ _)
          · exact (toV HV rfl)
        · obtain ⟨u39, u52⟩ := hV
          simp only [u39, u52]
          clear u39 u52
          have HI := Lib.hid hI
          clear hI
          go_wp2_with fail
          refine step3_done rfl ?_ ?_ ?_
          · exact (toI HIp HI.out)
          · exact (Below.refl _ _)
          · exact (toV HV rfl)
        · obtain ⟨u39, u46, u53⟩ := hV
          simp only [u39, u46, u53]
          clear u39 u46 u53
          have HI := Lib.hid hI
          clear hI
          go_wp2_with fail
          refine step3_done rfl ?_ ?_ ?_
          · exact (toI HIp HI.out)
          · exact (Below.refl _ _)
          · exact (toV HV rfl)
        · obtain ⟨u39, u54⟩ := hV
          simp only [u39, u54]
          clear u39 u54
          have HI := Lib.hid hI
          clear hI
          go_wp2_with fail
          refine step3_done rfl ?_ ?_ ?_
          · exact (toI HIp HI.out)
          · exact (Below.refl _ _)
          · exact (toV HV rfl)
        · obtain ⟨u39, u55⟩ := hV
          simp only [u39, u55]
          clear u39 u55
          have HI := Lib.hid hI
          clear hI
          go_wp2_with fail
          refine step3_done rfl ?_ ?_ ?_
          · exact (toI HIp HI.out)
          · exact (Below.refl _ _)
          · exact (toV HV rfl)
        · have u56 := hV
          clear hV
          simp only [u56]
          clear u56
          have HI := Lib.hid hI
          clear hI
          go_wp2_with fail
          refine step3_done rfl ?_ ?_ ?_
          · exact (toI HIp HI.out)
          · exact (Below.refl _ _)
          · exact (toV HV rfl)
      case fin =>
        intro x W L hL hI hV
        replace hI : (Below w.heap.size w W ∧ Blk g CS W ∧ CabM w.heap.size g c vs W) := ofI HIp hI
        rw [HV.out] at hV
        simp only [AllV, and_true] at hV
        obtain ⟨u0, u1, u2, u3, u4, u5, u6, u7, u8, u9, u10, u11, u12, u13, u14, u15, u16, u17, u18, u19, u20, u21, u22, u23, u24, u25, u26, u27, u28, u29, u30, u31, u32, u33, u34, u35, u36, u37, u38, u39, u40, u41, u42, u43, u44, u45, u46, u47, u48, u49, u50, u51, u52, u53, u54, u55, u56, u57⟩ := hV
        simp only [getsD, List.getD_cons_succ, List.getD_cons_zero, List.length_cons, List.length_nil, List.range, List.range.loop, u0, u1, u2, u3, u4, u5, u6, u7, u8, u9, u10, u11, u12, u13, u14, u15, u16, u17, u18, u19, u20, u21, u22, u23, u24, u25, u26, u27, u28, u29, u30, u31, u32, u33, u34, u35, u36, u37, u38, u39, u40, u41, u42, u43, u44, u45, u46, u47, u48, u49, u50, u51, u52, u53, u54, u55, u56, u57, Act.put, List.setIfInBounds_toArray, List.set_cons_succ, List.set_cons_zero]
        clear u0 u1 u2 u3 u4 u5 u6 u7 u8 u9 u10 u11 u12 u13 u14 u15 u16 u17 u18 u19 u20 u21 u22 u23 u24 u25 u26 u27 u28 u29 u30 u31 u32 u33 u34 u35 u36 u37 u38 u39 u40 u41 u42 u43 u44 u45 u46 u47 u48 u49 u50 u51 u52 u53 u54 u55 u56 u57
        have HI := Lib.hid hI
        clear hI
        go_wp2_with fail
        go_ret
        exact ⟨rfl, HI.out.1⟩
end Go.Proofs.YtkhacogeffidoaaDoor
