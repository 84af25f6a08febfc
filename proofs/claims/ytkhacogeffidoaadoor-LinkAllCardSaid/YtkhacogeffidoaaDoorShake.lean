/- The walk of shake (printed by gen_shake.py). -/
import Derived.Test.YtkhacogeffidoaaDoorShakeSt
import Derived.Test.YtkhacogeffidoaaDoorPkOkW
import Derived.BigQuiet
set_option linter.unusedVariables false
set_option linter.unusedSimpArgs false
namespace Go.Proofs.YtkhacogeffidoaaDoor
open Go.RowKit

theorem frame_fr (r : Raw) (l : List Raw) : FrOk (frameOf r l) := by
  obtain ⟨h1, h2, h3, h4, h5, -⟩ := frame_ok r l
  exact ⟨h1, h2, h3, h4, h5⟩
theorem below_base {base B : Nat} {w W W' : World} (h : Below B w W) (h' : Below base W W') (hB : B ≤ base) (hw : B = w.heap.size) : Below B w W' := by
  subst hw
  exact h.trans ((Touch.of_belowC h').toBelow h.size (fun z hz => by omega))
set_option maxRecDepth 100000 in
set_option maxHeartbeats 8000000 in
theorem shake_any (l : List Raw) (a : Option Addr) (n cp : Nat) (w : World) (hg : Good w) (hr : RdS (· < w.heap.size) w l a n cp) :
    Calls Tryd.prog 24 #[.slice a n cp] w fun e w' => ∃ g, e = .returned (.tuple #[.pointer (some ⟨g, 0, none⟩), .bool true]) ∧ CabP w.heap.size g 40 640 w' ∧ Below w.heap.size w w' := by
  have HPl := Lib.hid (fun W => plug_any 3 W (by omega) (by omega))
  have Hg := Lib.hid hg
  have Hr := Lib.hid hr
  have hnl := hr.1
  have hnm := hr.2.2.1
  have Hsend := Lib.hid (fun (B g : Nat) => st_send B g)
  have Hcome := Lib.hid (fun (B g : Nat) => st_come B g)
  have Htick := Lib.hid (fun (B g : Nat) => st_tick B g)
  have hn63 : (n : Int) ≤ 9223372036854775807 := by have := hr.2.1; unfold maxLen at hnm; omega
  clear hg hr
  go_enter Tryd.func24, Tryd.ntmps24
  go_wp2_with fail
  refine (HPl.out _).mono ?_
  rintro e w1 ⟨g, rfl, m1, b1⟩
  have B1 := Lib.hid b1
  have M1 : Hid (CabP w.heap.size g 0 0 w1) := ⟨_, _, m1, Once.start, by simp [cab0], by simp [cab0]⟩
  have hgb := m1.gb
  clear m1 b1 HPl
  go_wp2_with fail
  go_loopw [5, 6] (fun ok vi wr => ∃ i : Nat, i ≤ n ∧ i ≤ 40 ∧ ok = .bool true ∧ vi = .int .i64 (i : Int) ∧ CabP w.heap.size g i (16 * i) wr ∧ Below w.heap.size w wr) (fun _ vi _ => n - (intOf vi).toNat)
  case atStart => exact ⟨0, by omega, by omega, rfl, rfl, M1.out, B1.out⟩
  case round =>
    obtain ⟨i, hin, hi40, rfl, rfl, mr, br⟩ := hrel
    have MR := Lib.hid mr
    have BR := Lib.hid br
    have hwr := br.size
    clear mr br M1 B1
    have HB : Hid (∀ W, Below w.heap.size wr W → Below w.heap.size w W) := fun W h => BR.out.trans h
    by_cases hlt : i < n
    · have hlt' : (i : Int) < (n : Int) := by omega
      by_cases h40 : i < 40
      · have h40' : (i : Int) < 40 := by omega
        obtain ⟨tg, to_, rfl, htg, htb, hte⟩ := Hr.out.2.2.2.2 (by omega)
        obtain ⟨r, hri⟩ : ∃ r, l[i]? = some r := ⟨_, List.getElem?_eq_getElem (by omega)⟩
        obtain ⟨xs, ⟨rfl, hrk⟩, hxc⟩ := hte i r hri
        have Hrk := Lib.hid hrk
        have HFr := Lib.hid (fun W => frame_go r [] none 0 0 W (RdS.nil _ _) hrk)
        have HFok := Lib.hid (frame_fr r [])
        unfold FramePost at HFr
        generalize frameOf r [] = f at HFr HFok
        obtain ⟨k, xa, xb, xc, t⟩ := r
        unfold rawV at HFr
        simp only at HFr
        have x0 : w.cell? ⟨tg, to_ + i * 5, none⟩ = some (.int .i64 k) := hxc 0 _ rfl
        have x1 : w.cell? ⟨tg, to_ + i * 5 + 1, none⟩ = some (.int .i64 xa) := hxc 1 _ rfl
        have x2 : w.cell? ⟨tg, to_ + i * 5 + 1 + 1, none⟩ = some (.int .i64 xb) := hxc 2 _ rfl
        have x3 : w.cell? ⟨tg, to_ + i * 5 + 1 + 1 + 1, none⟩ = some (.int .i64 xc) := hxc 3 _ rfl
        have x4 : w.cell? ⟨tg, to_ + i * 5 + 1 + 1 + 1 + 1, none⟩ = some (.string t) := hxc 4 _ rfl
        replace x0 := (BR.out.cell (p := ⟨tg, to_ + i * 5, none⟩) htb).trans x0
        replace x1 := (BR.out.cell (p := ⟨tg, to_ + i * 5 + 1, none⟩) htb).trans x1
        replace x2 := (BR.out.cell (p := ⟨tg, to_ + i * 5 + 1 + 1, none⟩) htb).trans x2
        replace x3 := (BR.out.cell (p := ⟨tg, to_ + i * 5 + 1 + 1 + 1, none⟩) htb).trans x3
        replace x4 := (BR.out.cell (p := ⟨tg, to_ + i * 5 + 1 + 1 + 1 + 1, none⟩) htb).trans x4
        have hxb : I64 xb := hrk.2.2.1
        have HA := Lib.hid (fun W => picked_any xa 2 W hrk.2.1 (by omega) (by omega))
        have HK := Lib.hid (fun W => picked_any k 8 W hrk.1 (by omega) (by omega))
        have HC := Lib.hid (fun W => picked_any xc 4 W hrk.2.2.2.1 (by omega) (by omega))
        have ra := pk_range xa 2 (by omega)
        have rk := pk_range k 8 (by omega)
        generalize pk xa 2 = S at *
        generalize pk k 8 = K at *
        generalize pk xc 4 = PC at *
        have hS : S = 0 ∨ S = 1 := by omega
        clear hte hxc hri hrk ra
        go_wp2_with fail
        refine abs_run (fun W => Below wr.heap.size wr W ∧ Blk wr.heap.size (.cells #[.int .i64 k, .int .i64 xa, .int .i64 xb, .int .i64 xc, .string t] 42 (0, 0)) W) ⟨(Below.refl _ _).alloc (Nat.le_refl _) _, Blk.new wr _⟩ ?_
        rintro w3 ⟨b3, x3'⟩
        have B3 := Lib.hid b3
        have XR := Lib.hid x3'
        have M3 := Lib.hid (MR.out.go b3)
        have hz3 := b3.size
        have hzr := x3'.lt
        obtain ⟨q0, q1, q2, q3, q4⟩ := blk_cells5 x3'
        have HGG : Hid (∀ W, Below w.heap.size w3 W → Good W) := fun W h => Hg.out.go (HB.out W (((Touch.of_belowC b3).toBelow (by omega) (fun z hz => by omega)).trans h))
        clear b3 x3' x0 x1 x2 x3 x4
        have HEnd : Hid (∀ W, CabP w.heap.size g (i + 1) (16 * i + 16) W → Below w.heap.size w3 W → CabP w.heap.size g (i + 1) (16 * (i + 1)) W ∧ Below w.heap.size w W) := fun W h1 h2 => ⟨h1.more (Nat.le_refl _) (by omega), HB.out W (((Touch.of_belowC B3.out).toBelow (by omega) (fun z hz => by omega)).trans h2)⟩
        go_wp2_with fail
        refine (HA.out _).mono ?_
        rintro e w4 ⟨rfl, rfl⟩
        go_wp2_with fail
        refine (HK.out _).mono ?_
        rintro e w4 ⟨rfl, rfl⟩
        by_cases hk3 : K < 3
        · go_wp2_with fail
          refine (HFr.out _).mono ?_
          rintro e w4 ⟨fa, fc, rfl, rf, b4⟩
          have B4 := Lib.hid b4
          have RF := Lib.hid rf
          have hz4 := b4.size
          clear b4 rf HFr q0 q1 q2 q3 q4
          have hb34 : Below w.heap.size w3 w4 := (Touch.of_belowC B4.out).toBelow (by omega) (fun z hz => by omega)
          have HB34 := Lib.hid hb34
          clear hb34
          go_wp2_with fail
          refine (Hsend.out w.heap.size g i (16 * i) S hS f fa fc w3 w4 (HGG.out _ HB34.out) M3.out B4.out (by omega) (by omega) HFok.out RF.out).mono ?_
          rintro e w5 ⟨rfl, m5, b5⟩
          have hE := HEnd.out _ m5 (HB34.out.trans b5)
          have HE := Lib.hid hE
          clear m5 b5 hE M3 MR BR
          go_wp2_with fail
          case roundEnd =>
            refine ⟨⟨i + 1, by omega, by omega, rfl, by push_cast; rfl, HE.out.1, HE.out.2⟩, ?_⟩
            simp [intOf]
            omega
        · by_cases hk6 : K < 6
          · clear q0 q1 q2 q3 q4
            go_wp2_with fail
            obtain ⟨Vp, HV⟩ : ∃ Vp : Nat → Value → World → Prop, Hid (Vp = fun i v W => match i with
                | 0 => v = .pointer (some ⟨g, 0, none⟩)
                | 1 => v = .int .i64 S
                | 2 => v = .pointer (some ⟨wr.heap.size, 2, none⟩)
                | 3 => v = .int .i64 xb
                | 4 => v = .pointer (some ⟨wr.heap.size, 3, none⟩)
                | 5 => v = .int .i64 xc
                | 6 => v = .int .i64 PC
                | 7 => v = .bool (PC == 0)
                | 8 => v = .bool true
                | _ => v = .bool true) := ⟨_, rfl⟩
            obtain ⟨Ip, HIp⟩ : ∃ Ip : (Nat → Bool) → (Nat → Value) → World → Prop, Hid (Ip = fun L x W => ((L 8 = false → Below w3.heap.size w3 W) ∧ (L 8 = true → CabP w.heap.size g (i + 1) (16 * i + 16) W ∧ Below w.heap.size w3 W))) := ⟨_, rfl⟩
            refine region_lit3 (by kernel_rfl) (by kernel_rfl) (by kernel_rfl) [[], [], [], [2], [], [4], [4, 5], [4, 5, 6], [0, 1, 2, 3, 4, 5, 6, 7], [0, 1, 2, 3, 4, 5, 6, 7, 8]] (by kernel_rfl) [some 50, some 51, some 52, some 53, some 54, some 55, some 56, some 57, some 58, some 5] (by kernel_rfl) [[0, 8, 9], [1, 8, 9], [2, 3, 8, 9], [3, 8, 9], [4, 5, 6, 7, 8, 9], [5, 6, 7, 8, 9], [6, 7, 8, 9], [7, 8, 9], [8, 9], [9]] (by kernel_rfl) [[], [], [], [], [], [], [], [], [], []] [[], [], [], [2], [], [4], [5], [6], [0, 1, 3, 7], [8]] (by kernel_rfl)
              Ip
              Vp
              (fun j W W' => match j with
                | 8 => True
                | _ => Below W.heap.size W W')
              [fun x => ⟨(fZm 4 (.pointer (some ⟨g, 0, none⟩)) (fEm 46)).toArray, []⟩,
   fun x => ⟨(fZm 8 (.int .i64 S) (fEm 43)).toArray, []⟩,
   fun x => ⟨(fZm 7 (.pointer (some ⟨wr.heap.size, 0, none⟩)) (fEm 45)).toArray, []⟩,
   fun x => ⟨(fZm 52 (x 2) (fEm 1)).toArray, []⟩,
   fun x => ⟨(fZm 7 (.pointer (some ⟨wr.heap.size, 0, none⟩)) (fEm 47)).toArray, []⟩,
   fun x => ⟨(fZm 54 (x 4) (fEm 1)).toArray, []⟩,
   fun x => ⟨(fZm 55 (x 5) (fEm 1)).toArray, []⟩,
   fun x => ⟨(fZm 56 (x 6) (fEm 1)).toArray, []⟩,
   fun x => ⟨(fZm 50 (x 0) (fZm 0 (x 1) (fZm 1 (x 3) (fZm 3 (x 7) (fEm 1))))).toArray, []⟩,
   fun x => ⟨(fZm 58 (x 8) []).toArray, []⟩]
              ?hF ?mono ?h0 ?step [0, 1, 2, 3, 4, 5, 6, 7, 8, 9] (by kernel_rfl) ?fin
            case hF =>
              iterate 10 refine ⟨fun x => ⟨by kernel_rfl, by kernel_rfl⟩, ?_⟩
              trivial
            case mono =>
              intro i j hi hj hne hna hnk v W W' hE hv
              rw [HV.out] at hv ⊢
              simp only [List.length_cons, List.length_nil] at hi hj
              match i, hi with
              | 0, _ | 1, _ | 2, _ | 3, _ | 4, _ | 5, _ | 6, _ | 7, _ | 8, _ | 9, _ => exact hv
              | m + 10, h => exact absurd h (by omega)
            case h0 => intro x; exact toI HIp ⟨(fun _ => (Below.refl _ _).drew), (fun h => by cases h)⟩
            case step =>
              refine ⟨?_, ?_, ?_, ?_, ?_, ?_, ?_, ?_, ?_, ?_, trivial⟩
              all_goals
                intro x W L hI hL hV
                replace hI : ((L 8 = false → Below w3.heap.size w3 W) ∧ (L 8 = true → CabP w.heap.size g (i + 1) (16 * i + 16) W ∧ Below w.heap.size w3 W)) := ofI HIp hI
                rw [HV.out] at hV
                simp only [AllV, and_true] at hV
                dsimp only [fZm, fEm, List.reduceReplicate, List.cons_append, List.nil_append]
              iterate 3
                · clear hV
                  have HI := Lib.hid hI
                  clear hI
                  go_wp2_with fail
                  refine step3_done rfl ?_ ?_ ?_
                  · exact (toI HIp HI.out)
                  · exact (Below.refl _ _)
                  · exact (toV HV rfl)
              · have u2 := hV
                clear hV
                simp only [u2]
                clear u2
                obtain ⟨q0, q1, q2, q3, q4⟩ := blk_cells5 (XR.out.go (hI.1 (hL.2 8 (by simp))))
                have HI := Lib.hid hI
                clear hI
                go_wp2_with fail
                refine step3_done rfl ?_ ?_ ?_
                · exact (toI HIp HI.out)
                · exact (Below.refl _ _)
                · exact (toV HV rfl)
              · clear hV
                have HI := Lib.hid hI
                clear hI
                go_wp2_with fail
                refine step3_done rfl ?_ ?_ ?_
                · exact (toI HIp HI.out)
                · exact (Below.refl _ _)
                · exact (toV HV rfl)
              · have u4 := hV
                clear hV
                simp only [u4]
                clear u4
                obtain ⟨q0, q1, q2, q3, q4⟩ := blk_cells5 (XR.out.go (hI.1 (hL.2 8 (by simp))))
                have HI := Lib.hid hI
                clear hI
                go_wp2_with fail
                refine step3_done rfl ?_ ?_ ?_
                · exact (toI HIp HI.out)
                · exact (Below.refl _ _)
                · exact (toV HV rfl)
              · have u5 := hV
                clear hV
                simp only [u5]
                clear u5
                have HI := Lib.hid hI
                clear hI
                go_wp2_with fail
                refine (HC.out _).mono ?_
                rintro e w4 ⟨rfl, rfl⟩
                go_wp2_with fail
                refine step3_done rfl ?_ ?_ ?_
                · exact (toI HIp HI.out)
                · exact (Below.refl _ _)
                · exact (toV HV rfl)
              · have u6 := hV
                clear hV
                simp only [u6]
                clear u6
                have HI := Lib.hid hI
                clear hI
                go_wp2_with fail
                refine step3_done rfl ?_ ?_ ?_
                · exact (toI HIp HI.out)
                · exact (Below.refl _ _)
                · exact (toV HV rfl)
              · obtain ⟨u0, u1, u3, u7⟩ := hV
                simp only [u0, u1, u3, u7]
                clear u0 u1 u3 u7
                have hb := hI.1 (hL.2 8 (by simp))
                have HI := Lib.hid hb
                have hzW := hb.size
                have hb0 : Below w.heap.size w3 W := (Touch.of_belowC hb).toBelow (by omega) (fun z hz => by omega)
                have HB0 := Lib.hid hb0
                clear hI hb hb0
                go_wp2_with fail
                refine (Hcome.out w.heap.size g i (16 * i) S hS xb hxb (PC == 0) W (fun W' h => HGG.out _ (HB0.out.trans h)) (M3.out.go HI.out) (by omega) (by omega)).mono ?_
                rintro e W' ⟨rfl, m5, b5⟩
                have HM5 := Lib.hid (And.intro (m5.more (E' := i + 1) (by omega) (Nat.le_refl _)) (HB0.out.trans b5))
                clear m5 b5
                go_wp2_with fail
                refine step3_done rfl ?_ ?_ ?_
                · exact (toI HIp ⟨(fun h => absurd h (by simp [setB])), (fun _ => HM5.out)⟩)
                · exact trivial
                · exact (toV HV rfl)
              · have u8 := hV
                clear hV
                simp only [u8]
                clear u8
                have HI := Lib.hid hI
                clear hI
                go_wp2_with fail
                refine step3_done rfl ?_ ?_ ?_
                · exact (toI HIp HI.out)
                · exact (Below.refl _ _)
                · exact (toV HV rfl)
            case fin =>
              intro x W L hL hI hV
              replace hI : ((L 8 = false → Below w3.heap.size w3 W) ∧ (L 8 = true → CabP w.heap.size g (i + 1) (16 * i + 16) W ∧ Below w.heap.size w3 W)) := ofI HIp hI
              rw [HV.out] at hV
              simp only [AllV, and_true] at hV
              obtain ⟨u0, u1, u2, u3, u4, u5, u6, u7, u8, u9⟩ := hV
              simp only [getsD, List.getD_cons_succ, List.getD_cons_zero, List.length_cons, List.length_nil, List.range, List.range.loop, u0, u1, u2, u3, u4, u5, u6, u7, u8, u9, Act.put, List.setIfInBounds_toArray, List.set_cons_succ, List.set_cons_zero]
              clear u0 u1 u2 u3 u4 u5 u6 u7 u8 u9
              have h5 := hI.2 (hL 8 (by simp))
              have HE := Lib.hid (HEnd.out _ h5.1 h5.2)
              clear hI hL h5 M3 MR BR
              go_wp2_with fail
              case roundEnd =>
                refine ⟨⟨i + 1, by omega, by omega, rfl, by push_cast; rfl, HE.out.1, HE.out.2⟩, ?_⟩
                simp [intOf]
                omega
          · have HT : Hid (Calls Tryd.prog 27 #[.pointer (some ⟨g, 0, none⟩)] w3 fun e w' => e = .returned (.bool true) ∧ CabP w.heap.size g (i + 1) (16 * i + 16) w' ∧ Below w.heap.size w3 w') := (Htick.out w.heap.size g i (16 * i) w3 HGG.out M3.out (by omega) (by omega)).mono fun e w' h => ⟨h.1, h.2.1.more (by omega) (Nat.le_refl _), h.2.2⟩
            clear q0 q1 q2 q3 q4
            by_cases hk7 : K = 6
            · subst hk7
              obtain ⟨c, vs, mc, ho, hf0, hf1⟩ := M3.out
              obtain ⟨_, _, _, _, _, _, _, _, bM, -⟩ := mc.box
              obtain ⟨-, -, p10, p11, p12, p13, p14, p15⟩ := blk16_cells bM
              have MC := Lib.hid mc
              have HO := Lib.hid ho
              have hgw := mc.lt
              clear mc ho bM M3 MR BR
              rcases hS with rfl | rfl
              · obtain ⟨va, vn, hv, hvc, hvm, -⟩ := MC.out.o0.form
                have Hv := Lib.hid hv
                have hOw := MC.out.o0
                rw [hv] at hOw p10
                have hfm : (c.f0.length : Int) ≤ 9223372036854775807 := by unfold maxLen at hvm; omega
                by_cases hn0 : c.f0.length = 0
                · rw [hn0] at p10
                  clear hv hOw hfm
                  go_wp2_with fail
                  refine HT.out.mono ?_
                  rintro e w5 ⟨rfl, m5, b5⟩
                  have HE := Lib.hid (HEnd.out _ m5 b5)
                  clear m5 b5 MC HO p10 p11 p12 p13 p14 p15
                  go_wp2_with fail
                  case roundEnd =>
                    refine ⟨⟨i + 1, by omega, by omega, rfl, by push_cast; rfl, HE.out.1, HE.out.2⟩, ?_⟩
                    simp [intOf]
                    omega
                · obtain ⟨qg, qo, rfl⟩ : ∃ qg qo, va = some ⟨qg, qo, none⟩ := by
                    rcases MC.out.o0.row with ⟨a', hv', hl', -⟩ | ⟨q, o, cap, hv', -⟩
                    · rw [hl'] at hn0; simp at hn0
                    · rw [hv] at hv'; injection hv' with e1; exact ⟨_, _, e1⟩
                  have hpos : (0 : Int) < (c.f0.length : Int) := by omega
                  have HOw := Lib.hid hOw
                  generalize hnf : c.f0.length = nf at *
                  have Hnf := Lib.hid hnf
                  have hcn : 1 ≤ (vn : Int) := by omega
                  have hcn2 : (nf : Int) ≤ (vn : Int) := by omega
                  have hcn3 : (vn : Int) ≤ 9223372036854775807 := by unfold maxLen at hvm; omega
                  have P10 := Lib.hid p10
                  clear hv hOw hvm hnf
                  go_wp2_with fail
                  clear p10 p11 p12 p13 p14 p15
                  obtain ⟨Vp, HV⟩ : ∃ Vp : Nat → Value → World → Prop, Hid (Vp = fun i v W => match i with
                      | 0 => v = .pointer (some ⟨g, 0, none⟩)
                      | 1 => v = .int .i64 0
                      | 2 => v = .pointer (some ⟨g, 0, none⟩)
                      | 3 => v = .int .i64 0
                      | 4 => v = .pointer (some ⟨g, 0, none⟩)
                      | 5 => v = .pointer (some ⟨g, 10, none⟩)
                      | 6 => v = .pointer (some ⟨g, 10, none⟩)
                      | 7 => v = .slice (some ⟨qg, qo, none⟩) nf vn
                      | 8 => ∃ o8 c8, v = .slice (some ⟨qg, o8, none⟩) (nf - 1) c8 ∧ ∀ W', OwnO (OX w.heap.size g vs 0) w.heap.size (.slice (some ⟨qg, qo, none⟩) nf vn) c.f0 W' → OwnO (OX w.heap.size g vs 0) w.heap.size (.slice (some ⟨qg, o8, none⟩) (nf - 1) c8) (c.f0.drop 1) W'
                      | 9 => v = .pointer (some ⟨g, 0, none⟩)
                      | 10 => v = .pointer (some ⟨g, 10, none⟩)
                      | 11 => v = .pointer (some ⟨g, 10, none⟩)
                      | _ => v = undef) := ⟨_, rfl⟩
                  obtain ⟨Ip, HIp⟩ : ∃ Ip : (Nat → Bool) → (Nat → Value) → World → Prop, Hid (Ip = fun L x W => (Touch (fun z => z = g) w3 W ∧ (L 12 = false → CabM w.heap.size g c vs W) ∧ (L 12 = true → CabP w.heap.size g (i + 1) (16 * i + 16) W))) := ⟨_, rfl⟩
                  refine region_lit3 (by kernel_rfl) (by kernel_rfl) (by kernel_rfl) [[], [], [], [], [2], [2, 4], [2, 3, 4, 5], [2, 3, 4, 5, 6], [2, 3, 4, 5, 6, 7], [0], [0, 9], [0, 1, 9, 10], [0, 1, 2, 3, 4, 5, 6, 7, 8, 9, 10, 11]] (by kernel_rfl) [some 72, some 73, some 74, some 75, some 76, some 77, some 78, some 79, some 80, some 81, some 82, some 83, none] (by kernel_rfl) [[0, 9, 10, 11, 12], [1, 11, 12], [2, 4, 5, 6, 7, 8, 12], [3, 6, 7, 8, 12], [4, 5, 6, 7, 8, 12], [5, 6, 7, 8, 12], [6, 7, 8, 12], [7, 8, 12], [8, 12], [9, 10, 11, 12], [10, 11, 12], [11, 12], [12]] (by kernel_rfl) [[], [], [], [], [], [], [], [], [], [], [], [], []] [[], [], [], [], [2], [4], [3, 5], [6], [7], [0], [9], [1, 10], [8, 11]] (by kernel_rfl)
                    Ip
                    Vp
                    (fun j W W' => match j with
                      | 12 => Touch (fun z => z = g) W W'
                      | _ => Below W.heap.size W W')
                    [fun x => ⟨(fZm 4 (.pointer (some ⟨g, 0, none⟩)) (fEm 68)).toArray, []⟩,
   fun x => ⟨(fZm 8 (.int .i64 0) (fEm 65)).toArray, []⟩,
   fun x => ⟨(fZm 4 (.pointer (some ⟨g, 0, none⟩)) (fEm 70)).toArray, []⟩,
   fun x => ⟨(fZm 8 (.int .i64 0) (fEm 67)).toArray, []⟩,
   fun x => ⟨(fZm 74 (x 2) (fEm 2)).toArray, []⟩,
   fun x => ⟨(fZm 76 (x 4) (fEm 1)).toArray, []⟩,
   fun x => ⟨(fZm 75 (x 3) (fZm 1 (x 5) (fEm 1))).toArray, []⟩,
   fun x => ⟨(fZm 78 (x 6) (fEm 1)).toArray, []⟩,
   fun x => ⟨(fZm 79 (x 7) (fEm 1)).toArray, []⟩,
   fun x => ⟨(fZm 72 (x 0) (fEm 9)).toArray, []⟩,
   fun x => ⟨(fZm 81 (x 9) (fEm 1)).toArray, []⟩,
   fun x => ⟨(fZm 73 (x 1) (fZm 8 (x 10) (fEm 1))).toArray, []⟩,
   fun x => ⟨(fZm 80 (x 8) (fZm 2 (x 11) [])).toArray, []⟩]
                    ?hF ?mono ?h0 ?step [0, 1, 2, 3, 4, 5, 6, 7, 8, 9, 10, 11, 12] (by kernel_rfl) ?fin
                  case hF =>
                    iterate 13 refine ⟨fun x => ⟨by kernel_rfl, by kernel_rfl⟩, ?_⟩
                    trivial
                  case mono =>
                    intro i j hi hj hne hna hnk v W W' hE hv
                    rw [HV.out] at hv ⊢
                    simp only [List.length_cons, List.length_nil] at hi hj
                    match i, hi with
                    | 0, _ | 1, _ | 2, _ | 3, _ | 4, _ | 5, _ | 6, _ | 7, _ | 9, _ | 10, _ | 11, _ | 12, _ => exact hv
                    | 8, _ =>
                      match j, hj with
                      | 8, _ => exact absurd rfl hne
                      | 2, _ | 3, _ | 4, _ | 5, _ | 6, _ | 7, _ => exact absurd (by simp) hna
                      | 0, _ | 1, _ | 9, _ | 10, _ | 11, _ | 12, _ => exact (id hv)
                      | m + 13, h => exact absurd h (by omega)
                    | m + 13, h => exact absurd h (by omega)
                  case h0 => intro x; exact toI HIp ⟨(Touch.refl _ _).drew, (fun _ => MC.out.go (Below.refl _ _).drew), (fun h => by cases h)⟩
                  case step =>
                    refine ⟨?_, ?_, ?_, ?_, ?_, ?_, ?_, ?_, ?_, ?_, ?_, ?_, ?_, trivial⟩
                    all_goals
                      intro x W L hI hL hV
                      replace hI : (Touch (fun z => z = g) w3 W ∧ (L 12 = false → CabM w.heap.size g c vs W) ∧ (L 12 = true → CabP w.heap.size g (i + 1) (16 * i + 16) W)) := ofI HIp hI
                      rw [HV.out] at hV
                      simp only [AllV, and_true] at hV
                      dsimp only [fZm, fEm, List.reduceReplicate, List.cons_append, List.nil_append]
                    iterate 4
                      · clear hV
                        have HI := Lib.hid hI
                        clear hI
                        go_wp2_with fail
                        refine step3_done rfl ?_ ?_ ?_
                        · exact (toI HIp HI.out)
                        · exact (Below.refl _ _)
                        · exact (toV HV rfl)
                    · have u2 := hV
                      clear hV
                      simp only [u2]
                      clear u2
                      have HI := Lib.hid hI
                      clear hI
                      go_wp2_with fail
                      refine step3_done rfl ?_ ?_ ?_
                      · exact (toI HIp HI.out)
                      · exact (Below.refl _ _)
                      · exact (toV HV rfl)
                    · have u4 := hV
                      clear hV
                      simp only [u4]
                      clear u4
                      have HI := Lib.hid hI
                      clear hI
                      go_wp2_with fail
                      refine step3_done rfl ?_ ?_ ?_
                      · exact (toI HIp HI.out)
                      · exact (Below.refl _ _)
                      · exact (toV HV rfl)
                    · obtain ⟨u3, u5⟩ := hV
                      simp only [u3, u5]
                      clear u3 u5
                      have HI := Lib.hid hI
                      clear hI
                      go_wp2_with fail
                      refine step3_done rfl ?_ ?_ ?_
                      · exact (toI HIp HI.out)
                      · exact (Below.refl _ _)
                      · exact (toV HV rfl)
                    · have u6 := hV
                      clear hV
                      simp only [u6]
                      clear u6
                      have pc := (hI.2.1 (hL.2 12 (by simp)))
                      obtain ⟨_, _, _, _, _, _, _, _, bM, -⟩ := pc.box
                      obtain ⟨-, -, p10, p11, p12, p13, p14, p15⟩ := blk16_cells bM
                      rw [Hv.out] at p10
                      have HI := Lib.hid hI
                      clear hI pc bM
                      go_wp2_with fail
                      refine step3_done rfl ?_ ?_ ?_
                      · exact (toI HIp HI.out)
                      · exact (Below.refl _ _)
                      · exact (toV HV rfl)
                    · have u7 := hV
                      clear hV
                      simp only [u7]
                      clear u7
                      have HI := Lib.hid hI
                      clear hI
                      by_cases hck : 1 < vn
                      · have hck' : (1 : Int) < (vn : Int) := by omega
                        have HD := Lib.hid (fun W' (h : OwnO (OX w.heap.size g vs 0) w.heap.size (.slice (some ⟨qg, qo, none⟩) nf vn) c.f0 W') => h.drop_in (k := 1) (by omega) hck)
                        go_wp2_with fail
                        refine step3_done rfl ?_ ?_ ?_
                        · exact (toI HIp HI.out)
                        · exact (Below.refl _ _)
                        · exact (toV HV ⟨_, _, rfl, HD.out⟩)
                      · have hkq : vn = 1 := by omega
                        have hkf : nf = 1 := by omega
                        subst hkq hkf
                        have HD := Lib.hid (fun W' (h : OwnO (OX w.heap.size g vs 0) w.heap.size (.slice (some ⟨qg, qo, none⟩) 1 1) c.f0 W') => h.drop_all (k := 1) rfl)
                        go_wp2_with fail
                        refine step3_done rfl ?_ ?_ ?_
                        · exact (toI HIp HI.out)
                        · exact (Below.refl _ _)
                        · exact (toV HV ⟨_, _, rfl, HD.out⟩)
                    · have u0 := hV
                      clear hV
                      simp only [u0]
                      clear u0
                      have HI := Lib.hid hI
                      clear hI
                      go_wp2_with fail
                      refine step3_done rfl ?_ ?_ ?_
                      · exact (toI HIp HI.out)
                      · exact (Below.refl _ _)
                      · exact (toV HV rfl)
                    · have u9 := hV
                      clear hV
                      simp only [u9]
                      clear u9
                      have HI := Lib.hid hI
                      clear hI
                      go_wp2_with fail
                      refine step3_done rfl ?_ ?_ ?_
                      · exact (toI HIp HI.out)
                      · exact (Below.refl _ _)
                      · exact (toV HV rfl)
                    · obtain ⟨u1, u10⟩ := hV
                      simp only [u1, u10]
                      clear u1 u10
                      have HI := Lib.hid hI
                      clear hI
                      go_wp2_with fail
                      refine step3_done rfl ?_ ?_ ?_
                      · exact (toI HIp HI.out)
                      · exact (Below.refl _ _)
                      · exact (toV HV rfl)
                    · obtain ⟨⟨o8, c8, u8, h8⟩, u11⟩ := hV
                      simp only [u8, u11]
                      have U8 := Lib.hid u8
                      clear u8 u11
                      have hM := hI.2.1 (hL.2 12 (by simp))
                      have hOW := hM.o0
                      rw [Hv.out] at hOW
                      have hM2 : CabG w.heap.size g { c with f0 := c.f0.drop 1 } vs (fun q => if q = 0 then Value.slice (some ⟨qg, o8, none⟩) (nf - 1) c8 else vs q) W := hM.grow0 ⟨rfl, rfl, rfl, Nat.le_refl _, fun _ _ _ => rfl⟩ (h8 _ hOW) (fun z hz => .inl (by rw [Hv.out]; exact hz))
                      obtain ⟨_, _, _, _, _, _, _, _, bM, -⟩ := hM.box
                      obtain ⟨-, -, p10, p11, p12, p13, p14, p15⟩ := blk16_cells bM
                      have fW := bM.frozen
                      have hlt := bM.lt
                      have HI := Lib.hid hI
                      have HM2 := Lib.hid hM2
                      clear hI hL hM hM2 bM hOW
                      go_wp2_with fail
                      have ht := touch1 (w := W) (g := g) (i := 10) (.slice (some ⟨qg, o8, none⟩) (nf - 1) c8)
                      refine step3_done (v := undef) rfl ?_ ?_ ?_
                      · exact (toI HIp ⟨HI.out.1.trans ht, (fun h => absurd h (by simp [setB])), (fun _ => ⟨_, _, HM2.out.put ht (fun _ _ _ _ _ _ _ _ b => b.set 10 _), HO.out.tail0.more (by omega), (by show (c.f0.drop 1).length ≤ _; rw [List.length_drop, Hnf.out]; omega), (by show c.f1.length ≤ _; omega)⟩)⟩)
                      · exact ht
                      · exact (toV HV rfl)
                  case fin =>
                    intro x W L hL hI hV
                    replace hI : (Touch (fun z => z = g) w3 W ∧ (L 12 = false → CabM w.heap.size g c vs W) ∧ (L 12 = true → CabP w.heap.size g (i + 1) (16 * i + 16) W)) := ofI HIp hI
                    rw [HV.out] at hV
                    simp only [AllV, and_true] at hV
                    obtain ⟨u0, u1, u2, u3, u4, u5, u6, u7, ⟨o8, c8, u8, h8⟩, u9, u10, u11, u12⟩ := hV
                    simp only [getsD, List.getD_cons_succ, List.getD_cons_zero, List.length_cons, List.length_nil, List.range, List.range.loop, u0, u1, u2, u3, u4, u5, u6, u7, u8, u9, u10, u11, u12, Act.put, List.setIfInBounds_toArray, List.set_cons_succ, List.set_cons_zero]
                    clear u0 u1 u2 u3 u4 u5 u6 u7 u8 u9 u10 u11 u12
                    have h5 := hI.2.2 (hL 12 (by simp))
                    have HE := Lib.hid (HEnd.out _ h5 (hI.1.toBelow (by omega) (fun z hz => by omega)))
                    clear hI hL h5 MC HO
                    go_wp2_with fail
                    case roundEnd =>
                      refine ⟨⟨i + 1, by omega, by omega, rfl, by push_cast; rfl, HE.out.1, HE.out.2⟩, ?_⟩
                      simp [intOf]
                      omega
              · obtain ⟨va, vn, hv, hvc, hvm, -⟩ := MC.out.o1.form
                have Hv := Lib.hid hv
                have hOw := MC.out.o1
                rw [hv] at hOw p11
                have hfm : (c.f1.length : Int) ≤ 9223372036854775807 := by unfold maxLen at hvm; omega
                by_cases hn0 : c.f1.length = 0
                · rw [hn0] at p11
                  clear hv hOw hfm
                  go_wp2_with fail
                  refine HT.out.mono ?_
                  rintro e w5 ⟨rfl, m5, b5⟩
                  have HE := Lib.hid (HEnd.out _ m5 b5)
                  clear m5 b5 MC HO p10 p11 p12 p13 p14 p15
                  go_wp2_with fail
                  case roundEnd =>
                    refine ⟨⟨i + 1, by omega, by omega, rfl, by push_cast; rfl, HE.out.1, HE.out.2⟩, ?_⟩
                    simp [intOf]
                    omega
                · obtain ⟨qg, qo, rfl⟩ : ∃ qg qo, va = some ⟨qg, qo, none⟩ := by
                    rcases MC.out.o1.row with ⟨a', hv', hl', -⟩ | ⟨q, o, cap, hv', -⟩
                    · rw [hl'] at hn0; simp at hn0
                    · rw [hv] at hv'; injection hv' with e1; exact ⟨_, _, e1⟩
                  have hpos : (0 : Int) < (c.f1.length : Int) := by omega
                  have HOw := Lib.hid hOw
                  generalize hnf : c.f1.length = nf at *
                  have Hnf := Lib.hid hnf
                  have hcn : 1 ≤ (vn : Int) := by omega
                  have hcn2 : (nf : Int) ≤ (vn : Int) := by omega
                  have hcn3 : (vn : Int) ≤ 9223372036854775807 := by unfold maxLen at hvm; omega
                  have P11 := Lib.hid p11
                  clear hv hOw hvm hnf
                  go_wp2_with fail
                  clear p10 p11 p12 p13 p14 p15
                  obtain ⟨Vp, HV⟩ : ∃ Vp : Nat → Value → World → Prop, Hid (Vp = fun i v W => match i with
                      | 0 => v = .pointer (some ⟨g, 0, none⟩)
                      | 1 => v = .int .i64 1
                      | 2 => v = .pointer (some ⟨g, 0, none⟩)
                      | 3 => v = .int .i64 1
                      | 4 => v = .pointer (some ⟨g, 0, none⟩)
                      | 5 => v = .pointer (some ⟨g, 10, none⟩)
                      | 6 => v = .pointer (some ⟨g, 11, none⟩)
                      | 7 => v = .slice (some ⟨qg, qo, none⟩) nf vn
                      | 8 => ∃ o8 c8, v = .slice (some ⟨qg, o8, none⟩) (nf - 1) c8 ∧ ∀ W', OwnO (OX w.heap.size g vs 1) w.heap.size (.slice (some ⟨qg, qo, none⟩) nf vn) c.f1 W' → OwnO (OX w.heap.size g vs 1) w.heap.size (.slice (some ⟨qg, o8, none⟩) (nf - 1) c8) (c.f1.drop 1) W'
                      | 9 => v = .pointer (some ⟨g, 0, none⟩)
                      | 10 => v = .pointer (some ⟨g, 10, none⟩)
                      | 11 => v = .pointer (some ⟨g, 11, none⟩)
                      | _ => v = undef) := ⟨_, rfl⟩
                  obtain ⟨Ip, HIp⟩ : ∃ Ip : (Nat → Bool) → (Nat → Value) → World → Prop, Hid (Ip = fun L x W => (Touch (fun z => z = g) w3 W ∧ (L 12 = false → CabM w.heap.size g c vs W) ∧ (L 12 = true → CabP w.heap.size g (i + 1) (16 * i + 16) W))) := ⟨_, rfl⟩
                  refine region_lit3 (by kernel_rfl) (by kernel_rfl) (by kernel_rfl) [[], [], [], [], [2], [2, 4], [2, 3, 4, 5], [2, 3, 4, 5, 6], [2, 3, 4, 5, 6, 7], [0], [0, 9], [0, 1, 9, 10], [0, 1, 2, 3, 4, 5, 6, 7, 8, 9, 10, 11]] (by kernel_rfl) [some 72, some 73, some 74, some 75, some 76, some 77, some 78, some 79, some 80, some 81, some 82, some 83, none] (by kernel_rfl) [[0, 9, 10, 11, 12], [1, 11, 12], [2, 4, 5, 6, 7, 8, 12], [3, 6, 7, 8, 12], [4, 5, 6, 7, 8, 12], [5, 6, 7, 8, 12], [6, 7, 8, 12], [7, 8, 12], [8, 12], [9, 10, 11, 12], [10, 11, 12], [11, 12], [12]] (by kernel_rfl) [[], [], [], [], [], [], [], [], [], [], [], [], []] [[], [], [], [], [2], [4], [3, 5], [6], [7], [0], [9], [1, 10], [8, 11]] (by kernel_rfl)
                    Ip
                    Vp
                    (fun j W W' => match j with
                      | 12 => Touch (fun z => z = g) W W'
                      | _ => Below W.heap.size W W')
                    [fun x => ⟨(fZm 4 (.pointer (some ⟨g, 0, none⟩)) (fEm 68)).toArray, []⟩,
   fun x => ⟨(fZm 8 (.int .i64 1) (fEm 65)).toArray, []⟩,
   fun x => ⟨(fZm 4 (.pointer (some ⟨g, 0, none⟩)) (fEm 70)).toArray, []⟩,
   fun x => ⟨(fZm 8 (.int .i64 1) (fEm 67)).toArray, []⟩,
   fun x => ⟨(fZm 74 (x 2) (fEm 2)).toArray, []⟩,
   fun x => ⟨(fZm 76 (x 4) (fEm 1)).toArray, []⟩,
   fun x => ⟨(fZm 75 (x 3) (fZm 1 (x 5) (fEm 1))).toArray, []⟩,
   fun x => ⟨(fZm 78 (x 6) (fEm 1)).toArray, []⟩,
   fun x => ⟨(fZm 79 (x 7) (fEm 1)).toArray, []⟩,
   fun x => ⟨(fZm 72 (x 0) (fEm 9)).toArray, []⟩,
   fun x => ⟨(fZm 81 (x 9) (fEm 1)).toArray, []⟩,
   fun x => ⟨(fZm 73 (x 1) (fZm 8 (x 10) (fEm 1))).toArray, []⟩,
   fun x => ⟨(fZm 80 (x 8) (fZm 2 (x 11) [])).toArray, []⟩]
                    ?hF ?mono ?h0 ?step [0, 1, 2, 3, 4, 5, 6, 7, 8, 9, 10, 11, 12] (by kernel_rfl) ?fin
                  case hF =>
                    iterate 13 refine ⟨fun x => ⟨by kernel_rfl, by kernel_rfl⟩, ?_⟩
                    trivial
                  case mono =>
                    intro i j hi hj hne hna hnk v W W' hE hv
                    rw [HV.out] at hv ⊢
                    simp only [List.length_cons, List.length_nil] at hi hj
                    match i, hi with
                    | 0, _ | 1, _ | 2, _ | 3, _ | 4, _ | 5, _ | 6, _ | 7, _ | 9, _ | 10, _ | 11, _ | 12, _ => exact hv
                    | 8, _ =>
                      match j, hj with
                      | 8, _ => exact absurd rfl hne
                      | 2, _ | 3, _ | 4, _ | 5, _ | 6, _ | 7, _ => exact absurd (by simp) hna
                      | 0, _ | 1, _ | 9, _ | 10, _ | 11, _ | 12, _ => exact (id hv)
                      | m + 13, h => exact absurd h (by omega)
                    | m + 13, h => exact absurd h (by omega)
                  case h0 => intro x; exact toI HIp ⟨(Touch.refl _ _).drew, (fun _ => MC.out.go (Below.refl _ _).drew), (fun h => by cases h)⟩
                  case step =>
                    refine ⟨?_, ?_, ?_, ?_, ?_, ?_, ?_, ?_, ?_, ?_, ?_, ?_, ?_, trivial⟩
                    all_goals
                      intro x W L hI hL hV
                      replace hI : (Touch (fun z => z = g) w3 W ∧ (L 12 = false → CabM w.heap.size g c vs W) ∧ (L 12 = true → CabP w.heap.size g (i + 1) (16 * i + 16) W)) := ofI HIp hI
                      rw [HV.out] at hV
                      simp only [AllV, and_true] at hV
                      dsimp only [fZm, fEm, List.reduceReplicate, List.cons_append, List.nil_append]
                    iterate 4
                      · clear hV
                        have HI := Lib.hid hI
                        clear hI
                        go_wp2_with fail
                        refine step3_done rfl ?_ ?_ ?_
                        · exact (toI HIp HI.out)
                        · exact (Below.refl _ _)
                        · exact (toV HV rfl)
                    · have u2 := hV
                      clear hV
                      simp only [u2]
                      clear u2
                      have HI := Lib.hid hI
                      clear hI
                      go_wp2_with fail
                      refine step3_done rfl ?_ ?_ ?_
                      · exact (toI HIp HI.out)
                      · exact (Below.refl _ _)
                      · exact (toV HV rfl)
                    · have u4 := hV
                      clear hV
                      simp only [u4]
                      clear u4
                      have HI := Lib.hid hI
                      clear hI
                      go_wp2_with fail
                      refine step3_done rfl ?_ ?_ ?_
                      · exact (toI HIp HI.out)
                      · exact (Below.refl _ _)
                      · exact (toV HV rfl)
                    · obtain ⟨u3, u5⟩ := hV
                      simp only [u3, u5]
                      clear u3 u5
                      have HI := Lib.hid hI
                      clear hI
                      go_wp2_with fail
                      refine step3_done rfl ?_ ?_ ?_
                      · exact (toI HIp HI.out)
                      · exact (Below.refl _ _)
                      · exact (toV HV rfl)
                    · have u6 := hV
                      clear hV
                      simp only [u6]
                      clear u6
                      have pc := (hI.2.1 (hL.2 12 (by simp)))
                      obtain ⟨_, _, _, _, _, _, _, _, bM, -⟩ := pc.box
                      obtain ⟨-, -, p10, p11, p12, p13, p14, p15⟩ := blk16_cells bM
                      rw [Hv.out] at p11
                      have HI := Lib.hid hI
                      clear hI pc bM
                      go_wp2_with fail
                      refine step3_done rfl ?_ ?_ ?_
                      · exact (toI HIp HI.out)
                      · exact (Below.refl _ _)
                      · exact (toV HV rfl)
                    · have u7 := hV
                      clear hV
                      simp only [u7]
                      clear u7
                      have HI := Lib.hid hI
                      clear hI
                      by_cases hck : 1 < vn
                      · have hck' : (1 : Int) < (vn : Int) := by omega
                        have HD := Lib.hid (fun W' (h : OwnO (OX w.heap.size g vs 1) w.heap.size (.slice (some ⟨qg, qo, none⟩) nf vn) c.f1 W') => h.drop_in (k := 1) (by omega) hck)
                        go_wp2_with fail
                        refine step3_done rfl ?_ ?_ ?_
                        · exact (toI HIp HI.out)
                        · exact (Below.refl _ _)
                        · exact (toV HV ⟨_, _, rfl, HD.out⟩)
                      · have hkq : vn = 1 := by omega
                        have hkf : nf = 1 := by omega
                        subst hkq hkf
                        have HD := Lib.hid (fun W' (h : OwnO (OX w.heap.size g vs 1) w.heap.size (.slice (some ⟨qg, qo, none⟩) 1 1) c.f1 W') => h.drop_all (k := 1) rfl)
                        go_wp2_with fail
                        refine step3_done rfl ?_ ?_ ?_
                        · exact (toI HIp HI.out)
                        · exact (Below.refl _ _)
                        · exact (toV HV ⟨_, _, rfl, HD.out⟩)
                    · have u0 := hV
                      clear hV
                      simp only [u0]
                      clear u0
                      have HI := Lib.hid hI
                      clear hI
                      go_wp2_with fail
                      refine step3_done rfl ?_ ?_ ?_
                      · exact (toI HIp HI.out)
                      · exact (Below.refl _ _)
                      · exact (toV HV rfl)
                    · have u9 := hV
                      clear hV
                      simp only [u9]
                      clear u9
                      have HI := Lib.hid hI
                      clear hI
                      go_wp2_with fail
                      refine step3_done rfl ?_ ?_ ?_
                      · exact (toI HIp HI.out)
                      · exact (Below.refl _ _)
                      · exact (toV HV rfl)
                    · obtain ⟨u1, u10⟩ := hV
                      simp only [u1, u10]
                      clear u1 u10
                      have HI := Lib.hid hI
                      clear hI
                      go_wp2_with fail
                      refine step3_done rfl ?_ ?_ ?_
                      · exact (toI HIp HI.out)
                      · exact (Below.refl _ _)
                      · exact (toV HV rfl)
                    · obtain ⟨⟨o8, c8, u8, h8⟩, u11⟩ := hV
                      simp only [u8, u11]
                      have U8 := Lib.hid u8
                      clear u8 u11
                      have hM := hI.2.1 (hL.2 12 (by simp))
                      have hOW := hM.o1
                      rw [Hv.out] at hOW
                      have hM2 : CabG w.heap.size g { c with f1 := c.f1.drop 1 } vs (fun q => if q = 1 then Value.slice (some ⟨qg, o8, none⟩) (nf - 1) c8 else vs q) W := hM.grow1 ⟨rfl, rfl, rfl, Nat.le_refl _, fun _ _ _ => rfl⟩ (h8 _ hOW) (fun z hz => .inl (by rw [Hv.out]; exact hz))
                      obtain ⟨_, _, _, _, _, _, _, _, bM, -⟩ := hM.box
                      obtain ⟨-, -, p10, p11, p12, p13, p14, p15⟩ := blk16_cells bM
                      have fW := bM.frozen
                      have hlt := bM.lt
                      have HI := Lib.hid hI
                      have HM2 := Lib.hid hM2
                      clear hI hL hM hM2 bM hOW
                      go_wp2_with fail
                      have ht := touch1 (w := W) (g := g) (i := 11) (.slice (some ⟨qg, o8, none⟩) (nf - 1) c8)
                      refine step3_done (v := undef) rfl ?_ ?_ ?_
                      · exact (toI HIp ⟨HI.out.1.trans ht, (fun h => absurd h (by simp [setB])), (fun _ => ⟨_, _, HM2.out.put ht (fun _ _ _ _ _ _ _ _ b => b.set 11 _), HO.out.tail1.more (by omega), (by show c.f0.length ≤ _; omega), (by show (c.f1.drop 1).length ≤ _; rw [List.length_drop, Hnf.out]; omega)⟩)⟩)
                      · exact ht
                      · exact (toV HV rfl)
                  case fin =>
                    intro x W L hL hI hV
                    replace hI : (Touch (fun z => z = g) w3 W ∧ (L 12 = false → CabM w.heap.size g c vs W) ∧ (L 12 = true → CabP w.heap.size g (i + 1) (16 * i + 16) W)) := ofI HIp hI
                    rw [HV.out] at hV
                    simp only [AllV, and_true] at hV
                    obtain ⟨u0, u1, u2, u3, u4, u5, u6, u7, ⟨o8, c8, u8, h8⟩, u9, u10, u11, u12⟩ := hV
                    simp only [getsD, List.getD_cons_succ, List.getD_cons_zero, List.length_cons, List.length_nil, List.range, List.range.loop, u0, u1, u2, u3, u4, u5, u6, u7, u8, u9, u10, u11, u12, Act.put, List.setIfInBounds_toArray, List.set_cons_succ, List.set_cons_zero]
                    clear u0 u1 u2 u3 u4 u5 u6 u7 u8 u9 u10 u11 u12
                    have h5 := hI.2.2 (hL 12 (by simp))
                    have HE := Lib.hid (HEnd.out _ h5 (hI.1.toBelow (by omega) (fun z hz => by omega)))
                    clear hI hL h5 MC HO
                    go_wp2_with fail
                    case roundEnd =>
                      refine ⟨⟨i + 1, by omega, by omega, rfl, by push_cast; rfl, HE.out.1, HE.out.2⟩, ?_⟩
                      simp [intOf]
                      omega
            · have hb6 : (K == 6) = false := by simp; omega
              go_wp2_with fail
              refine HT.out.mono ?_
              rintro e w5 ⟨rfl, m5, b5⟩
              have HE := Lib.hid (HEnd.out _ m5 b5)
              clear m5 b5 M3 MR BR
              go_wp2_with fail
              case roundEnd =>
                refine ⟨⟨i + 1, by omega, by omega, rfl, by push_cast; rfl, HE.out.1, HE.out.2⟩, ?_⟩
                simp [intOf]
                omega
      · have h40' : ¬ ((i : Int) < 40) := by omega
        have hi4 : i = 40 := by omega
        subst hi4
        go_wp2_with fail
        go_ret2
        exact ⟨g, rfl, MR.out.more (by omega) (by omega), BR.out⟩
    · have hlt' : ¬ ((i : Int) < (n : Int)) := by omega
      go_wp2_with fail
      go_ret2
      exact ⟨g, rfl, MR.out.more (by omega) (by omega), BR.out⟩
end Go.Proofs.YtkhacogeffidoaaDoor
