/- The walk of (*cable).tick (printed by gen_cab.py). -/
import Derived.Test.YtkhacogeffidoaaDoorCabOff
import Derived.Test.YtkhacogeffidoaaDoorLkTick
set_option linter.unusedVariables false
set_option linter.unusedSimpArgs false
namespace Go.Proofs.YtkhacogeffidoaaDoor
open Go.RowKit

set_option maxRecDepth 100000 in
set_option maxHeartbeats 8000000 in
theorem cab_tick (base g : Nat) (c : Cb) (vs : Nat → Value) (w : World) (hG : ∀ W, Below base w W → Good W) (h : CabM base g c vs w) (k0' : c.e0.check = 0) (k1' : c.e1.check = 0) (l0 : c.e0.fits) (l1 : c.e1.fits) (t0 : 0 < c.e0.tickP.length ∧ c.e0.tickP.length ≤ 1000) (t1 : 0 < c.e1.tickP.length ∧ c.e1.tickP.length ≤ 1000) (hj0 : c.f0.length ≤ 1000000) (hj1 : c.f1.length ≤ 1000000) :
    Calls Tryd.prog 27 #[.pointer (some ⟨g, 0, none⟩)] w fun e w' => e = .returned (.bool true) ∧ (∃ vs', CabM base g { c with f1 := c.f1 ++ c.e0.tickP, f0 := c.f0 ++ c.e1.tickP } vs' w') ∧ Below base w w' := by
  have HT0 := Lib.hid (fun a b cc d W hW hr hq => tick_any c.e0 a b c.e0.sent.length cc c.e0.queue.length d W hW hr hq l0)
  have HT1 := Lib.hid (fun a b cc d W hW hr hq => tick_any c.e1 a b c.e1.sent.length cc c.e1.queue.length d W hW hr hq l1)
  unfold PksP at HT0 HT1
  rw [k0'] at HT0
  rw [k1'] at HT1
  have Hg := Lib.hid hG
  have HM := Lib.hid h
  have hgb := h.gb
  have hgw := h.lt
  obtain ⟨k0, gi, gz0, gz1, gz2⟩ := info_parts infoPk
  have Gi := Lib.hid gi
  have Gz0 := Lib.hid gz0
  have Gz1 := Lib.hid gz1
  have Gz2 := Lib.hid gz2
  clear hG h k0' k1' l0 l1 gi gz0 gz1 gz2
  generalize hp0 : c.e0.tickP = ps0 at *
  generalize hp1 : c.e1.tickP = ps1 at *
  clear hp0 hp1
  obtain ⟨C, hC⟩ : ∃ C : Nat → Cb, C = fun i => if i = 0 then c else if i = 1 then { c with f1 := c.f1 ++ ps0 } else { c with f1 := c.f1 ++ ps0, f0 := c.f0 ++ ps1 } := ⟨_, rfl⟩
  have HC0 : Hid (C 0 = c) := by rw [hC]; rfl
  have HC1 : Hid (C 1 = { c with f1 := c.f1 ++ ps0 }) := by rw [hC]; rfl
  have HC2 : Hid (C 2 = { c with f1 := c.f1 ++ ps0, f0 := c.f0 ++ ps1 }) := by rw [hC]; rfl
  clear hC
  go_enter Tryd.func27, Tryd.ntmps27
  go_wp2_with fail
  go_loopw [6] (fun vi wr => ∃ (i : Nat) (vs' : Nat → Value), i ≤ 2 ∧ vi = .int .i64 (i : Int) ∧ CabM base g (C i) vs' wr ∧ Below base w wr) (fun vi _ => 2 - (intOf vi).toNat)
  case atStart => exact ⟨0, vs, by omega, rfl, by rw [HC0.out]; exact HM.out, Below.refl _ _⟩
  case round =>
    obtain ⟨i, us, hi, rfl, m4, b4⟩ := hrel
    have M4 := Lib.hid m4
    have B4 := Lib.hid b4
    have hwz := b4.size
    clear m4 b4
    have hi3 : i = 0 ∨ i = 1 ∨ i = 2 := by omega
    rcases hi3 with rfl | rfl | rfl
    · rw [HC0.out] at M4
      obtain ⟨a0, c0, b0, d0, a1, c1, b1, d1, bx, r0, r1, r2, r3⟩ := M4.out.box
      obtain ⟨⟨p0, p1, p2, p3, p4⟩, ⟨p5, p6, p7, p8, p9⟩, -⟩ := blk16_cells bx
      have RS := Lib.hid (r0.mono fun z hz => ⟨hz.2.1, rfl⟩ : RdS (· < wr.heap.size) wr c.e0.sent a0 c.e0.sent.length c0)
      have RQ := Lib.hid (r1.mono fun z hz => ⟨hz.2.1, rfl⟩ : RdS (· < wr.heap.size) wr c.e0.queue b0 c.e0.queue.length d0)
      have hgr := bx.lt
      clear bx r0 r1 r2 r3
      go_wp2_with fail
      refine (HT0.out _ _ _ _ _ (Hg.out _ B4.out) RS.out RQ.out).mono ?_
      rintro e w5 ⟨pa, pc, rfl, rp, b5⟩
      have RP := Lib.hid (rp : RdS (Fresh wr.heap.size w5) w5 ps0 pa ps0.length pc)
      have M5 := Lib.hid (M4.out.go b5)
      have hz45 := b5.size
      have Hr : Hid (∀ q, q < 6 → ∀ z, (us q).ownBlock = some z → z < wr.heap.size) := fun q hq z hz => by
        match q, hq with
        | 0, _ => exact (M4.out.o0.rowlt z hz).2
        | 1, _ => exact (M4.out.o1.rowlt z hz).2
        | 2, _ => exact (M4.out.o2.rowlt z hz).2
        | 3, _ => exact (M4.out.o3.rowlt z hz).2
        | 4, _ => exact (M4.out.o4.rowlt z hz).2
        | 5, _ => exact (M4.out.o5.rowlt z hz).2
        | q + 6, h => omega
      have hrb : ∀ z, (us 1).ownBlock = some z → base ≤ z := fun z hz => (M4.out.o1.rowlt z hz).1
      have Hrb := Lib.hid hrb
      have B5 : Hid (Below base w w5) := B4.out.trans ((Touch.of_below (S := fun _ => False) b5).toBelow (by omega) (fun k hk => hk.elim))
      clear rp b5 M4 B4 RS RQ hrb p0 p1 p2 p3 p4 p5 p6 p7 p8 p9
      go_wp2_with fail
      obtain ⟨va, vn, hvj, hvc, hvm, -⟩ := M5.out.o1.form
      have Hvj := Lib.hid hvj
      have hvn : va = none → vn = 0 := by
        intro e
        rcases M5.out.o1.row with ⟨a', hv, -, -⟩ | ⟨q, o, cap, hv, -⟩
        · rw [hvj] at hv; injection hv
        · rw [hvj] at hv; injection hv with e1; rw [e] at e1; cases e1
      clear hvj
      obtain ⟨Vp, HV⟩ : ∃ Vp : Nat → Value → World → Prop, Hid (Vp = fun i v W => match i with
          | 0 => v = .pointer (some ⟨g, 0, none⟩)
          | 1 => v = .int .i64 0
          | 2 => v = .int .i64 1
          | 3 => v = .pointer (some ⟨g, 0, none⟩)
          | 4 => v = .int .i64 0
          | 5 => v = .int .i64 1
          | 6 => v = .pointer (some ⟨g, 0, none⟩)
          | 7 => v = .pointer (some ⟨g, 10, none⟩)
          | 8 => v = .pointer (some ⟨g, 11, none⟩)
          | 9 => v = us 1
          | 10 => v = .slice pa ps0.length pc
          | 11 => ∃ a n c, v = .slice a n c
          | 12 => v = .pointer (some ⟨g, 0, none⟩)
          | 13 => v = .pointer (some ⟨g, 10, none⟩)
          | 14 => v = .pointer (some ⟨g, 11, none⟩)
          | _ => v = undef) := ⟨_, rfl⟩
      obtain ⟨Ip, HIp⟩ : ∃ Ip : (Nat → Bool) → (Nat → Value) → World → Prop, Hid (Ip = fun L x W => (Touch (fun z => z = g ∨ (us 1).ownBlock = some z) w5 W ∧ (L 11 = false → CabM base g c us W) ∧ (L 11 = true → L 15 = false → CabG base g { c with f1 := c.f1 ++ ps0 } us (fun q => if q = 1 then x 11 else us q) W) ∧ (L 15 = true → ∃ vs', CabM base g { c with f1 := c.f1 ++ ps0 } vs' W))) := ⟨_, rfl⟩
      refine region_lit3 (by kernel_rfl) (by kernel_rfl) (by kernel_rfl) [[], [], [1], [], [], [4], [3], [3, 6], [3, 4, 5, 6, 7], [3, 4, 5, 6, 7, 8], [], [3, 4, 5, 6, 7, 8, 9, 10], [0], [0, 12], [0, 1, 2, 12, 13], [0, 1, 2, 3, 4, 5, 6, 7, 8, 9, 10, 11, 12, 13, 14]] (by kernel_rfl) [some 19, some 20, some 21, some 22, some 23, some 24, some 25, some 26, some 27, some 28, some 29, some 30, some 31, some 32, some 33, none] (by kernel_rfl) [[0, 12, 13, 14, 15], [1, 2, 14, 15], [2, 14, 15], [3, 6, 7, 8, 9, 11, 15], [4, 5, 8, 9, 11, 15], [5, 8, 9, 11, 15], [6, 7, 8, 9, 11, 15], [7, 8, 9, 11, 15], [8, 9, 11, 15], [9, 11, 15], [10, 11, 15], [11, 15], [12, 13, 14, 15], [13, 14, 15], [14, 15], [15]] (by kernel_rfl) [[], [], [], [], [], [], [], [], [], [], [], [], [], [], [], []] [[], [], [1], [], [], [4], [3], [6], [5, 7], [8], [], [9, 10], [0], [12], [2, 13], [11, 14]] (by kernel_rfl)
        Ip
        Vp
        (fun j W W' => match j with
          | 11 => W.grownBy W' (us 1).ownBlock
          | 15 => Touch (fun z => z = g) W W'
          | _ => Below W.heap.size W W')
        [fun x => ⟨(fZm 0 (.pointer (some ⟨g, 0, none⟩)) (fEm 19)).toArray, []⟩,
   fun x => ⟨(fZm 3 (.int .i64 0) (fEm 17)).toArray, []⟩,
   fun x => ⟨(fZm 20 (x 1) (fEm 1)).toArray, []⟩,
   fun x => ⟨(fZm 0 (.pointer (some ⟨g, 0, none⟩)) (fEm 22)).toArray, []⟩,
   fun x => ⟨(fZm 3 (.int .i64 0) (fEm 20)).toArray, []⟩,
   fun x => ⟨(fZm 23 (x 4) (fEm 1)).toArray, []⟩,
   fun x => ⟨(fZm 22 (x 3) (fEm 3)).toArray, []⟩,
   fun x => ⟨(fZm 25 (x 6) (fEm 1)).toArray, []⟩,
   fun x => ⟨(fZm 24 (x 5) (fZm 1 (x 7) (fEm 1))).toArray, []⟩,
   fun x => ⟨(fZm 27 (x 8) (fEm 1)).toArray, []⟩,
   fun x => ⟨(fZm 4 (.slice pa ps0.length pc) (fEm 25)).toArray, []⟩,
   fun x => ⟨(fZm 28 (x 9) (fZm 0 (x 10) (fEm 1))).toArray, []⟩,
   fun x => ⟨(fZm 19 (x 0) (fEm 12)).toArray, []⟩,
   fun x => ⟨(fZm 31 (x 12) (fEm 1)).toArray, []⟩,
   fun x => ⟨(fZm 21 (x 2) (fZm 10 (x 13) (fEm 1))).toArray, []⟩,
   fun x => ⟨(fZm 30 (x 11) (fZm 2 (x 14) [])).toArray, []⟩]
        ?hF ?mono ?h0 ?step [0, 1, 2, 3, 4, 5, 6, 7, 8, 9, 10, 11, 12, 13, 14, 15] (by kernel_rfl) ?fin
      case hF =>
        iterate 16 refine ⟨fun x => ⟨by kernel_rfl, by kernel_rfl⟩, ?_⟩
        trivial
      case mono =>
        intro i j hi hj hne hna hnk v W W' hE hv
        rw [HV.out] at hv ⊢
        simp only [List.length_cons, List.length_nil] at hi hj
        match i, hi with
        | 0, _ | 1, _ | 2, _ | 3, _ | 4, _ | 5, _ | 6, _ | 7, _ | 8, _ | 9, _ | 10, _ | 12, _ | 13, _ | 14, _ | 15, _ => exact hv
        | 11, _ =>
          match j, hj with
          | 11, _ => exact absurd rfl hne
          | 3, _ | 4, _ | 5, _ | 6, _ | 7, _ | 8, _ | 9, _ | 10, _ => exact absurd (by simp) hna
          | 0, _ | 1, _ | 2, _ | 12, _ | 13, _ | 14, _ | 15, _ => exact (id hv)
          | m + 16, h => exact absurd h (by omega)
        | m + 16, h => exact absurd h (by omega)
      case h0 => intro x; exact toI HIp ⟨(Touch.refl _ _).drew, (fun _ => M5.out.go (Below.refl _ _).drew), (fun h => by cases h), (fun h => by cases h)⟩
      case step =>
        refine ⟨?_, ?_, ?_, ?_, ?_, ?_, ?_, ?_, ?_, ?_, ?_, ?_, ?_, ?_, ?_, ?_, trivial⟩
        all_goals
          intro x W L hI hL hV
          replace hI : (Touch (fun z => z = g ∨ (us 1).ownBlock = some z) w5 W ∧ (L 11 = false → CabM base g c us W) ∧ (L 11 = true → L 15 = false → CabG base g { c with f1 := c.f1 ++ ps0 } us (fun q => if q = 1 then x 11 else us q) W) ∧ (L 15 = true → ∃ vs', CabM base g { c with f1 := c.f1 ++ ps0 } vs' W)) := ofI HIp hI
          rw [HV.out] at hV
          simp only [AllV, and_true] at hV
          dsimp only [fZm, fEm, List.reduceReplicate, List.cons_append, List.nil_append]
        · clear hV
          have HI := Lib.hid hI
          clear hI
          go_wp2_with fail
          refine step3_done rfl ?_ ?_ ?_
          · exact (toI HIp HI.out)
          · exact (Below.refl _ _)
          · exact (toV HV rfl)
        · clear hV
          have HI := Lib.hid hI
          clear hI
          go_wp2_with fail
          refine step3_done rfl ?_ ?_ ?_
          · exact (toI HIp HI.out)
          · exact (Below.refl _ _)
          · exact (toV HV rfl)
        · have u1 := hV
          clear hV
          simp only [u1]
          clear u1
          have HI := Lib.hid hI
          clear hI
          go_wp2_with fail
          refine step3_done rfl ?_ ?_ ?_
          · exact (toI HIp HI.out)
          · exact (Below.refl _ _)
          · exact (toV HV rfl)
        · clear hV
          have HI := Lib.hid hI
          clear hI
          go_wp2_with fail
          refine step3_done rfl ?_ ?_ ?_
          · exact (toI HIp HI.out)
          · exact (Below.refl _ _)
          · exact (toV HV rfl)
        · clear hV
          have HI := Lib.hid hI
          clear hI
          go_wp2_with fail
          refine step3_done rfl ?_ ?_ ?_
          · exact (toI HIp HI.out)
          · exact (Below.refl _ _)
          · exact (toV HV rfl)
        · have u4 := hV
          clear hV
          simp only [u4]
          clear u4
          have HI := Lib.hid hI
          clear hI
          go_wp2_with fail
          refine step3_done rfl ?_ ?_ ?_
          · exact (toI HIp HI.out)
          · exact (Below.refl _ _)
          · exact (toV HV rfl)
        · have u3 := hV
          clear hV
          simp only [u3]
          clear u3
          have HI := Lib.hid hI
          clear hI
          go_wp2_with fail
          refine step3_done rfl ?_ ?_ ?_
          · exact (toI HIp HI.out)
          · exact (Below.refl _ _)
          · exact (toV HV rfl)
        · have u6 := hV
          clear hV
          simp only [u6]
          clear u6
          have HI := Lib.hid hI
          clear hI
          go_wp2_with fail
          refine step3_done rfl ?_ ?_ ?_
          · exact (toI HIp HI.out)
          · exact (Below.refl _ _)
          · exact (toV HV rfl)
        · obtain ⟨u5, u7⟩ := hV
          simp only [u5, u7]
          clear u5 u7
          have HI := Lib.hid hI
          clear hI
          go_wp2_with fail
          refine step3_done rfl ?_ ?_ ?_
          · exact (toI HIp HI.out)
          · exact (Below.refl _ _)
          · exact (toV HV rfl)
        · have u8 := hV
          clear hV
          simp only [u8]
          clear u8
          obtain ⟨_, _, _, _, _, _, _, _, bM, -⟩ := (hI.2.1 (hL.2 11 (by simp))).box
          obtain ⟨-, -, p10, p11, p12, p13, p14, p15⟩ := blk16_cells bM
          have HI := Lib.hid hI
          clear hI bM
          go_wp2_with fail
          refine step3_done rfl ?_ ?_ ?_
          · exact (toI HIp HI.out)
          · exact (Below.refl _ _)
          · exact (toV HV rfl)
        · clear hV
          have HI := Lib.hid hI
          clear hI
          go_wp2_with fail
          refine step3_done rfl ?_ ?_ ?_
          · exact (toI HIp HI.out)
          · exact (Below.refl _ _)
          · exact (toV HV rfl)
        · obtain ⟨u9, u10⟩ := hV
          simp only [u9, u10]
          clear u9 u10
          have hM := hI.2.1 (hL.2 11 (by simp))
          have HL := Lib.hid hL
          have HI := Lib.hid hI
          have HM11 := Lib.hid hM
          have hz6 := hI.1.size
          have hbW : base ≤ W.heap.size := by omega
          by_cases hps0 : ps0.length = 0
          · have Hps := Lib.hid hps0
            rw [hps0]
            clear hI hL hM hps0
            go_wp2_with (at_builtin; refine wpList_append_zero rfl _ _ _ (by rfl) 45 k0 Tryd.underlying35 Gi.out va c.f1.length vn (by exact Hvj.out) hvc hvn pa pc (by rfl) ?_)
            have HP : CabG base g { c with f1 := c.f1 ++ ps0 } us (fun q => if q = 1 then us 1 else us q) W := by
              have e1 : ps0 = [] := List.eq_nil_of_length_eq_zero Hps.out
              rw [e1, List.append_nil, upd_same]
              exact HM11.out
            rw [Hvj.out] at HP
            have HP' := Lib.hid HP
            clear HP
            go_wp2_with fail
            refine step3_done rfl ?_ ?_ ?_
            · exact (toI HIp ⟨HI.out.1, (fun h => absurd h (by simp [setB])), (fun _ _ => HP'.out), (fun h : L 15 = true => absurd ((HL.out.2 15 (by simp)).symm.trans h) (by simp))⟩)
            · exact ⟨rfl, rfl, rfl, Nat.le_refl _, fun _ _ _ => rfl⟩
            · exact (toV HV ⟨_, _, _, rfl⟩)
          · obtain ⟨pg, po, hpa, hpA, hpb, hpe⟩ := RP.out.2.2.2.2 (by omega)
            subst hpa
            have hpA1 := hpA.1
            have hE : Elems (fun b => b < W.heap.size ∧ ¬ OX base g us 1 b ∧ (us 1).ownBlock ≠ some b) W pg po ps0 := hpe.imp (hI.1.block pg hpb (fun h => by
              rcases h with h | h
              · omega
              · have := Hr.out 1 (by omega) pg h; omega)) (fun b hb => by
              have hb1 := hb.1
              have hb2 := hb.2
              refine ⟨⟨by omega, ?_, fun e => by have := Hr.out 1 (by omega) b e; omega⟩, hI.1.block b hb2 (fun h => by
                rcases h with h | h
                · omega
                · have := Hr.out 1 (by omega) b h; omega)⟩
              rintro (h | h | ⟨q, hq, -, h⟩)
              · omega
              · omega
              · have := Hr.out q hq b h; omega)
            have HE := Lib.hid hE
            clear hI hL hM hE hpe
            go_wp2_with (at_builtin; refine wpList_append_manyO rfl _ _ _ (by rfl) base 45 k0 _ 96 Tryd.underlying35 Gi.out Gz0.out Gz1.out Gz2.out rfl (us 1) c.f1 ps0 (by rfl) HM11.out.o1 pg po pc (by rfl) HE.out (by omega) (by unfold maxLen; omega) (by omega) hbW ?_)
            intro g2 o2 cap w7 hown7 hgrow hat hlt7
            have hv7 : ∀ k, (Value.slice (some ⟨g2, o2, none⟩) (c.f1.length + ps0.length) cap).ownBlock = some k → (us 1).ownBlock = some k ∨ W.heap.size ≤ k := fun k hk => by
              have e : g2 = k := by simpa [Value.ownBlock] using hk
              subst e
              exact hat
            have HG := Lib.hid hgrow
            have HP := Lib.hid (HM11.out.grow1 hgrow hown7 hv7)
            have HT := Lib.hid (HI.out.1.grown hgrow (fun k hk => .inl (.inr hk)))
            clear hgrow hown7 hat HI HM11 HE hv7
            go_wp2_with fail
            refine step3_done rfl ?_ ?_ ?_
            · exact (toI HIp ⟨HT.out, (fun h => absurd h (by simp [setB])), (fun _ _ => HP.out), (fun h : L 15 = true => absurd ((HL.out.2 15 (by simp)).symm.trans h) (by simp))⟩)
            · exact HG.out
            · exact (toV HV ⟨_, _, _, rfl⟩)
        · have u0 := hV
          clear hV
          simp only [u0]
          clear u0
          have HI := Lib.hid hI
          clear hI
          go_wp2_with fail
          refine step3_done rfl ?_ ?_ ?_
          · exact (toI HIp HI.out)
          · exact (Below.refl _ _)
          · exact (toV HV rfl)
        · have u12 := hV
          clear hV
          simp only [u12]
          clear u12
          have HI := Lib.hid hI
          clear hI
          go_wp2_with fail
          refine step3_done rfl ?_ ?_ ?_
          · exact (toI HIp HI.out)
          · exact (Below.refl _ _)
          · exact (toV HV rfl)
        · obtain ⟨u2, u13⟩ := hV
          simp only [u2, u13]
          clear u2 u13
          have HI := Lib.hid hI
          clear hI
          go_wp2_with fail
          refine step3_done rfl ?_ ?_ ?_
          · exact (toI HIp HI.out)
          · exact (Below.refl _ _)
          · exact (toV HV rfl)
        · obtain ⟨⟨a11, n11, c11, u11⟩, u14⟩ := hV
          simp only [u11, u14]
          have U11 := Lib.hid u11
          clear u11 u14
          have hM := hI.2.2.1 (hL.1 11 (by simp)) (hL.2 15 (by simp))
          rw [U11.out] at hM
          obtain ⟨_, _, _, _, _, _, _, _, bM, -⟩ := hM.box
          obtain ⟨-, -, p10, p11, p12, p13, p14, p15⟩ := blk16_cells bM
          have fW := bM.frozen
          have hlt := bM.lt
          have HL := Lib.hid hL
          have HI := Lib.hid hI
          have HM15 := Lib.hid hM
          clear hI hL hM bM
          go_wp2_with fail
          have ht := touch1 (w := W) (g := g) (i := 11) (.slice a11 n11 c11)
          refine step3_done (v := undef) rfl ?_ ?_ ?_
          · exact (toI HIp ⟨HI.out.1.trans (ht.mono fun k _ hk => .inl hk), (fun h : L 11 = false => absurd ((HL.out.1 11 (by simp)).symm.trans h) (by simp)), (fun _ h => absurd h (by simp [setB])), (fun _ => ⟨_, HM15.out.put ht (fun _ _ _ _ _ _ _ _ b => b.set 11 _)⟩)⟩)
          · exact ht
          · exact (toV HV rfl)
      case fin =>
        intro x W L hL hI hV
        replace hI : (Touch (fun z => z = g ∨ (us 1).ownBlock = some z) w5 W ∧ (L 11 = false → CabM base g c us W) ∧ (L 11 = true → L 15 = false → CabG base g { c with f1 := c.f1 ++ ps0 } us (fun q => if q = 1 then x 11 else us q) W) ∧ (L 15 = true → ∃ vs', CabM base g { c with f1 := c.f1 ++ ps0 } vs' W)) := ofI HIp hI
        rw [HV.out] at hV
        simp only [AllV, and_true] at hV
        obtain ⟨u0, u1, u2, u3, u4, u5, u6, u7, u8, u9, u10, ⟨a11, n11, c11, u11⟩, u12, u13, u14, u15⟩ := hV
        simp only [getsD, List.getD_cons_succ, List.getD_cons_zero, List.length_cons, List.length_nil, List.range, List.range.loop, u0, u1, u2, u3, u4, u5, u6, u7, u8, u9, u10, u11, u12, u13, u14, u15, Act.put, List.setIfInBounds_toArray, List.set_cons_succ, List.set_cons_zero]
        clear u0 u1 u2 u3 u4 u5 u6 u7 u8 u9 u10 u11 u12 u13 u14 u15
        obtain ⟨vs4, hM4⟩ := hI.2.2.2 (hL 15 (by simp))
        have hT := hI.1
        have M6 := Lib.hid hM4
        have B6 : Hid (Below base w W) := B5.out.trans (hT.toBelow (by omega) (fun k hk => by
          rcases hk with hk | hk
          · omega
          · exact Hrb.out k hk))
        have hb0 : ((ps0.length : Int) == 0) = false := by simp; intro h; have := t0.1; rw [h] at this; simp at this
        clear hI hL hT hM4 M5 B5 RP
        go_wp2_with fail
        case roundEnd =>
          exact ⟨⟨0 + 1, vs4, by omega, rfl, by rw [HC1.out]; exact M6.out, B6.out⟩, by simp [intOf]⟩
    · rw [HC1.out] at M4
      obtain ⟨a0, c0, b0, d0, a1, c1, b1, d1, bx, r0, r1, r2, r3⟩ := M4.out.box
      obtain ⟨⟨p0, p1, p2, p3, p4⟩, ⟨p5, p6, p7, p8, p9⟩, -⟩ := blk16_cells bx
      have RS := Lib.hid (r2.mono fun z hz => ⟨hz.2.1, rfl⟩ : RdS (· < wr.heap.size) wr c.e1.sent a1 c.e1.sent.length c1)
      have RQ := Lib.hid (r3.mono fun z hz => ⟨hz.2.1, rfl⟩ : RdS (· < wr.heap.size) wr c.e1.queue b1 c.e1.queue.length d1)
      have hgr := bx.lt
      clear bx r0 r1 r2 r3
      go_wp2_with fail
      refine (HT1.out _ _ _ _ _ (Hg.out _ B4.out) RS.out RQ.out).mono ?_
      rintro e w5 ⟨pa, pc, rfl, rp, b5⟩
      have RP := Lib.hid (rp : RdS (Fresh wr.heap.size w5) w5 ps1 pa ps1.length pc)
      have M5 := Lib.hid (M4.out.go b5)
      have hz45 := b5.size
      have Hr : Hid (∀ q, q < 6 → ∀ z, (us q).ownBlock = some z → z < wr.heap.size) := fun q hq z hz => by
        match q, hq with
        | 0, _ => exact (M4.out.o0.rowlt z hz).2
        | 1, _ => exact (M4.out.o1.rowlt z hz).2
        | 2, _ => exact (M4.out.o2.rowlt z hz).2
        | 3, _ => exact (M4.out.o3.rowlt z hz).2
        | 4, _ => exact (M4.out.o4.rowlt z hz).2
        | 5, _ => exact (M4.out.o5.rowlt z hz).2
        | q + 6, h => omega
      have hrb : ∀ z, (us 0).ownBlock = some z → base ≤ z := fun z hz => (M4.out.o0.rowlt z hz).1
      have Hrb := Lib.hid hrb
      have B5 : Hid (Below base w w5) := B4.out.trans ((Touch.of_below (S := fun _ => False) b5).toBelow (by omega) (fun k hk => hk.elim))
      clear rp b5 M4 B4 RS RQ hrb p0 p1 p2 p3 p4 p5 p6 p7 p8 p9
      go_wp2_with fail
      obtain ⟨va, vn, hvj, hvc, hvm, -⟩ := M5.out.o0.form
      have Hvj := Lib.hid hvj
      have hvn : va = none → vn = 0 := by
        intro e
        rcases M5.out.o0.row with ⟨a', hv, -, -⟩ | ⟨q, o, cap, hv, -⟩
        · rw [hvj] at hv; injection hv
        · rw [hvj] at hv; injection hv with e1; rw [e] at e1; cases e1
      clear hvj
      obtain ⟨Vp, HV⟩ : ∃ Vp : Nat → Value → World → Prop, Hid (Vp = fun i v W => match i with
          | 0 => v = .pointer (some ⟨g, 0, none⟩)
          | 1 => v = .int .i64 1
          | 2 => v = .int .i64 0
          | 3 => v = .pointer (some ⟨g, 0, none⟩)
          | 4 => v = .int .i64 1
          | 5 => v = .int .i64 0
          | 6 => v = .pointer (some ⟨g, 0, none⟩)
          | 7 => v = .pointer (some ⟨g, 10, none⟩)
          | 8 => v = .pointer (some ⟨g, 10, none⟩)
          | 9 => v = us 0
          | 10 => v = .slice pa ps1.length pc
          | 11 => ∃ a n c, v = .slice a n c
          | 12 => v = .pointer (some ⟨g, 0, none⟩)
          | 13 => v = .pointer (some ⟨g, 10, none⟩)
          | 14 => v = .pointer (some ⟨g, 10, none⟩)
          | _ => v = undef) := ⟨_, rfl⟩
      obtain ⟨Ip, HIp⟩ : ∃ Ip : (Nat → Bool) → (Nat → Value) → World → Prop, Hid (Ip = fun L x W => (Touch (fun z => z = g ∨ (us 0).ownBlock = some z) w5 W ∧ (L 11 = false → CabM base g { c with f1 := c.f1 ++ ps0 } us W) ∧ (L 11 = true → L 15 = false → CabG base g { c with f1 := c.f1 ++ ps0, f0 := c.f0 ++ ps1 } us (fun q => if q = 0 then x 11 else us q) W) ∧ (L 15 = true → ∃ vs', CabM base g { c with f1 := c.f1 ++ ps0, f0 := c.f0 ++ ps1 } vs' W))) := ⟨_, rfl⟩
      refine region_lit3 (by kernel_rfl) (by kernel_rfl) (by kernel_rfl) [[], [], [1], [], [], [4], [3], [3, 6], [3, 4, 5, 6, 7], [3, 4, 5, 6, 7, 8], [], [3, 4, 5, 6, 7, 8, 9, 10], [0], [0, 12], [0, 1, 2, 12, 13], [0, 1, 2, 3, 4, 5, 6, 7, 8, 9, 10, 11, 12, 13, 14]] (by kernel_rfl) [some 19, some 20, some 21, some 22, some 23, some 24, some 25, some 26, some 27, some 28, some 29, some 30, some 31, some 32, some 33, none] (by kernel_rfl) [[0, 12, 13, 14, 15], [1, 2, 14, 15], [2, 14, 15], [3, 6, 7, 8, 9, 11, 15], [4, 5, 8, 9, 11, 15], [5, 8, 9, 11, 15], [6, 7, 8, 9, 11, 15], [7, 8, 9, 11, 15], [8, 9, 11, 15], [9, 11, 15], [10, 11, 15], [11, 15], [12, 13, 14, 15], [13, 14, 15], [14, 15], [15]] (by kernel_rfl) [[], [], [], [], [], [], [], [], [], [], [], [], [], [], [], []] [[], [], [1], [], [], [4], [3], [6], [5, 7], [8], [], [9, 10], [0], [12], [2, 13], [11, 14]] (by kernel_rfl)
        Ip
        Vp
        (fun j W W' => match j with
          | 11 => W.grownBy W' (us 0).ownBlock
          | 15 => Touch (fun z => z = g) W W'
          | _ => Below W.heap.size W W')
        [fun x => ⟨(fZm 0 (.pointer (some ⟨g, 0, none⟩)) (fEm 19)).toArray, []⟩,
   fun x => ⟨(fZm 3 (.int .i64 1) (fEm 17)).toArray, []⟩,
   fun x => ⟨(fZm 20 (x 1) (fEm 1)).toArray, []⟩,
   fun x => ⟨(fZm 0 (.pointer (some ⟨g, 0, none⟩)) (fEm 22)).toArray, []⟩,
   fun x => ⟨(fZm 3 (.int .i64 1) (fEm 20)).toArray, []⟩,
   fun x => ⟨(fZm 23 (x 4) (fEm 1)).toArray, []⟩,
   fun x => ⟨(fZm 22 (x 3) (fEm 3)).toArray, []⟩,
   fun x => ⟨(fZm 25 (x 6) (fEm 1)).toArray, []⟩,
   fun x => ⟨(fZm 24 (x 5) (fZm 1 (x 7) (fEm 1))).toArray, []⟩,
   fun x => ⟨(fZm 27 (x 8) (fEm 1)).toArray, []⟩,
   fun x => ⟨(fZm 4 (.slice pa ps1.length pc) (fEm 25)).toArray, []⟩,
   fun x => ⟨(fZm 28 (x 9) (fZm 0 (x 10) (fEm 1))).toArray, []⟩,
   fun x => ⟨(fZm 19 (x 0) (fEm 12)).toArray, []⟩,
   fun x => ⟨(fZm 31 (x 12) (fEm 1)).toArray, []⟩,
   fun x => ⟨(fZm 21 (x 2) (fZm 10 (x 13) (fEm 1))).toArray, []⟩,
   fun x => ⟨(fZm 30 (x 11) (fZm 2 (x 14) [])).toArray, []⟩]
        ?hF ?mono ?h0 ?step [0, 1, 2, 3, 4, 5, 6, 7, 8, 9, 10, 11, 12, 13, 14, 15] (by kernel_rfl) ?fin
      case hF =>
        iterate 16 refine ⟨fun x => ⟨by kernel_rfl, by kernel_rfl⟩, ?_⟩
        trivial
      case mono =>
        intro i j hi hj hne hna hnk v W W' hE hv
        rw [HV.out] at hv ⊢
        simp only [List.length_cons, List.length_nil] at hi hj
        match i, hi with
        | 0, _ | 1, _ | 2, _ | 3, _ | 4, _ | 5, _ | 6, _ | 7, _ | 8, _ | 9, _ | 10, _ | 12, _ | 13, _ | 14, _ | 15, _ => exact hv
        | 11, _ =>
          match j, hj with
          | 11, _ => exact absurd rfl hne
          | 3, _ | 4, _ | 5, _ | 6, _ | 7, _ | 8, _ | 9, _ | 10, _ => exact absurd (by simp) hna
          | 0, _ | 1, _ | 2, _ | 12, _ | 13, _ | 14, _ | 15, _ => exact (id hv)
          | m + 16, h => exact absurd h (by omega)
        | m + 16, h => exact absurd h (by omega)
      case h0 => intro x; exact toI HIp ⟨(Touch.refl _ _).drew, (fun _ => M5.out.go (Below.refl _ _).drew), (fun h => by cases h), (fun h => by cases h)⟩
      case step =>
        refine ⟨?_, ?_, ?_, ?_, ?_, ?_, ?_, ?_, ?_, ?_, ?_, ?_, ?_, ?_, ?_, ?_, trivial⟩
        all_goals
          intro x W L hI hL hV
          replace hI : (Touch (fun z => z = g ∨ (us 0).ownBlock = some z) w5 W ∧ (L 11 = false → CabM base g { c with f1 := c.f1 ++ ps0 } us W) ∧ (L 11 = true → L 15 = false → CabG base g { c with f1 := c.f1 ++ ps0, f0 := c.f0 ++ ps1 } us (fun q => if q = 0 then x 11 else us q) W) ∧ (L 15 = true → ∃ vs', CabM base g { c with f1 := c.f1 ++ ps0, f0 := c.f0 ++ ps1 } vs' W)) := ofI HIp hI
          rw [HV.out] at hV
          simp only [AllV, and_true] at hV
          dsimp only [fZm, fEm, List.reduceReplicate, List.cons_append, List.nil_append]
        · clear hV
          have HI := Lib.hid hI
          clear hI
          go_wp2_with fail
          refine step3_done rfl ?_ ?_ ?_
          · exact (toI HIp HI.out)
          · exact (Below.refl _ _)
          · exact (toV HV rfl)
        · clear hV
          have HI := Lib.hid hI
          clear hI
          go_wp2_with fail
          refine step3_done rfl ?_ ?_ ?_
          · exact (toI HIp HI.out)
          · exact (Below.refl _ _)
          · exact (toV HV rfl)
        · have u1 := hV
          clear hV
          simp only [u1]
          clear u1
          have HI := Lib.hid hI
          clear hI
          go_wp2_with fail
          refine step3_done rfl ?_ ?_ ?_
          · exact (toI HIp HI.out)
          · exact (Below.refl _ _)
          · exact (toV HV rfl)
        · clear hV
          have HI := Lib.hid hI
          clear hI
          go_wp2_with fail
          refine step3_done rfl ?_ ?_ ?_
          · exact (toI HIp HI.out)
          · exact (Below.refl _ _)
          · exact (toV HV rfl)
        · clear hV
          have HI := Lib.hid hI
          clear hI
          go_wp2_with fail
          refine step3_done rfl ?_ ?_ ?_
          · exact (toI HIp HI.out)
          · exact (Below.refl _ _)
          · exact (toV HV rfl)
        · have u4 := hV
          clear hV
          simp only [u4]
          clear u4
          have HI := Lib.hid hI
          clear hI
          go_wp2_with fail
          refine step3_done rfl ?_ ?_ ?_
          · exact (toI HIp HI.out)
          · exact (Below.refl _ _)
          · exact (toV HV rfl)
        · have u3 := hV
          clear hV
          simp only [u3]
          clear u3
          have HI := Lib.hid hI
          clear hI
          go_wp2_with fail
          refine step3_done rfl ?_ ?_ ?_
          · exact (toI HIp HI.out)
          · exact (Below.refl _ _)
          · exact (toV HV rfl)
        · have u6 := hV
          clear hV
          simp only [u6]
          clear u6
          have HI := Lib.hid hI
          clear hI
          go_wp2_with fail
          refine step3_done rfl ?_ ?_ ?_
          · exact (toI HIp HI.out)
          · exact (Below.refl _ _)
          · exact (toV HV rfl)
        · obtain ⟨u5, u7⟩ := hV
          simp only [u5, u7]
          clear u5 u7
          have HI := Lib.hid hI
          clear hI
          go_wp2_with fail
          refine step3_done rfl ?_ ?_ ?_
          · exact (toI HIp HI.out)
          · exact (Below.refl _ _)
          · exact (toV HV rfl)
        · have u8 := hV
          clear hV
          simp only [u8]
          clear u8
          obtain ⟨_, _, _, _, _, _, _, _, bM, -⟩ := (hI.2.1 (hL.2 11 (by simp))).box
          obtain ⟨-, -, p10, p11, p12, p13, p14, p15⟩ := blk16_cells bM
          have HI := Lib.hid hI
          clear hI bM
          go_wp2_with fail
          refine step3_done rfl ?_ ?_ ?_
          · exact (toI HIp HI.out)
          · exact (Below.refl _ _)
          · exact (toV HV rfl)
        · clear hV
          have HI := Lib.hid hI
          clear hI
          go_wp2_with fail
          refine step3_done rfl ?_ ?_ ?_
          · exact (toI HIp HI.out)
          · exact (Below.refl _ _)
          · exact (toV HV rfl)
        · obtain ⟨u9, u10⟩ := hV
          simp only [u9, u10]
          clear u9 u10
          have hM := hI.2.1 (hL.2 11 (by simp))
          have HL := Lib.hid hL
          have HI := Lib.hid hI
          have HM11 := Lib.hid hM
          have hz6 := hI.1.size
          have hbW : base ≤ W.heap.size := by omega
          by_cases hps0 : ps1.length = 0
          · have Hps := Lib.hid hps0
            rw [hps0]
            clear hI hL hM hps0
            go_wp2_with (at_builtin; refine wpList_append_zero rfl _ _ _ (by rfl) 45 k0 Tryd.underlying35 Gi.out va c.f0.length vn (by exact Hvj.out) hvc hvn pa pc (by rfl) ?_)
            have HP : CabG base g { c with f1 := c.f1 ++ ps0, f0 := c.f0 ++ ps1 } us (fun q => if q = 0 then us 0 else us q) W := by
              have e1 : ps1 = [] := List.eq_nil_of_length_eq_zero Hps.out
              rw [e1, List.append_nil, upd_same]
              exact HM11.out
            rw [Hvj.out] at HP
            have HP' := Lib.hid HP
            clear HP
            go_wp2_with fail
            refine step3_done rfl ?_ ?_ ?_
            · exact (toI HIp ⟨HI.out.1, (fun h => absurd h (by simp [setB])), (fun _ _ => HP'.out), (fun h : L 15 = true => absurd ((HL.out.2 15 (by simp)).symm.trans h) (by simp))⟩)
            · exact ⟨rfl, rfl, rfl, Nat.le_refl _, fun _ _ _ => rfl⟩
            · exact (toV HV ⟨_, _, _, rfl⟩)
          · obtain ⟨pg, po, hpa, hpA, hpb, hpe⟩ := RP.out.2.2.2.2 (by omega)
            subst hpa
            have hpA1 := hpA.1
            have hE : Elems (fun b => b < W.heap.size ∧ ¬ OX base g us 0 b ∧ (us 0).ownBlock ≠ some b) W pg po ps1 := hpe.imp (hI.1.block pg hpb (fun h => by
              rcases h with h | h
              · omega
              · have := Hr.out 0 (by omega) pg h; omega)) (fun b hb => by
              have hb1 := hb.1
              have hb2 := hb.2
              refine ⟨⟨by omega, ?_, fun e => by have := Hr.out 0 (by omega) b e; omega⟩, hI.1.block b hb2 (fun h => by
                rcases h with h | h
                · omega
                · have := Hr.out 0 (by omega) b h; omega)⟩
              rintro (h | h | ⟨q, hq, -, h⟩)
              · omega
              · omega
              · have := Hr.out q hq b h; omega)
            have HE := Lib.hid hE
            clear hI hL hM hE hpe
            go_wp2_with (at_builtin; refine wpList_append_manyO rfl _ _ _ (by rfl) base 45 k0 _ 96 Tryd.underlying35 Gi.out Gz0.out Gz1.out Gz2.out rfl (us 0) c.f0 ps1 (by rfl) HM11.out.o0 pg po pc (by rfl) HE.out (by omega) (by unfold maxLen; omega) (by omega) hbW ?_)
            intro g2 o2 cap w7 hown7 hgrow hat hlt7
            have hv7 : ∀ k, (Value.slice (some ⟨g2, o2, none⟩) (c.f0.length + ps1.length) cap).ownBlock = some k → (us 0).ownBlock = some k ∨ W.heap.size ≤ k := fun k hk => by
              have e : g2 = k := by simpa [Value.ownBlock] using hk
              subst e
              exact hat
            have HG := Lib.hid hgrow
            have HP := Lib.hid (HM11.out.grow0 hgrow hown7 hv7)
            have HT := Lib.hid (HI.out.1.grown hgrow (fun k hk => .inl (.inr hk)))
            clear hgrow hown7 hat HI HM11 HE hv7
            go_wp2_with fail
            refine step3_done rfl ?_ ?_ ?_
            · exact (toI HIp ⟨HT.out, (fun h => absurd h (by simp [setB])), (fun _ _ => HP.out), (fun h : L 15 = true => absurd ((HL.out.2 15 (by simp)).symm.trans h) (by simp))⟩)
            · exact HG.out
            · exact (toV HV ⟨_, _, _, rfl⟩)
        · have u0 := hV
          clear hV
          simp only [u0]
          clear u0
          have HI := Lib.hid hI
          clear hI
          go_wp2_with fail
          refine step3_done rfl ?_ ?_ ?_
          · exact (toI HIp HI.out)
          · exact (Below.refl _ _)
          · exact (toV HV rfl)
        · have u12 := hV
          clear hV
          simp only [u12]
          clear u12
          have HI := Lib.hid hI
          clear hI
          go_wp2_with fail
          refine step3_done rfl ?_ ?_ ?_
          · exact (toI HIp HI.out)
          · exact (Below.refl _ _)
          · exact (toV HV rfl)
        · obtain ⟨u2, u13⟩ := hV
          simp only [u2, u13]
          clear u2 u13
          have HI := Lib.hid hI
          clear hI
          go_wp2_with fail
          refine step3_done rfl ?_ ?_ ?_
          · exact (toI HIp HI.out)
          · exact (Below.refl _ _)
          · exact (toV HV rfl)
        · obtain ⟨⟨a11, n11, c11, u11⟩, u14⟩ := hV
          simp only [u11, u14]
          have U11 := Lib.hid u11
          clear u11 u14
          have hM := hI.2.2.1 (hL.1 11 (by simp)) (hL.2 15 (by simp))
          rw [U11.out] at hM
          obtain ⟨_, _, _, _, _, _, _, _, bM, -⟩ := hM.box
          obtain ⟨-, -, p10, p11, p12, p13, p14, p15⟩ := blk16_cells bM
          have fW := bM.frozen
          have hlt := bM.lt
          have HL := Lib.hid hL
          have HI := Lib.hid hI
          have HM15 := Lib.hid hM
          clear hI hL hM bM
          go_wp2_with fail
          have ht := touch1 (w := W) (g := g) (i := 10) (.slice a11 n11 c11)
          refine step3_done (v := undef) rfl ?_ ?_ ?_
          · exact (toI HIp ⟨HI.out.1.trans (ht.mono fun k _ hk => .inl hk), (fun h : L 11 = false => absurd ((HL.out.1 11 (by simp)).symm.trans h) (by simp)), (fun _ h => absurd h (by simp [setB])), (fun _ => ⟨_, HM15.out.put ht (fun _ _ _ _ _ _ _ _ b => b.set 10 _)⟩)⟩)
          · exact ht
          · exact (toV HV rfl)
      case fin =>
        intro x W L hL hI hV
        replace hI : (Touch (fun z => z = g ∨ (us 0).ownBlock = some z) w5 W ∧ (L 11 = false → CabM base g { c with f1 := c.f1 ++ ps0 } us W) ∧ (L 11 = true → L 15 = false → CabG base g { c with f1 := c.f1 ++ ps0, f0 := c.f0 ++ ps1 } us (fun q => if q = 0 then x 11 else us q) W) ∧ (L 15 = true → ∃ vs', CabM base g { c with f1 := c.f1 ++ ps0, f0 := c.f0 ++ ps1 } vs' W)) := ofI HIp hI
        rw [HV.out] at hV
        simp only [AllV, and_true] at hV
        obtain ⟨u0, u1, u2, u3, u4, u5, u6, u7, u8, u9, u10, ⟨a11, n11, c11, u11⟩, u12, u13, u14, u15⟩ := hV
        simp only [getsD, List.getD_cons_succ, List.getD_cons_zero, List.length_cons, List.length_nil, List.range, List.range.loop, u0, u1, u2, u3, u4, u5, u6, u7, u8, u9, u10, u11, u12, u13, u14, u15, Act.put, List.setIfInBounds_toArray, List.set_cons_succ, List.set_cons_zero]
        clear u0 u1 u2 u3 u4 u5 u6 u7 u8 u9 u10 u11 u12 u13 u14 u15
        obtain ⟨vs4, hM4⟩ := hI.2.2.2 (hL 15 (by simp))
        have hT := hI.1
        have M6 := Lib.hid hM4
        have B6 : Hid (Below base w W) := B5.out.trans (hT.toBelow (by omega) (fun k hk => by
          rcases hk with hk | hk
          · omega
          · exact Hrb.out k hk))
        have hb0 : ((ps1.length : Int) == 0) = false := by simp; intro h; have := t1.1; rw [h] at this; simp at this
        clear hI hL hT hM4 M5 B5 RP
        go_wp2_with fail
        case roundEnd =>
          exact ⟨⟨1 + 1, vs4, by omega, rfl, by rw [HC2.out]; exact M6.out, B6.out⟩, by simp [intOf]⟩
    · rw [HC2.out] at M4
      go_wp2_with fail
      go_ret
      exact ⟨rfl, ⟨us, M4.out⟩, B4.out⟩
end Go.Proofs.YtkhacogeffidoaaDoor
