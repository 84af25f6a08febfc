/- The walk of (*cable).send (printed by gen_cab.py). -/
import Derived.Test.YtkhacogeffidoaaDoorCabOff
set_option linter.unusedVariables false
set_option linter.unusedSimpArgs false
namespace Go.Proofs.YtkhacogeffidoaaDoor
open Go.RowKit

set_option maxRecDepth 100000 in
set_option maxHeartbeats 8000000 in
theorem cab_send0 (base g : Nat) (c : Cb) (vs : Nat → Value) (f : Fr) (fa : Option Addr) (fc : Nat) (w : World) (hg : Good w) (h : CabM base g c vs w) (hfr : RdS (Free base g vs w) w f.op fa f.op.length fc) (hl : c.e0.fits) (hf : f.fits) (hq : c.e0.queue.length ≤ 1000000) (hp : (c.e0.sendP f).length ≤ 1000) (hj : c.f1.length ≤ 1000000) (hs : c.s0.length ≤ 1000000) :
    Calls Tryd.prog 16 #[.pointer (some ⟨g, 0, none⟩), .int .i64 0, .agg #[.int .i64 f.kind, .int .i64 f.heard, .int .i64 f.epoch, .slice fa f.op.length fc, .string f.text]] w fun e w' => e = .returned (.bool (c.e0.sendE f == 0)) ∧ (∃ vs', CabM base g { c with e0 := c.e0.sendL f, f1 := c.f1 ++ c.e0.sendP f, s0 := c.s0 ++ [f] } vs' w') ∧ Below base w w' := by
  have HS := Lib.hid (fun a b fa n cc m d fn fc W hg h1 h2 h3 (hm : m ≤ 1000000) => lkSend_any c.e0 f a b fa n cc m d fn fc W hg h1 h2 h3 hl hf hm)
  unfold LkPksP at HS
  generalize hl' : c.e0.sendL f = l' at *
  generalize hps : c.e0.sendP f = ps at *
  generalize c.e0.sendE f = E at *
  have Hg := Lib.hid hg
  have HM := Lib.hid h
  have Hfr := Lib.hid hfr
  have Hff := Lib.hid hf
  have hgb := h.gb
  have hgw := h.lt
  have hrow : ∀ q, q < 6 → ∀ z, (vs q).ownBlock = some z → base ≤ z ∧ z < w.heap.size := fun q hq z hz => by
    match q, hq with
    | 0, _ => exact h.o0.rowlt z hz
    | 1, _ => exact h.o1.rowlt z hz
    | 2, _ => exact h.o2.rowlt z hz
    | 3, _ => exact h.o3.rowlt z hz
    | 4, _ => exact h.o4.rowlt z hz
    | 5, _ => exact h.o5.rowlt z hz
    | q + 6, h => omega
  have Hrow := Lib.hid hrow
  obtain ⟨i0, hi, hz0, hz1, hz2⟩ := info_parts infoF
  have Hi := Lib.hid hi
  have Hz0 := Lib.hid hz0
  have Hz1 := Lib.hid hz1
  have Hz2 := Lib.hid hz2
  obtain ⟨k0, gi, gz0, gz1, gz2⟩ := info_parts infoPk
  have Gi := Lib.hid gi
  have Gz0 := Lib.hid gz0
  have Gz1 := Lib.hid gz1
  have Gz2 := Lib.hid gz2
  clear hg h hfr hl hf hrow hi hz0 hz1 hz2 gi gz0 gz1 gz2 hl' hps
  obtain ⟨a0, c0, b0, d0, a1, c1, b1, d1, bx, r0, r1, r2, r3⟩ := HM.out.box
  have RS := Lib.hid (r0.mono fun z hz => ⟨hz.2.1, rfl⟩ : RdS (· < w.heap.size) w c.e0.sent a0 c.e0.sent.length c0)
  have RQ := Lib.hid (r1.mono fun z hz => ⟨hz.2.1, rfl⟩ : RdS (· < w.heap.size) w c.e0.queue b0 c.e0.queue.length d0)
  have BX := Lib.hid bx
  clear bx r0 r1 r2 r3
  go_enter Tryd.func16, Tryd.ntmps16
  go_wp2_with fail
  refine abs_w (fun W => Below w.heap.size w W ∧ Blk w.heap.size (.cells #[.int .i64 f.kind, .int .i64 f.heard, .int .i64 f.epoch, .slice fa f.op.length fc, .string f.text] 30 (0, 0)) W) ⟨(Below.refl _ _).alloc (Nat.le_refl _) _, Blk.new w _⟩ ?_
  rintro w1 ⟨u1, x1⟩
  have B1 := Lib.hid u1
  have XF := Lib.hid x1
  have hz1 := x1.lt
  have hz01 := u1.size
  clear u1 x1
  obtain ⟨Vp, HV⟩ : ∃ Vp : Nat → Value → World → Prop, Hid (Vp = fun i v W => match i with
      | 0 => v = .pointer (some ⟨g, 0, none⟩)
      | 1 => v = .int .i64 0
      | 2 => v = .pointer (some ⟨g, 0, none⟩)
      | 3 => v = .pointer (some ⟨g, 0, none⟩)
      | 4 => v = .pointer (some ⟨g, 0, none⟩)
      | 5 => v = .agg #[.int .i64 c.e0.epoch, .int .i64 c.e0.next, .slice a0 c.e0.sent.length c0, .slice b0 c.e0.queue.length d0, .int .i64 c.e0.heard]
      | 6 => v = .agg #[.int .i64 f.kind, .int .i64 f.heard, .int .i64 f.epoch, .slice fa f.op.length fc, .string f.text]
      | 7 => ∃ y z, v = .tuple #[y, z, .int .i64 E] ∧ LkVal w1.heap.size l' y W ∧ PsVal w1.heap.size ps z W
      | 8 => ∃ y z, v = .tuple #[y, z, .int .i64 E] ∧ LkVal w1.heap.size l' y W ∧ PsVal w1.heap.size ps z W
      | 9 => ∃ y, v = y ∧ LkVal w1.heap.size l' y W
      | 10 => ∃ y, v = y ∧ PsVal w1.heap.size ps y W
      | 11 => v = .int .i64 E
      | 12 => ∃ gL, v = .pointer (some ⟨gL, 0, none⟩) ∧ w1.heap.size ≤ gL ∧ Blk gL (.cells #[.int .i64 0, .int .i64 0, .slice none 0 0, .slice none 0 0, .int .i64 0] 33 (0, 0)) W
      | 13 => v = undef
      | 14 => ∃ y, v = y ∧ PsVal w1.heap.size ps y W
      | _ => v = .int .i64 E) := ⟨_, rfl⟩
  obtain ⟨Ip, HIp⟩ : ∃ Ip : (Nat → Bool) → (Nat → Value) → World → Prop, Hid (Ip = fun L x W => (Below w1.heap.size w1 W ∧ (L 13 = true → ∃ gL, x 12 = .pointer (some ⟨gL, 0, none⟩) ∧ w1.heap.size ≤ gL ∧ LkBox w1.heap.size gL l' W))) := ⟨_, rfl⟩
  refine region_lit3 (by kernel_rfl) (by kernel_rfl) (by kernel_rfl) [[], [], [0], [0, 2], [0, 1, 2, 3], [0, 1, 2, 3, 4], [], [0, 1, 2, 3, 4, 5, 6], [0, 1, 2, 3, 4, 5, 6, 7], [0, 1, 2, 3, 4, 5, 6, 7, 8], [0, 1, 2, 3, 4, 5, 6, 7, 8], [0, 1, 2, 3, 4, 5, 6, 7, 8], [], [0, 1, 2, 3, 4, 5, 6, 7, 8, 9, 12], [0, 1, 2, 3, 4, 5, 6, 7, 8, 10], [0, 1, 2, 3, 4, 5, 6, 7, 8, 11]] (by kernel_rfl) [some 11, some 12, some 13, some 14, some 15, some 16, some 17, some 18, some 10, some 19, some 20, some 21, some 7, none, some 8, some 9] (by kernel_rfl) [[0, 2, 3, 4, 5, 7, 8, 9, 10, 11, 13, 14, 15], [1, 4, 5, 7, 8, 9, 10, 11, 13, 14, 15], [2, 3, 4, 5, 7, 8, 9, 10, 11, 13, 14, 15], [3, 4, 5, 7, 8, 9, 10, 11, 13, 14, 15], [4, 5, 7, 8, 9, 10, 11, 13, 14, 15], [5, 7, 8, 9, 10, 11, 13, 14, 15], [6, 7, 8, 9, 10, 11, 13, 14, 15], [7, 8, 9, 10, 11, 13, 14, 15], [8, 9, 10, 11, 13, 14, 15], [9, 13], [10, 14], [11, 15], [12, 13], [13], [14], [15]] (by kernel_rfl) [[], [], [], [], [], [], [], [], [], [13], [], [], [13], [], [], []] [[], [], [0], [2], [1, 3], [4], [], [5, 6], [7], [8], [8], [8], [], [9, 12], [10], [11]] (by kernel_rfl)
    Ip
    Vp
    (fun j W W' => match j with
      | 13 => ∃ gL, Blk gL (.cells #[.int .i64 0, .int .i64 0, .slice none 0 0, .slice none 0 0, .int .i64 0] 33 (0, 0)) W ∧ Touch (fun z => z = gL) W W' ∧ w1.heap.size ≤ gL
      | _ => Below W.heap.size W W')
    [fun x => ⟨(fZm 0 (.pointer (some ⟨g, 0, none⟩)) (fEm 11)).toArray, []⟩,
   fun x => ⟨(fZm 1 (.int .i64 0) (fEm 11)).toArray, []⟩,
   fun x => ⟨(fZm 11 (x 0) (fEm 2)).toArray, []⟩,
   fun x => ⟨(fZm 13 (x 2) (fEm 1)).toArray, []⟩,
   fun x => ⟨(fZm 12 (x 1) (fZm 1 (x 3) (fEm 1))).toArray, []⟩,
   fun x => ⟨(fZm 15 (x 4) (fEm 1)).toArray, []⟩,
   fun x => ⟨(fZm 5 (.pointer (some ⟨w.heap.size, 0, none⟩)) (fEm 12)).toArray, []⟩,
   fun x => ⟨(fZm 16 (x 5) (fZm 0 (x 6) (fEm 1))).toArray, []⟩,
   fun x => ⟨(fZm 18 (x 7) []).toArray, []⟩,
   fun x => ⟨(fZm 10 (x 8) (fEm 9)).toArray, []⟩,
   fun x => ⟨(fZm 10 (x 8) (fEm 10)).toArray, []⟩,
   fun x => ⟨(fZm 10 (x 8) (fEm 11)).toArray, []⟩,
   fun x => ⟨(fEm 8).toArray, []⟩,
   fun x => ⟨(fZm 7 (x 12) (fZm 11 (x 9) [])).toArray, []⟩,
   fun x => ⟨(fZm 20 (x 10) []).toArray, []⟩,
   fun x => ⟨(fZm 21 (x 11) []).toArray, []⟩]
    ?hF ?mono ?h0 ?step [0, 1, 2, 3, 4, 5, 6, 7, 8, 10, 11, 13, 14, 15] (by kernel_rfl) ?fin
  case hF =>
    iterate 16 refine ⟨fun x => ⟨by kernel_rfl, by kernel_rfl⟩, ?_⟩
    trivial
  case mono =>
    intro i j hi hj hne hna hnk v W W' hE hv
    rw [HV.out] at hv ⊢
    simp only [List.length_cons, List.length_nil] at hi hj
    match i, hi with
    | 0, _ | 1, _ | 2, _ | 3, _ | 4, _ | 5, _ | 6, _ | 11, _ | 13, _ | 15, _ => exact hv
    | 7, _ =>
      match j, hj with
      | 7, _ => exact absurd rfl hne
      | 0, _ | 1, _ | 2, _ | 3, _ | 4, _ | 5, _ | 6, _ => exact absurd (by simp) hna
      | 8, _ | 9, _ | 10, _ | 11, _ | 12, _ | 14, _ | 15, _ => exact (by obtain ⟨y, z, e, h, k⟩ := hv; exact ⟨y, z, e, h.go hE, k.go hE⟩)
      | 13, _ => exact (by obtain ⟨y, z, e, h, k⟩ := hv; obtain ⟨q, hz, ht, -⟩ := hE; exact ⟨y, z, e, h.off hz ht, k.off hz ht⟩)
      | m + 16, h => exact absurd h (by omega)
    | 8, _ =>
      match j, hj with
      | 8, _ => exact absurd rfl hne
      | 0, _ | 1, _ | 2, _ | 3, _ | 4, _ | 5, _ | 6, _ | 7, _ => exact absurd (by simp) hna
      | 9, _ | 10, _ | 11, _ | 12, _ | 14, _ | 15, _ => exact (by obtain ⟨y, z, e, h, k⟩ := hv; exact ⟨y, z, e, h.go hE, k.go hE⟩)
      | 13, _ => exact (by obtain ⟨y, z, e, h, k⟩ := hv; obtain ⟨q, hz, ht, -⟩ := hE; exact ⟨y, z, e, h.off hz ht, k.off hz ht⟩)
      | m + 16, h => exact absurd h (by omega)
    | 9, _ =>
      match j, hj with
      | 9, _ => exact absurd rfl hne
      | 0, _ | 1, _ | 2, _ | 3, _ | 4, _ | 5, _ | 6, _ | 7, _ | 8, _ => exact absurd (by simp) hna
      | 13, _ => exact absurd (by simp) hnk
      | 10, _ | 11, _ | 12, _ | 14, _ | 15, _ => exact (by obtain ⟨y, e, h⟩ := hv; exact ⟨y, e, h.go hE⟩)
      | m + 16, h => exact absurd h (by omega)
    | 10, _ =>
      match j, hj with
      | 10, _ => exact absurd rfl hne
      | 0, _ | 1, _ | 2, _ | 3, _ | 4, _ | 5, _ | 6, _ | 7, _ | 8, _ => exact absurd (by simp) hna
      | 9, _ | 11, _ | 12, _ | 14, _ | 15, _ => exact (by obtain ⟨y, e, h⟩ := hv; exact ⟨y, e, h.go hE⟩)
      | 13, _ => exact (by obtain ⟨y, e, h⟩ := hv; obtain ⟨q, hz, ht, -⟩ := hE; exact ⟨y, e, h.off hz ht⟩)
      | m + 16, h => exact absurd h (by omega)
    | 12, _ =>
      match j, hj with
      | 12, _ => exact absurd rfl hne
      | 13, _ => exact absurd (by simp) hnk
      | 0, _ | 1, _ | 2, _ | 3, _ | 4, _ | 5, _ | 6, _ | 7, _ | 8, _ | 9, _ | 10, _ | 11, _ | 14, _ | 15, _ => exact (by obtain ⟨q, h1, h2, h3⟩ := hv; exact ⟨q, h1, h2, h3.go hE⟩)
      | m + 16, h => exact absurd h (by omega)
    | 14, _ =>
      match j, hj with
      | 14, _ => exact absurd rfl hne
      | 0, _ | 1, _ | 2, _ | 3, _ | 4, _ | 5, _ | 6, _ | 7, _ | 8, _ | 10, _ => exact absurd (by simp) hna
      | 9, _ | 11, _ | 12, _ | 15, _ => exact (by obtain ⟨y, e, h⟩ := hv; exact ⟨y, e, h.go hE⟩)
      | 13, _ => exact (by obtain ⟨y, e, h⟩ := hv; obtain ⟨q, hz, ht, -⟩ := hE; exact ⟨y, e, h.off hz ht⟩)
      | m + 16, h => exact absurd h (by omega)
    | m + 16, h => exact absurd h (by omega)
  case h0 => intro x; exact toI HIp ⟨(Below.refl _ _).drew, (fun h => by cases h)⟩
  case step =>
    refine ⟨?_, ?_, ?_, ?_, ?_, ?_, ?_, ?_, ?_, ?_, ?_, ?_, ?_, ?_, ?_, ?_, trivial⟩
    all_goals
      intro x W L hI hL hV
      replace hI : (Below w1.heap.size w1 W ∧ (L 13 = true → ∃ gL, x 12 = .pointer (some ⟨gL, 0, none⟩) ∧ w1.heap.size ≤ gL ∧ LkBox w1.heap.size gL l' W)) := ofI HIp hI
      rw [HV.out] at hV
      simp only [AllV, and_true] at hV
      dsimp only [fZm, fEm, List.reduceReplicate, List.cons_append, List.nil_append]
    · clear hV
      have HI := Lib.hid hI
      clear hI
      go_wp2_with fail
      refine step3_done rfl ?_ ?_ ?_
      · exact (toI HIp HI.out)
      · exact (Below.refl _ _)
      · exact (toV HV rfl)
    · clear hV
      have HI := Lib.hid hI
      clear hI
      go_wp2_with fail
      refine step3_done rfl ?_ ?_ ?_
      · exact (toI HIp HI.out)
      · exact (Below.refl _ _)
      · exact (toV HV rfl)
    · have u0 := hV
      clear hV
      simp only [u0]
      clear u0
      have HI := Lib.hid hI
      clear hI
      go_wp2_with fail
      refine step3_done rfl ?_ ?_ ?_
      · exact (toI HIp HI.out)
      · exact (Below.refl _ _)
      · exact (toV HV rfl)
    · have u2 := hV
      clear hV
      simp only [u2]
      clear u2
      have HI := Lib.hid hI
      clear hI
      go_wp2_with fail
      refine step3_done rfl ?_ ?_ ?_
      · exact (toI HIp HI.out)
      · exact (Below.refl _ _)
      · exact (toV HV rfl)
    · obtain ⟨u1, u3⟩ := hV
      simp only [u1, u3]
      clear u1 u3
      have HI := Lib.hid hI
      clear hI
      go_wp2_with fail
      refine step3_done rfl ?_ ?_ ?_
      · exact (toI HIp HI.out)
      · exact (Below.refl _ _)
      · exact (toV HV rfl)
    · have u4 := hV
      clear hV
      simp only [u4]
      clear u4
      obtain ⟨⟨p0, p1, p2, p3, p4⟩, ⟨p5, p6, p7, p8, p9⟩, -⟩ := blk16_cells (BX.out.go (up B1.out hI.1))
      have HI := Lib.hid hI
      clear hI
      go_wp2_with fail
      refine step3_done rfl ?_ ?_ ?_
      · exact (toI HIp HI.out)
      · exact (Below.refl _ _)
      · exact (toV HV rfl)
    · clear hV
      obtain ⟨q0, q1, q2, q3, q4⟩ := blk_cells5 (XF.out.go hI.1)
      have HI := Lib.hid hI
      clear hI
      go_wp2_with fail
      refine step3_done rfl ?_ ?_ ?_
      · exact (toI HIp HI.out)
      · exact (Below.refl _ _)
      · exact (toV HV rfl)
    · obtain ⟨u5, u6⟩ := hV
      simp only [u5, u6]
      clear u5 u6
      have HL := Lib.hid hL
      have HI := Lib.hid hI
      have hzW := hI.1.size
      clear hI hL
      go_wp2_with fail
      refine (HS.out _ _ _ _ _ _ _ _ _ _ (Hg.out.go (up B1.out HI.out.1)) (RS.out.go (up B1.out HI.out.1)) (RQ.out.go (up B1.out HI.out.1)) ((Hfr.out.mono fun z hz => ⟨hz.2.1, rfl⟩ : RdS (· < w.heap.size) w f.op fa f.op.length fc).go (up B1.out HI.out.1)) hq).mono ?_
      rintro e W' ⟨xa, xc, ya, yc, pa, pc, rfl, t1, t2, t3, hb⟩
      go_wp2_with fail
      refine step3_done rfl ?_ ?_ ?_
      · exact (toI HIp ⟨up HI.out.1 hb, fun h => absurd ((HL.out.2 13 (by simp)).symm.trans h) (by simp)⟩)
      · exact hb
      · exact (toV HV ⟨_, _, rfl, LkVal.deep ⟨xa, xc, ya, yc, rfl, t1, t2⟩ hzW, PsVal.deep ⟨pa, pc, rfl, t3⟩ hzW⟩)
    · obtain ⟨y7, z7, u7, h7, k7⟩ := hV
      simp only [u7]
      have U7 := Lib.hid u7
      clear u7
      have HI := Lib.hid hI
      clear hI
      go_wp2_with fail
      refine step3_done rfl ?_ ?_ ?_
      · exact (toI HIp HI.out)
      · exact (Below.refl _ _)
      · exact (toV HV ⟨_, _, rfl, h7, k7⟩)
    · obtain ⟨y8, z8, u8, h8, k8⟩ := hV
      simp only [u8]
      have U8 := Lib.hid u8
      clear u8
      have HI := Lib.hid hI
      clear hI
      go_wp2_with fail
      refine step3_done rfl ?_ ?_ ?_
      · exact (toI HIp HI.out)
      · exact (Below.refl _ _)
      · exact (toV HV ⟨_, rfl, h8⟩)
    · obtain ⟨y8, z8, u8, h8, k8⟩ := hV
      simp only [u8]
      have U8 := Lib.hid u8
      clear u8
      have HI := Lib.hid hI
      clear hI
      go_wp2_with fail
      refine step3_done rfl ?_ ?_ ?_
      · exact (toI HIp HI.out)
      · exact (Below.refl _ _)
      · exact (toV HV ⟨_, rfl, k8⟩)
    · obtain ⟨y8, z8, u8, h8, k8⟩ := hV
      simp only [u8]
      have U8 := Lib.hid u8
      clear u8
      have HI := Lib.hid hI
      clear hI
      go_wp2_with fail
      refine step3_done rfl ?_ ?_ ?_
      · exact (toI HIp HI.out)
      · exact (Below.refl _ _)
      · exact (toV HV rfl)
    · clear hV
      have HL := Lib.hid hL
      have HI := Lib.hid hI
      have hzW := hI.1.size
      clear hI hL
      go_wp2_with fail
      have uW : ∀ o, Below W.heap.size W (W.alloc o) := fun o => (Below.refl _ _).alloc (Nat.le_refl _) o
      refine step3_done rfl ?_ ?_ ?_
      · exact (toI HIp ⟨up HI.out.1 (uW _), fun h => absurd ((HL.out.2 13 (by simp)).symm.trans h) (by simp)⟩)
      · exact (uW _)
      · exact (toV HV ⟨_, rfl, hzW, Blk.new _ _⟩)
    · obtain ⟨⟨y9, u9, h9⟩, ⟨g12, u12, l12, b12⟩⟩ := hV
      simp only [u12, u9]
      have U9 := Lib.hid u9
      have U12 := Lib.hid u12
      clear u9 u12
      have hoff := fun W' (ht : Touch (fun z => z = g12) W W') => h9.off b12 ht
      obtain ⟨sb, sd, qb, qd, rfl, -, -⟩ := h9
      obtain ⟨q0, q1, q2, q3, q4⟩ := blk_cells5 b12
      have fW := b12.frozen
      have hg9 := b12.lt
      have B7 := Lib.hid (blk_set5 b12 (.int .i64 l'.epoch) (.int .i64 l'.next) (.slice sb l'.sent.length sd) (.slice qb l'.queue.length qd) (.int .i64 l'.heard))
      have HT := Lib.hid (touch5 W g12 (.int .i64 l'.epoch) (.int .i64 l'.next) (.slice sb l'.sent.length sd) (.slice qb l'.queue.length qd) (.int .i64 l'.heard))
      have HLV := Lib.hid (hoff _ HT.out)
      have HI := Lib.hid hI
      have HB9 := Lib.hid b12
      clear hI b12 hoff
      go_wp2_with fail
      refine step3_done rfl (toI HIp ⟨HI.out.1.trans (HT.out.toBelow HI.out.1.size (fun k hk => by omega)), fun _ => ⟨g12, U12.out, l12, ?_⟩⟩) ⟨g12, HB9.out, HT.out, l12⟩ (toV HV rfl)
      obtain ⟨sb', sd', qb', qd', e', t1, t2⟩ := HLV.out
      simp only [Value.agg.injEq, Array.mk.injEq, List.cons.injEq, Value.slice.injEq, true_and, and_true] at e'
      obtain ⟨⟨rfl, rfl⟩, rfl, rfl⟩ := e'
      exact ⟨sb, sd, qb, qd, B7.out, t1, t2⟩
    · obtain ⟨y10, u10, h10⟩ := hV
      simp only [u10]
      have U10 := Lib.hid u10
      clear u10
      have HI := Lib.hid hI
      clear hI
      go_wp2_with fail
      refine step3_done rfl ?_ ?_ ?_
      · exact (toI HIp HI.out)
      · exact (Below.refl _ _)
      · exact (toV HV ⟨_, rfl, h10⟩)
    · have u11 := hV
      clear hV
      simp only [u11]
      clear u11
      have HI := Lib.hid hI
      clear hI
      go_wp2_with fail
      refine step3_done rfl ?_ ?_ ?_
      · exact (toI HIp HI.out)
      · exact (Below.refl _ _)
      · exact (toV HV rfl)
  case fin =>
    intro x W L hL hI hV
    replace hI : (Below w1.heap.size w1 W ∧ (L 13 = true → ∃ gL, x 12 = .pointer (some ⟨gL, 0, none⟩) ∧ w1.heap.size ≤ gL ∧ LkBox w1.heap.size gL l' W)) := ofI HIp hI
    rw [HV.out] at hV
    simp only [AllV, and_true] at hV
    obtain ⟨u0, u1, u2, u3, u4, u5, u6, ⟨y7, z7, u7, h7, k7⟩, ⟨y8, z8, u8, h8, k8⟩, ⟨y10, u10, h10⟩, u11, u13, ⟨y14, u14, h14⟩, u15⟩ := hV
    simp only [getsD, List.getD_cons_succ, List.getD_cons_zero, List.length_cons, List.length_nil, List.range, List.range.loop, u0, u1, u2, u3, u4, u5, u6, u7, u8, u10, u11, u13, u14, u15, Act.put, List.setIfInBounds_toArray, List.set_cons_succ, List.set_cons_zero]
    clear u0 u1 u2 u3 u4 u5 u6 u7 u8 u10 u11 u13 u14 u15
    obtain ⟨gL, hxL, hlL, bL⟩ := hI.2 (hL 13 (by simp))
    have hb := hI.1
    simp only [hxL]
    obtain ⟨w2, rfl⟩ : ∃ x : World, x = W := ⟨_, rfl⟩
    have B2 := Lib.hid (up B1.out hb)
    obtain ⟨sb, sd, qb, qd, bL2, rl1, rl2⟩ := bL
    have XL := Lib.hid bL2
    have RL := Lib.hid (And.intro rl1 rl2)
    obtain ⟨pa, pc, rfl, rp⟩ := h14
    have RP := Lib.hid rp
    have hz12 := hb.size
    have hzgL := bL2.lt
    have M2 := Lib.hid (HM.out.go B2.out)
    have XF2 := Lib.hid (XF.out.go hb)
    have BX2 := Lib.hid (BX.out.go B2.out)
    clear hI hL hb bL2 rl1 rl2 rp HS RS RQ B1 XF BX
    go_wp2_with fail
    obtain ⟨Vp, HV⟩ : ∃ Vp : Nat → Value → World → Prop, Hid (Vp = fun i v W => match i with
        | 0 => v = .pointer (some ⟨g, 0, none⟩)
        | 1 => v = .int .i64 0
        | 2 => v = .agg #[.int .i64 l'.epoch, .int .i64 l'.next, .slice sb l'.sent.length sd, .slice qb l'.queue.length qd, .int .i64 l'.heard]
        | 3 => v = .pointer (some ⟨g, 0, none⟩)
        | 4 => v = .pointer (some ⟨g, 0, none⟩)
        | 5 => v = .pointer (some ⟨g, 0, none⟩)
        | _ => v = undef) := ⟨_, rfl⟩
    obtain ⟨Ip, HIp⟩ : ∃ Ip : (Nat → Bool) → (Nat → Value) → World → Prop, Hid (Ip = fun L x W => (Touch (fun z => z = g) w2 W ∧ (L 6 = false → Blk g (.cells #[.int .i64 c.e0.epoch, .int .i64 c.e0.next, .slice a0 c.e0.sent.length c0, .slice b0 c.e0.queue.length d0, .int .i64 c.e0.heard, .int .i64 c.e1.epoch, .int .i64 c.e1.next, .slice a1 c.e1.sent.length c1, .slice b1 c.e1.queue.length d1, .int .i64 c.e1.heard, vs 0, vs 1, vs 2, vs 3, vs 4, vs 5] 39 (0, 0)) W) ∧ (L 6 = true → Blk g (.cells #[.int .i64 l'.epoch, .int .i64 l'.next, .slice sb l'.sent.length sd, .slice qb l'.queue.length qd, .int .i64 l'.heard, .int .i64 c.e1.epoch, .int .i64 c.e1.next, .slice a1 c.e1.sent.length c1, .slice b1 c.e1.queue.length d1, .int .i64 c.e1.heard, vs 0, vs 1, vs 2, vs 3, vs 4, vs 5] 39 (0, 0)) W))) := ⟨_, rfl⟩
    refine region_lit3 (by kernel_rfl) (by kernel_rfl) (by kernel_rfl) [[], [], [], [0], [0, 3], [0, 1, 3, 4], [0, 1, 2, 3, 4, 5]] (by kernel_rfl) [some 22, some 23, some 24, some 25, some 26, some 27, none] (by kernel_rfl) [[0, 3, 4, 5, 6], [1, 5, 6], [2, 6], [3, 4, 5, 6], [4, 5, 6], [5, 6], [6]] (by kernel_rfl) [[], [], [], [], [], [], []] [[], [], [], [0], [3], [1, 4], [2, 5]] (by kernel_rfl)
      Ip
      Vp
      (fun j W W' => match j with
        | 6 => Touch (fun z => z = g) W W'
        | _ => Below W.heap.size W W')
      [fun x => ⟨(fZm 0 (.pointer (some ⟨g, 0, none⟩)) (fEm 22)).toArray, []⟩,
   fun x => ⟨(fZm 1 (.int .i64 0) (fEm 22)).toArray, []⟩,
   fun x => ⟨(fZm 7 (.pointer (some ⟨gL, 0, none⟩)) (fEm 17)).toArray, []⟩,
   fun x => ⟨(fZm 22 (x 0) (fEm 3)).toArray, []⟩,
   fun x => ⟨(fZm 25 (x 3) (fEm 1)).toArray, []⟩,
   fun x => ⟨(fZm 23 (x 1) (fZm 2 (x 4) (fEm 1))).toArray, []⟩,
   fun x => ⟨(fZm 24 (x 2) (fZm 2 (x 5) [])).toArray, []⟩]
      ?hF ?mono ?h0 ?step [0, 1, 2, 3, 4, 5, 6] (by kernel_rfl) ?fin
    case hF =>
      iterate 7 refine ⟨fun x => ⟨by kernel_rfl, by kernel_rfl⟩, ?_⟩
      trivial
    case mono =>
      intro i j hi hj hne hna hnk v W W' hE hv
      rw [HV.out] at hv ⊢
      simp only [List.length_cons, List.length_nil] at hi hj
      match i, hi with
      | 0, _ | 1, _ | 2, _ | 3, _ | 4, _ | 5, _ | 6, _ => exact hv
      | m + 7, h => exact absurd h (by omega)
    case h0 => intro x; exact toI HIp ⟨(Touch.refl _ _).drew, (fun _ => BX2.out), (fun h => by cases h)⟩
    case step =>
      refine ⟨?_, ?_, ?_, ?_, ?_, ?_, ?_, trivial⟩
      all_goals
        intro x W L hI hL hV
        replace hI : (Touch (fun z => z = g) w2 W ∧ (L 6 = false → Blk g (.cells #[.int .i64 c.e0.epoch, .int .i64 c.e0.next, .slice a0 c.e0.sent.length c0, .slice b0 c.e0.queue.length d0, .int .i64 c.e0.heard, .int .i64 c.e1.epoch, .int .i64 c.e1.next, .slice a1 c.e1.sent.length c1, .slice b1 c.e1.queue.length d1, .int .i64 c.e1.heard, vs 0, vs 1, vs 2, vs 3, vs 4, vs 5] 39 (0, 0)) W) ∧ (L 6 = true → Blk g (.cells #[.int .i64 l'.epoch, .int .i64 l'.next, .slice sb l'.sent.length sd, .slice qb l'.queue.length qd, .int .i64 l'.heard, .int .i64 c.e1.epoch, .int .i64 c.e1.next, .slice a1 c.e1.sent.length c1, .slice b1 c.e1.queue.length d1, .int .i64 c.e1.heard, vs 0, vs 1, vs 2, vs 3, vs 4, vs 5] 39 (0, 0)) W)) := ofI HIp hI
        rw [HV.out] at hV
        simp only [AllV, and_true] at hV
        dsimp only [fZm, fEm, List.reduceReplicate, List.cons_append, List.nil_append]
      · clear hV
        have HI := Lib.hid hI
        clear hI
        go_wp2_with fail
        refine step3_done rfl ?_ ?_ ?_
        · exact (toI HIp HI.out)
        · exact (Below.refl _ _)
        · exact (toV HV rfl)
      · clear hV
        have HI := Lib.hid hI
        clear hI
        go_wp2_with fail
        refine step3_done rfl ?_ ?_ ?_
        · exact (toI HIp HI.out)
        · exact (Below.refl _ _)
        · exact (toV HV rfl)
      · clear hV
        obtain ⟨q0, q1, q2, q3, q4⟩ := blk_cells5 (XL.out.touch hI.1 (by omega))
        have HI := Lib.hid hI
        clear hI
        go_wp2_with fail
        refine step3_done rfl ?_ ?_ ?_
        · exact (toI HIp HI.out)
        · exact (Below.refl _ _)
        · exact (toV HV rfl)
      · have u0 := hV
        clear hV
        simp only [u0]
        clear u0
        have HI := Lib.hid hI
        clear hI
        go_wp2_with fail
        refine step3_done rfl ?_ ?_ ?_
        · exact (toI HIp HI.out)
        · exact (Below.refl _ _)
        · exact (toV HV rfl)
      · have u3 := hV
        clear hV
        simp only [u3]
        clear u3
        have HI := Lib.hid hI
        clear hI
        go_wp2_with fail
        refine step3_done rfl ?_ ?_ ?_
        · exact (toI HIp HI.out)
        · exact (Below.refl _ _)
        · exact (toV HV rfl)
      · obtain ⟨u1, u4⟩ := hV
        simp only [u1, u4]
        clear u1 u4
        have HI := Lib.hid hI
        clear hI
        go_wp2_with fail
        refine step3_done rfl ?_ ?_ ?_
        · exact (toI HIp HI.out)
        · exact (Below.refl _ _)
        · exact (toV HV rfl)
      · obtain ⟨u2, u5⟩ := hV
        simp only [u2, u5]
        clear u2 u5
        have bM := hI.2.1 (hL.2 6 (by simp))
        obtain ⟨⟨p0, p1, p2, p3, p4⟩, ⟨p5, p6, p7, p8, p9⟩, -⟩ := blk16_cells bM
        have fW := bM.frozen
        have hlt := bM.lt
        have HL := Lib.hid hL
        have HI := Lib.hid hI
        clear hI hL bM
        go_wp2_with fail
        have ht := ((((touch1 (w := W) (g := g) (i := 0) (.int .i64 l'.epoch)).trans (touch1 (g := g) (i := 1) (.int .i64 l'.next))).trans (touch1 (g := g) (i := 2) (.slice sb l'.sent.length sd))).trans (touch1 (g := g) (i := 3) (.slice qb l'.queue.length qd))).trans (touch1 (g := g) (i := 4) (.int .i64 l'.heard))
        refine step3_done (v := undef) rfl ?_ ?_ ?_
        · exact (toI HIp ⟨HI.out.1.trans ht, (fun h => absurd h (by simp [setB])), (fun _ => ((((((HI.out.2.1 (HL.out.2 6 (by simp))).set 0 (.int .i64 l'.epoch)).set 1 (.int .i64 l'.next)).set 2 (.slice sb l'.sent.length sd)).set 3 (.slice qb l'.queue.length qd)).set 4 (.int .i64 l'.heard)))⟩)
        · exact ht
        · exact (toV HV rfl)
    case fin =>
      intro x W L hL hI hV
      replace hI : (Touch (fun z => z = g) w2 W ∧ (L 6 = false → Blk g (.cells #[.int .i64 c.e0.epoch, .int .i64 c.e0.next, .slice a0 c.e0.sent.length c0, .slice b0 c.e0.queue.length d0, .int .i64 c.e0.heard, .int .i64 c.e1.epoch, .int .i64 c.e1.next, .slice a1 c.e1.sent.length c1, .slice b1 c.e1.queue.length d1, .int .i64 c.e1.heard, vs 0, vs 1, vs 2, vs 3, vs 4, vs 5] 39 (0, 0)) W) ∧ (L 6 = true → Blk g (.cells #[.int .i64 l'.epoch, .int .i64 l'.next, .slice sb l'.sent.length sd, .slice qb l'.queue.length qd, .int .i64 l'.heard, .int .i64 c.e1.epoch, .int .i64 c.e1.next, .slice a1 c.e1.sent.length c1, .slice b1 c.e1.queue.length d1, .int .i64 c.e1.heard, vs 0, vs 1, vs 2, vs 3, vs 4, vs 5] 39 (0, 0)) W)) := ofI HIp hI
      rw [HV.out] at hV
      simp only [AllV, and_true] at hV
      obtain ⟨u0, u1, u2, u3, u4, u5, u6⟩ := hV
      simp only [getsD, List.getD_cons_succ, List.getD_cons_zero, List.length_cons, List.length_nil, List.range, List.range.loop, u0, u1, u2, u3, u4, u5, u6, Act.put, List.setIfInBounds_toArray, List.set_cons_succ, List.set_cons_zero]
      clear u0 u1 u2 u3 u4 u5 u6
      have hT := hI.1
      have hB := hI.2.2 (hL 6 (by simp))
      obtain ⟨w3, rfl⟩ : ∃ x : World, x = W := ⟨_, rfl⟩
      have hz23 := hT.size
      obtain ⟨⟨a0', c0', b0', d0', a1', c1', b1', d1', bo, r0, r1, r2, r3⟩, o0, o1, o2, o3, o4, o5⟩ := M2.out.rest hT
      have hfree : ∀ z, Fresh w1.heap.size w2 z → Free base g vs w3 z ∧ w3.heap[z]? = w2.heap[z]? := fun z hz => by
        obtain ⟨z1, z2⟩ := hz
        exact ⟨⟨by omega, by omega, by omega, fun q hq e => by have := (Hrow.out q hq z e).2; omega⟩, hT.block z z2 (by omega)⟩
      have eo : ∀ q u, (#[.int .i64 c.e0.epoch, .int .i64 c.e0.next, .slice a0 c.e0.sent.length c0, .slice b0 c.e0.queue.length d0, .int .i64 c.e0.heard, .int .i64 c.e1.epoch, .int .i64 c.e1.next, .slice a1 c.e1.sent.length c1, .slice b1 c.e1.queue.length d1, .int .i64 c.e1.heard, vs 0, vs 1, vs 2, vs 3, vs 4, vs 5] : Array Value)[q]? = some u → w2.cell? ⟨g, q, none⟩ = some u := fun q u hu => (BX2.out.cell q).trans hu
      have bo2 := bo
      have g1 := Option.some.inj ((bo.cell 7).symm.trans (BX2.out.cell 7))
      have g2 := Option.some.inj ((bo.cell 8).symm.trans (BX2.out.cell 8))
      have g1' : Value.slice a1' c.e1.sent.length c1' = .slice a1 c.e1.sent.length c1 := g1
      have g2' : Value.slice b1' c.e1.queue.length d1' = .slice b1 c.e1.queue.length d1 := g2
      injection g1' with g3 g4 g5
      injection g2' with g6 g7 g8
      subst g3 g5 g6 g8
      have M3 : Hid (CabM base g { c with e0 := l' } vs w3) := ⟨⟨sb, sd, qb, qd, a1', c1', b1', d1', hB, RL.out.1.mono hfree, RL.out.2.mono hfree, r2, r3⟩, o0, o1, o2, o3, o4, o5, HM.out.gb, HM.out.ne, HM.out.di⟩
      have T3 := Lib.hid hT
      have RP3 := Lib.hid (RP.out.past2 hT (fun z hz e => by have hz1' := hz.1; omega))
      have XF3 := Lib.hid (XF2.out.touch hT (by omega))
      have B3 : Hid (Below base w w3) := ((Touch.of_below (S := fun _ => False) B2.out).toBelow (by omega) (fun k hk => hk.elim)).trans (hT.toBelow (by have := B2.out.size; omega) (fun k hk => by omega))
      have hz02 := B2.out.size
      have Hfr3 : Hid (∀ z, Free base g vs w z → Free base g vs w3 z ∧ w3.heap[z]? = w.heap[z]?) := fun z hz => ⟨⟨hz.1, by have := hz.2.1; omega, hz.2.2⟩, (hT.block z (by have := hz.2.1; omega) hz.2.2.1).trans (B2.out.block z hz.2.1)⟩
      clear hI hL hT hB bo bo2 eo r0 r1 r2 r3 o0 o1 o2 o3 o4 o5 hfree M2 XL RL RP XF2 BX2 B2
      go_wp2_with fail
      obtain ⟨va, vn, hvj, hvc, hvm, -⟩ := M3.out.o1.form
      have Hvj := Lib.hid hvj
      have hvn : va = none → vn = 0 := by
        intro e
        rcases M3.out.o1.row with ⟨a', hv, -, -⟩ | ⟨q, o, cap, hv, -⟩
        · rw [hvj] at hv; injection hv
        · rw [hvj] at hv; injection hv with e1; rw [e] at e1; cases e1
      clear hvj
      obtain ⟨Vp, HV⟩ : ∃ Vp : Nat → Value → World → Prop, Hid (Vp = fun i v W => match i with
          | 0 => v = .pointer (some ⟨g, 0, none⟩)
          | 1 => v = .int .i64 0
          | 2 => v = .int .i64 1
          | 3 => v = .pointer (some ⟨g, 0, none⟩)
          | 4 => v = .int .i64 0
          | 5 => v = .int .i64 1
          | 6 => v = .pointer (some ⟨g, 0, none⟩)
          | 7 => v = .pointer (some ⟨g, 10, none⟩)
          | 8 => v = .pointer (some ⟨g, 11, none⟩)
          | 9 => v = vs 1
          | 10 => v = .slice pa ps.length pc
          | 11 => ∃ a n c, v = .slice a n c ∧ (∀ z, (Value.slice a n c).ownBlock = some z → (vs 1).ownBlock = some z ∨ w3.heap.size ≤ z)
          | 12 => v = .pointer (some ⟨g, 0, none⟩)
          | 13 => v = .pointer (some ⟨g, 10, none⟩)
          | 14 => v = .pointer (some ⟨g, 11, none⟩)
          | _ => v = undef) := ⟨_, rfl⟩
      obtain ⟨Ip, HIp⟩ : ∃ Ip : (Nat → Bool) → (Nat → Value) → World → Prop, Hid (Ip = fun L x W => (Touch (fun z => z = g ∨ (vs 1).ownBlock = some z) w3 W ∧ (L 11 = false → CabM base g { c with e0 := l' } vs W) ∧ (L 11 = true → L 15 = false → CabG base g { c with e0 := l', f1 := c.f1 ++ ps } vs (fun q => if q = 1 then x 11 else vs q) W) ∧ (L 15 = true → ∃ vs', CabM base g { c with e0 := l', f1 := c.f1 ++ ps } vs' W ∧ (∀ q, q < 6 → ∀ z, (vs' q).ownBlock = some z → (∃ q', q' < 6 ∧ (vs q').ownBlock = some z) ∨ w3.heap.size ≤ z)))) := ⟨_, rfl⟩
      refine region_lit3 (by kernel_rfl) (by kernel_rfl) (by kernel_rfl) [[], [], [1], [], [], [4], [3], [3, 6], [3, 4, 5, 6, 7], [3, 4, 5, 6, 7, 8], [], [3, 4, 5, 6, 7, 8, 9, 10], [0], [0, 12], [0, 1, 2, 12, 13], [0, 1, 2, 3, 4, 5, 6, 7, 8, 9, 10, 11, 12, 13, 14]] (by kernel_rfl) [some 28, some 29, some 30, some 31, some 32, some 33, some 34, some 35, some 36, some 37, some 38, some 39, some 40, some 41, some 42, none] (by kernel_rfl) [[0, 12, 13, 14, 15], [1, 2, 14, 15], [2, 14, 15], [3, 6, 7, 8, 9, 11, 15], [4, 5, 8, 9, 11, 15], [5, 8, 9, 11, 15], [6, 7, 8, 9, 11, 15], [7, 8, 9, 11, 15], [8, 9, 11, 15], [9, 11, 15], [10, 11, 15], [11, 15], [12, 13, 14, 15], [13, 14, 15], [14, 15], [15]] (by kernel_rfl) [[], [], [], [], [], [], [], [], [], [], [], [], [], [], [], []] [[], [], [1], [], [], [4], [3], [6], [5, 7], [8], [], [9, 10], [0], [12], [2, 13], [11, 14]] (by kernel_rfl)
        Ip
        Vp
        (fun j W W' => match j with
          | 11 => W.grownBy W' (vs 1).ownBlock
          | 15 => Touch (fun z => z = g) W W'
          | _ => Below W.heap.size W W')
        [fun x => ⟨(fZm 0 (.pointer (some ⟨g, 0, none⟩)) (fEm 28)).toArray, []⟩,
   fun x => ⟨(fZm 1 (.int .i64 0) (fEm 28)).toArray, []⟩,
   fun x => ⟨(fZm 29 (x 1) (fEm 1)).toArray, []⟩,
   fun x => ⟨(fZm 0 (.pointer (some ⟨g, 0, none⟩)) (fEm 31)).toArray, []⟩,
   fun x => ⟨(fZm 1 (.int .i64 0) (fEm 31)).toArray, []⟩,
   fun x => ⟨(fZm 32 (x 4) (fEm 1)).toArray, []⟩,
   fun x => ⟨(fZm 31 (x 3) (fEm 3)).toArray, []⟩,
   fun x => ⟨(fZm 34 (x 6) (fEm 1)).toArray, []⟩,
   fun x => ⟨(fZm 33 (x 5) (fZm 1 (x 7) (fEm 1))).toArray, []⟩,
   fun x => ⟨(fZm 36 (x 8) (fEm 1)).toArray, []⟩,
   fun x => ⟨(fZm 8 (.slice pa ps.length pc) (fEm 30)).toArray, []⟩,
   fun x => ⟨(fZm 37 (x 9) (fZm 0 (x 10) (fEm 1))).toArray, []⟩,
   fun x => ⟨(fZm 28 (x 0) (fEm 12)).toArray, []⟩,
   fun x => ⟨(fZm 40 (x 12) (fEm 1)).toArray, []⟩,
   fun x => ⟨(fZm 30 (x 2) (fZm 10 (x 13) (fEm 1))).toArray, []⟩,
   fun x => ⟨(fZm 39 (x 11) (fZm 2 (x 14) [])).toArray, []⟩]
        ?hF ?mono ?h0 ?step [0, 1, 2, 3, 4, 5, 6, 7, 8, 9, 10, 11, 12, 13, 14, 15] (by kernel_rfl) ?fin
      case hF =>
        iterate 16 refine ⟨fun x => ⟨by kernel_rfl, by kernel_rfl⟩, ?_⟩
        trivial
      case mono =>
        intro i j hi hj hne hna hnk v W W' hE hv
        rw [HV.out] at hv ⊢
        simp only [List.length_cons, List.length_nil] at hi hj
        match i, hi with
        | 0, _ | 1, _ | 2, _ | 3, _ | 4, _ | 5, _ | 6, _ | 7, _ | 8, _ | 9, _ | 10, _ | 12, _ | 13, _ | 14, _ | 15, _ => exact hv
        | 11, _ =>
          match j, hj with
          | 11, _ => exact absurd rfl hne
          | 3, _ | 4, _ | 5, _ | 6, _ | 7, _ | 8, _ | 9, _ | 10, _ => exact absurd (by simp) hna
          | 0, _ | 1, _ | 2, _ | 12, _ | 13, _ | 14, _ | 15, _ => exact (id hv)
          | m + 16, h => exact absurd h (by omega)
        | m + 16, h => exact absurd h (by omega)
      case h0 => intro x; exact toI HIp ⟨(Touch.refl _ _).drew, (fun _ => M3.out.go (Below.refl _ _).drew), (fun h => by cases h), (fun h => by cases h)⟩
      case step =>
        refine ⟨?_, ?_, ?_, ?_, ?_, ?_, ?_, ?_, ?_, ?_, ?_, ?_, ?_, ?_, ?_, ?_, trivial⟩
        all_goals
          intro x W L hI hL hV
          replace hI : (Touch (fun z => z = g ∨ (vs 1).ownBlock = some z) w3 W ∧ (L 11 = false → CabM base g { c with e0 := l' } vs W) ∧ (L 11 = true → L 15 = false → CabG base g { c with e0 := l', f1 := c.f1 ++ ps } vs (fun q => if q = 1 then x 11 else vs q) W) ∧ (L 15 = true → ∃ vs', CabM base g { c with e0 := l', f1 := c.f1 ++ ps } vs' W ∧ (∀ q, q < 6 → ∀ z, (vs' q).ownBlock = some z → (∃ q', q' < 6 ∧ (vs q').ownBlock = some z) ∨ w3.heap.size ≤ z))) := ofI HIp hI
          rw [HV.out] at hV
          simp only [AllV, and_true] at hV
          dsimp only [fZm, fEm, List.reduceReplicate, List.cons_append, List.nil_append]
        · clear hV
          have HI := Lib.hid hI
          clear hI
          go_wp2_with fail
          refine step3_done rfl ?_ ?_ ?_
          · exact (toI HIp HI.out)
          · exact (Below.refl _ _)
          · exact (toV HV rfl)
        · clear hV
          have HI := Lib.hid hI
          clear hI
          go_wp2_with fail
          refine step3_done rfl ?_ ?_ ?_
          · exact (toI HIp HI.out)
          · exact (Below.refl _ _)
          · exact (toV HV rfl)
        · have u1 := hV
          clear hV
          simp only [u1]
          clear u1
          have HI := Lib.hid hI
          clear hI
          go_wp2_with fail
          refine step3_done rfl ?_ ?_ ?_
          · exact (toI HIp HI.out)
          · exact (Below.refl _ _)
          · exact (toV HV rfl)
        · clear hV
          have HI := Lib.hid hI
          clear hI
          go_wp2_with fail
          refine step3_done rfl ?_ ?_ ?_
          · exact (toI HIp HI.out)
          · exact (Below.refl _ _)
          · exact (toV HV rfl)
        · clear hV
          have HI := Lib.hid hI
          clear hI
          go_wp2_with fail
          refine step3_done rfl ?_ ?_ ?_
          · exact (toI HIp HI.out)
          · exact (Below.refl _ _)
          · exact (toV HV rfl)
        · have u4 := hV
          clear hV
          simp only [u4]
          clear u4
          have HI := Lib.hid hI
          clear hI
          go_wp2_with fail
          refine step3_done rfl ?_ ?_ ?_
          · exact (toI HIp HI.out)
          · exact (Below.refl _ _)
          · exact (toV HV rfl)
        · have u3 := hV
          clear hV
          simp only [u3]
          clear u3
          have HI := Lib.hid hI
          clear hI
          go_wp2_with fail
          refine step3_done rfl ?_ ?_ ?_
          · exact (toI HIp HI.out)
          · exact (Below.refl _ _)
          · exact (toV HV rfl)
        · have u6 := hV
          clear hV
          simp only [u6]
          clear u6
          have HI := Lib.hid hI
          clear hI
          go_wp2_with fail
          refine step3_done rfl ?_ ?_ ?_
          · exact (toI HIp HI.out)
          · exact (Below.refl _ _)
          · exact (toV HV rfl)
        · obtain ⟨u5, u7⟩ := hV
          simp only [u5, u7]
          clear u5 u7
          have HI := Lib.hid hI
          clear hI
          go_wp2_with fail
          refine step3_done rfl ?_ ?_ ?_
          · exact (toI HIp HI.out)
          · exact (Below.refl _ _)
          · exact (toV HV rfl)
        · have u8 := hV
          clear hV
          simp only [u8]
          clear u8
          obtain ⟨_, _, _, _, _, _, _, _, bM, -⟩ := (hI.2.1 (hL.2 11 (by simp))).box
          obtain ⟨-, -, p10, p11, p12, p13, p14, p15⟩ := blk16_cells bM
          have HI := Lib.hid hI
          clear hI bM
          go_wp2_with fail
          refine step3_done rfl ?_ ?_ ?_
          · exact (toI HIp HI.out)
          · exact (Below.refl _ _)
          · exact (toV HV rfl)
        · clear hV
          have HI := Lib.hid hI
          clear hI
          go_wp2_with fail
          refine step3_done rfl ?_ ?_ ?_
          · exact (toI HIp HI.out)
          · exact (Below.refl _ _)
          · exact (toV HV rfl)
        · obtain ⟨u9, u10⟩ := hV
          simp only [u9, u10]
          clear u9 u10
          have hM := hI.2.1 (hL.2 11 (by simp))
          have HL := Lib.hid hL
          have HI := Lib.hid hI
          have HM11 := Lib.hid hM
          have hz6 := hI.1.size
          have hbW : base ≤ W.heap.size := by omega
          by_cases hps0 : ps.length = 0
          · have Hps := Lib.hid hps0
            rw [hps0]
            clear hI hL hM hps0
            go_wp2_with (at_builtin; refine wpList_append_zero rfl _ _ _ (by rfl) 45 k0 Tryd.underlying35 Gi.out va c.f1.length vn (by exact Hvj.out) hvc hvn pa pc (by rfl) ?_)
            have HP : CabG base g { c with e0 := l', f1 := c.f1 ++ ps } vs (fun q => if q = 1 then vs 1 else vs q) W := by
              have e1 : ps = [] := List.eq_nil_of_length_eq_zero Hps.out
              rw [e1, List.append_nil, upd_same]
              exact HM11.out
            rw [Hvj.out] at HP
            have HP' := Lib.hid HP
            clear HP
            go_wp2_with fail
            refine step3_done rfl ?_ ?_ ?_
            · exact (toI HIp ⟨HI.out.1, (fun h => absurd h (by simp [setB])), (fun _ _ => HP'.out), (fun h : L 15 = true => absurd ((HL.out.2 15 (by simp)).symm.trans h) (by simp))⟩)
            · exact ⟨rfl, rfl, rfl, Nat.le_refl _, fun _ _ _ => rfl⟩
            · exact (toV HV ⟨_, _, _, rfl, fun z hz => .inl (by rw [Hvj.out]; exact hz)⟩)
          · obtain ⟨pg, po, hpa, hpA, hpb, hpe⟩ := RP3.out.2.2.2.2 (by omega)
            subst hpa
            have hpA1 := hpA.1
            have hE : Elems (fun b => b < W.heap.size ∧ ¬ OX base g vs 1 b ∧ (vs 1).ownBlock ≠ some b) W pg po ps := hpe.imp (hI.1.block pg hpb (fun h => by
              rcases h with h | h
              · omega
              · have := (Hrow.out 1 (by omega) pg h).2; have := hpA.1; omega)) (fun b hb => by
              have hb1 := hb.1
              have hb2 := hb.2
              refine ⟨⟨by omega, ?_, fun e => by have := (Hrow.out 1 (by omega) b e).2; omega⟩, hI.1.block b hb2 (fun h => by
                rcases h with h | h
                · omega
                · have := (Hrow.out 1 (by omega) b h).2; omega)⟩
              rintro (h | h | ⟨q, hq, -, h⟩)
              · omega
              · omega
              · have := (Hrow.out q hq b h).2; omega)
            have HE := Lib.hid hE
            clear hI hL hM hE hpe
            go_wp2_with (at_builtin; refine wpList_append_manyO rfl _ _ _ (by rfl) base 45 k0 _ 96 Tryd.underlying35 Gi.out Gz0.out Gz1.out Gz2.out rfl (vs 1) c.f1 ps (by rfl) HM11.out.o1 pg po pc (by rfl) HE.out (by omega) (by unfold maxLen; omega) (by omega) hbW ?_)
            intro g2 o2 cap w7 hown7 hgrow hat hlt7
            have hv7 : ∀ k, (Value.slice (some ⟨g2, o2, none⟩) (c.f1.length + ps.length) cap).ownBlock = some k → (vs 1).ownBlock = some k ∨ W.heap.size ≤ k := fun k hk => by
              have e : g2 = k := by simpa [Value.ownBlock] using hk
              subst e
              exact hat
            have HV7 : Hid (∀ z, (Value.slice (some ⟨g2, o2, none⟩) (c.f1.length + ps.length) cap).ownBlock = some z → (vs 1).ownBlock = some z ∨ w3.heap.size ≤ z) := fun z hz => by
              rcases hv7 z hz with h | h
              · exact .inl h
              · exact .inr (by omega)
            have HG := Lib.hid hgrow
            have HP := Lib.hid (HM11.out.grow1 hgrow hown7 hv7)
            have HT := Lib.hid (HI.out.1.grown hgrow (fun k hk => .inl (.inr hk)))
            clear hgrow hown7 hat HI HM11 HE hv7
            go_wp2_with fail
            refine step3_done rfl ?_ ?_ ?_
            · exact (toI HIp ⟨HT.out, (fun h => absurd h (by simp [setB])), (fun _ _ => HP.out), (fun h : L 15 = true => absurd ((HL.out.2 15 (by simp)).symm.trans h) (by simp))⟩)
            · exact HG.out
            · exact (toV HV ⟨_, _, _, rfl, HV7.out⟩)
        · have u0 := hV
          clear hV
          simp only [u0]
          clear u0
          have HI := Lib.hid hI
          clear hI
          go_wp2_with fail
          refine step3_done rfl ?_ ?_ ?_
          · exact (toI HIp HI.out)
          · exact (Below.refl _ _)
          · exact (toV HV rfl)
        · have u12 := hV
          clear hV
          simp only [u12]
          clear u12
          have HI := Lib.hid hI
          clear hI
          go_wp2_with fail
          refine step3_done rfl ?_ ?_ ?_
          · exact (toI HIp HI.out)
          · exact (Below.refl _ _)
          · exact (toV HV rfl)
        · obtain ⟨u2, u13⟩ := hV
          simp only [u2, u13]
          clear u2 u13
          have HI := Lib.hid hI
          clear hI
          go_wp2_with fail
          refine step3_done rfl ?_ ?_ ?_
          · exact (toI HIp HI.out)
          · exact (Below.refl _ _)
          · exact (toV HV rfl)
        · obtain ⟨⟨a11, n11, c11, u11, t11⟩, u14⟩ := hV
          simp only [u11, u14]
          have U11 := Lib.hid u11
          clear u11 u14
          have hM := hI.2.2.1 (hL.1 11 (by simp)) (hL.2 15 (by simp))
          rw [U11.out] at hM
          obtain ⟨_, _, _, _, _, _, _, _, bM, -⟩ := hM.box
          obtain ⟨-, -, p10, p11, p12, p13, p14, p15⟩ := blk16_cells bM
          have fW := bM.frozen
          have hlt := bM.lt
          have HL := Lib.hid hL
          have HI := Lib.hid hI
          have HM15 := Lib.hid hM
          clear hI hL hM bM
          go_wp2_with fail
          have ht := touch1 (w := W) (g := g) (i := 11) (.slice a11 n11 c11)
          have hrow' : ∀ q, q < 6 → ∀ z, ((fun q => if q = 1 then Value.slice a11 n11 c11 else vs q) q).ownBlock = some z → (∃ q', q' < 6 ∧ (vs q').ownBlock = some z) ∨ w3.heap.size ≤ z := fun q hq z hz => by
            by_cases e : q = 1
            · simp only [if_pos e] at hz
              rcases t11 z hz with h | h
              · exact .inl ⟨1, by omega, h⟩
              · exact .inr h
            · simp only [if_neg e] at hz
              exact .inl ⟨q, hq, hz⟩
          refine step3_done (v := undef) rfl ?_ ?_ ?_
          · exact (toI HIp ⟨HI.out.1.trans (ht.mono fun k _ hk => .inl hk), (fun h : L 11 = false => absurd ((HL.out.1 11 (by simp)).symm.trans h) (by simp)), (fun _ h => absurd h (by simp [setB])), (fun _ => ⟨_, HM15.out.put ht (fun _ _ _ _ _ _ _ _ b => b.set 11 _), hrow'⟩)⟩)
          · exact ht
          · exact (toV HV rfl)
      case fin =>
        intro x W L hL hI hV
        replace hI : (Touch (fun z => z = g ∨ (vs 1).ownBlock = some z) w3 W ∧ (L 11 = false → CabM base g { c with e0 := l' } vs W) ∧ (L 11 = true → L 15 = false → CabG base g { c with e0 := l', f1 := c.f1 ++ ps } vs (fun q => if q = 1 then x 11 else vs q) W) ∧ (L 15 = true → ∃ vs', CabM base g { c with e0 := l', f1 := c.f1 ++ ps } vs' W ∧ (∀ q, q < 6 → ∀ z, (vs' q).ownBlock = some z → (∃ q', q' < 6 ∧ (vs q').ownBlock = some z) ∨ w3.heap.size ≤ z))) := ofI HIp hI
        rw [HV.out] at hV
        simp only [AllV, and_true] at hV
        obtain ⟨u0, u1, u2, u3, u4, u5, u6, u7, u8, u9, u10, ⟨a11, n11, c11, u11, t11⟩, u12, u13, u14, u15⟩ := hV
        simp only [getsD, List.getD_cons_succ, List.getD_cons_zero, List.length_cons, List.length_nil, List.range, List.range.loop, u0, u1, u2, u3, u4, u5, u6, u7, u8, u9, u10, u11, u12, u13, u14, u15, Act.put, List.setIfInBounds_toArray, List.set_cons_succ, List.set_cons_zero]
        clear u0 u1 u2 u3 u4 u5 u6 u7 u8 u9 u10 u11 u12 u13 u14 u15
        obtain ⟨vs4, hM4, hr4⟩ := hI.2.2.2 (hL 15 (by simp))
        have hT := hI.1
        obtain ⟨w4, rfl⟩ : ∃ x : World, x = W := ⟨_, rfl⟩
        have hz34 := hT.size
        have M4 := Lib.hid hM4
        have R4 := Lib.hid hr4
        have XF4 := Lib.hid (XF3.out.touch hT (fun h => by
          rcases h with h | h
          · omega
          · have := (Hrow.out 1 (by omega) _ h).2; omega))
        have B4 : Hid (Below base w w4) := B3.out.trans (hT.toBelow (by omega) (fun k hk => by
          rcases hk with hk | hk
          · omega
          · exact (Hrow.out 1 (by omega) k hk).1))
        have Hfr4 : Hid (∀ z, Free base g vs w z → z < w.heap.size ∧ base ≤ z ∧ z ≠ g ∧ (∀ q, q < 6 → (vs4 q).ownBlock ≠ some z) ∧ w4.heap[z]? = w.heap[z]?) := fun z hz => ⟨hz.2.1, hz.1, hz.2.2.1, (fun q hq e => by
          rcases hr4 q hq z e with ⟨q', hq', h⟩ | h
          · exact hz.2.2.2 q' hq' h
          · have := hz.2.1; omega), (hT.block z (by have := hz.2.1; omega) (fun h => by
            rcases h with h | h
            · exact hz.2.2.1 h
            · exact hz.2.2.2 1 (by omega) h)).trans (Hfr3.out z hz).2⟩
        clear hI hL hT hM4 hr4 XF3 B3 M3 RP3 Hfr3 T3
        go_wp2_with fail
        have hrow4 : ∀ z, (vs4 2).ownBlock = some z → base ≤ z ∧ z < w4.heap.size ∧ z ≠ w.heap.size := fun z hz => by
          refine ⟨(M4.out.o2.rowlt z hz).1, (M4.out.o2.rowlt z hz).2, fun e => ?_⟩
          rcases R4.out 2 (by omega) z hz with ⟨q', hq', h⟩ | h
          · have := (Hrow.out q' hq' z h).2; omega
          · omega
        have Hrow4 := Lib.hid hrow4
        clear hrow4
        obtain ⟨Vp, HV⟩ : ∃ Vp : Nat → Value → World → Prop, Hid (Vp = fun i v W => match i with
            | 0 => v = .pointer (some ⟨g, 0, none⟩)
            | 1 => v = .int .i64 0
            | 2 => v = .pointer (some ⟨g, 0, none⟩)
            | 3 => v = .int .i64 0
            | 4 => v = .pointer (some ⟨g, 0, none⟩)
            | 5 => v = .pointer (some ⟨g, 12, none⟩)
            | 6 => v = .pointer (some ⟨g, 12, none⟩)
            | 7 => v = vs4 2
            | 8 => v = .agg #[.int .i64 f.kind, .int .i64 f.heard, .int .i64 f.epoch, .slice fa f.op.length fc, .string f.text]
            | 9 => ∃ b, v = .slice (some ⟨b, 0, none⟩) 1 1 ∧ Blk b (.cells #[.int .i64 f.kind, .int .i64 f.heard, .int .i64 f.epoch, .slice fa f.op.length fc, .string f.text] 30 (0, 0)) W ∧ w4.heap.size ≤ b
            | 10 => ∃ q o n, v = .slice (some ⟨q, o, none⟩) (c.s0.length + 1) n
            | 11 => v = .pointer (some ⟨g, 0, none⟩)
            | 12 => v = .pointer (some ⟨g, 12, none⟩)
            | 13 => v = .pointer (some ⟨g, 12, none⟩)
            | _ => v = undef) := ⟨_, rfl⟩
        obtain ⟨Ip, HIp⟩ : ∃ Ip : (Nat → Bool) → (Nat → Value) → World → Prop, Hid (Ip = fun L x W => (Touch (fun z => z = g ∨ (vs4 2).ownBlock = some z) w4 W ∧ (L 10 = false → CabM base g { c with e0 := l', f1 := c.f1 ++ ps } vs4 W) ∧ (L 10 = true → L 14 = false → CabG base g { c with e0 := l', f1 := c.f1 ++ ps, s0 := c.s0 ++ [f] } vs4 (fun q => if q = 2 then x 10 else vs4 q) W) ∧ (L 14 = true → ∃ vs', CabM base g { c with e0 := l', f1 := c.f1 ++ ps, s0 := c.s0 ++ [f] } vs' W))) := ⟨_, rfl⟩
        refine region_lit3 (by kernel_rfl) (by kernel_rfl) (by kernel_rfl) [[], [], [], [], [2], [2, 4], [2, 3, 4, 5], [2, 3, 4, 5, 6], [], [8], [2, 3, 4, 5, 6, 7, 8, 9], [0], [0, 11], [0, 1, 11, 12], [0, 1, 2, 3, 4, 5, 6, 7, 8, 9, 10, 11, 12, 13]] (by kernel_rfl) [some 43, some 44, some 45, some 46, some 47, some 48, some 49, some 50, some 51, some 52, some 53, some 54, some 55, some 56, none] (by kernel_rfl) [[0, 11, 12, 13, 14], [1, 13, 14], [2, 4, 5, 6, 7, 10, 14], [3, 6, 7, 10, 14], [4, 5, 6, 7, 10, 14], [5, 6, 7, 10, 14], [6, 7, 10, 14], [7, 10, 14], [8, 9, 10, 14], [9, 10, 14], [10, 14], [11, 12, 13, 14], [12, 13, 14], [13, 14], [14]] (by kernel_rfl) [[], [], [], [], [], [], [], [], [], [10, 14], [], [], [], [], []] [[], [], [], [], [2], [4], [3, 5], [6], [], [8], [7, 9], [0], [11], [1, 12], [10, 13]] (by kernel_rfl)
          Ip
          Vp
          (fun j W W' => match j with
            | 10 => W.grownBy W' (vs4 2).ownBlock
            | 14 => Touch (fun z => z = g) W W'
            | _ => Below W.heap.size W W')
          [fun x => ⟨(fZm 0 (.pointer (some ⟨g, 0, none⟩)) (fEm 43)).toArray, []⟩,
   fun x => ⟨(fZm 1 (.int .i64 0) (fEm 43)).toArray, []⟩,
   fun x => ⟨(fZm 0 (.pointer (some ⟨g, 0, none⟩)) (fEm 45)).toArray, []⟩,
   fun x => ⟨(fZm 1 (.int .i64 0) (fEm 45)).toArray, []⟩,
   fun x => ⟨(fZm 45 (x 2) (fEm 2)).toArray, []⟩,
   fun x => ⟨(fZm 47 (x 4) (fEm 1)).toArray, []⟩,
   fun x => ⟨(fZm 46 (x 3) (fZm 1 (x 5) (fEm 1))).toArray, []⟩,
   fun x => ⟨(fZm 49 (x 6) (fEm 1)).toArray, []⟩,
   fun x => ⟨(fZm 5 (.pointer (some ⟨w.heap.size, 0, none⟩)) (fEm 46)).toArray, []⟩,
   fun x => ⟨(fZm 51 (x 8) (fEm 1)).toArray, []⟩,
   fun x => ⟨(fZm 50 (x 7) (fZm 1 (x 9) (fEm 1))).toArray, []⟩,
   fun x => ⟨(fZm 43 (x 0) (fEm 11)).toArray, []⟩,
   fun x => ⟨(fZm 54 (x 11) (fEm 1)).toArray, []⟩,
   fun x => ⟨(fZm 44 (x 1) (fZm 10 (x 12) (fEm 1))).toArray, []⟩,
   fun x => ⟨(fZm 53 (x 10) (fZm 2 (x 13) [])).toArray, []⟩]
          ?hF ?mono ?h0 ?step [0, 1, 2, 3, 4, 5, 6, 7, 8, 10, 11, 12, 13, 14] (by kernel_rfl) ?fin
        case hF =>
          iterate 15 refine ⟨fun x => ⟨by kernel_rfl, by kernel_rfl⟩, ?_⟩
          trivial
        case mono =>
          intro i j hi hj hne hna hnk v W W' hE hv
          rw [HV.out] at hv ⊢
          simp only [List.length_cons, List.length_nil] at hi hj
          match i, hi with
          | 0, _ | 1, _ | 2, _ | 3, _ | 4, _ | 5, _ | 6, _ | 7, _ | 8, _ | 11, _ | 12, _ | 13, _ | 14, _ => exact hv
          | 9, _ =>
            match j, hj with
            | 9, _ => exact absurd rfl hne
            | 8, _ => exact absurd (by simp) hna
            | 10, _ | 14, _ => exact absurd (by simp) hnk
            | 0, _ | 1, _ | 2, _ | 3, _ | 4, _ | 5, _ | 6, _ | 7, _ | 11, _ | 12, _ | 13, _ => exact (by obtain ⟨b, h1, h2, h3⟩ := hv; exact ⟨b, h1, h2.go hE, h3⟩)
            | m + 15, h => exact absurd h (by omega)
          | 10, _ =>
            match j, hj with
            | 10, _ => exact absurd rfl hne
            | 2, _ | 3, _ | 4, _ | 5, _ | 6, _ | 7, _ | 8, _ | 9, _ => exact absurd (by simp) hna
            | 0, _ | 1, _ | 11, _ | 12, _ | 13, _ | 14, _ => exact (id hv)
            | m + 15, h => exact absurd h (by omega)
          | m + 15, h => exact absurd h (by omega)
        case h0 => intro x; exact toI HIp ⟨(Touch.refl _ _).drew, (fun _ => M4.out.go (Below.refl _ _).drew), (fun h => by cases h), (fun h => by cases h)⟩
        case step =>
          refine ⟨?_, ?_, ?_, ?_, ?_, ?_, ?_, ?_, ?_, ?_, ?_, ?_, ?_, ?_, ?_, trivial⟩
          all_goals
            intro x W L hI hL hV
            replace hI : (Touch (fun z => z = g ∨ (vs4 2).ownBlock = some z) w4 W ∧ (L 10 = false → CabM base g { c with e0 := l', f1 := c.f1 ++ ps } vs4 W) ∧ (L 10 = true → L 14 = false → CabG base g { c with e0 := l', f1 := c.f1 ++ ps, s0 := c.s0 ++ [f] } vs4 (fun q => if q = 2 then x 10 else vs4 q) W) ∧ (L 14 = true → ∃ vs', CabM base g { c with e0 := l', f1 := c.f1 ++ ps, s0 := c.s0 ++ [f] } vs' W)) := ofI HIp hI
            rw [HV.out] at hV
            simp only [AllV, and_true] at hV
            dsimp only [fZm, fEm, List.reduceReplicate, List.cons_append, List.nil_append]
          iterate 4
            · clear hV
              have HI := Lib.hid hI
              clear hI
              go_wp2_with fail
              refine step3_done rfl ?_ ?_ ?_
              · exact (toI HIp HI.out)
              · exact (Below.refl _ _)
              · exact (toV HV rfl)
          · have u2 := hV
            clear hV
            simp only [u2]
            clear u2
            have HI := Lib.hid hI
            clear hI
            go_wp2_with fail
            refine step3_done rfl ?_ ?_ ?_
            · exact (toI HIp HI.out)
            · exact (Below.refl _ _)
            · exact (toV HV rfl)
          · have u4 := hV
            clear hV
            simp only [u4]
            clear u4
            have HI := Lib.hid hI
            clear hI
            go_wp2_with fail
            refine step3_done rfl ?_ ?_ ?_
            · exact (toI HIp HI.out)
            · exact (Below.refl _ _)
            · exact (toV HV rfl)
          · obtain ⟨u3, u5⟩ := hV
            simp only [u3, u5]
            clear u3 u5
            have HI := Lib.hid hI
            clear hI
            go_wp2_with fail
            refine step3_done rfl ?_ ?_ ?_
            · exact (toI HIp HI.out)
            · exact (Below.refl _ _)
            · exact (toV HV rfl)
          · have u6 := hV
            clear hV
            simp only [u6]
            clear u6
            obtain ⟨_, _, _, _, _, _, _, _, bM, -⟩ := (hI.2.1 (hL.2 10 (by simp))).box
            obtain ⟨-, -, p10, p11, p12, p13, p14, p15⟩ := blk16_cells bM
            have HI := Lib.hid hI
            clear hI bM
            go_wp2_with fail
            refine step3_done rfl ?_ ?_ ?_
            · exact (toI HIp HI.out)
            · exact (Below.refl _ _)
            · exact (toV HV rfl)
          · clear hV
            obtain ⟨q0, q1, q2, q3, q4⟩ := blk_cells5 (XF4.out.touch hI.1 (fun h => by
              rcases h with h | h
              · omega
              · exact (Hrow4.out _ h).2.2 rfl))
            have HI := Lib.hid hI
            clear hI
            go_wp2_with fail
            refine step3_done rfl ?_ ?_ ?_
            · exact (toI HIp HI.out)
            · exact (Below.refl _ _)
            · exact (toV HV rfl)
          · have u8 := hV
            clear hV
            simp only [u8]
            clear u8
            have HL := Lib.hid hL
            have HI := Lib.hid hI
            have hzW := hI.1.size
            clear hI hL
            go_wp2_with fail
            have uW : ∀ o, Below W.heap.size W (W.alloc o) := fun o => (Below.refl _ _).alloc (Nat.le_refl _) o
            refine step3_done rfl ?_ ?_ ?_
            · exact (toI HIp ⟨HI.out.1.below (uW _) hzW, (fun h => (HI.out.2.1 h).go (uW _)), (fun h => absurd ((HL.out.2 10 (by simp)).symm.trans h) (by simp)), (fun h => absurd ((HL.out.2 14 (by simp)).symm.trans h) (by simp))⟩)
            · exact (uW _)
            · exact (toV HV ⟨_, rfl, Blk.new _ _, hzW⟩)
          · obtain ⟨u7, ⟨g9, u9, b9, l9⟩⟩ := hV
            simp only [u7, u9]
            have U9 := Lib.hid u9
            clear u7 u9
            have hM := hI.2.1 (hL.2 10 (by simp))
            have HL := Lib.hid hL
            have HI := Lib.hid hI
            have HM10 := Lib.hid hM
            have B9 := Lib.hid b9
            have hz6 := hI.1.size
            have hbW : base ≤ W.heap.size := by omega
            have Hy : Hid (Rep.rd (fun z => z < W.heap.size ∧ ¬ OX base g vs4 2 z ∧ (vs4 2).ownBlock ≠ some z) W f [.int .i64 f.kind, .int .i64 f.heard, .int .i64 f.epoch, .slice fa f.op.length fc, .string f.text]) := by
              refine ⟨fa, f.op.length, fc, rfl, Hfr.out.mono fun z hz => ?_, Hff.out⟩
              obtain ⟨z1, z2, z3, z4, z5⟩ := Hfr4.out z hz
              refine ⟨⟨by omega, ?_, z4 2 (by omega)⟩, (hI.1.block z (by omega) (fun h => by
                rcases h with h | h
                · exact z3 h
                · exact z4 2 (by omega) h)).trans z5⟩
              rintro (h | h | ⟨q, hq, -, h⟩)
              · omega
              · exact z3 h
              · exact z4 q hq h
            clear hI hL b9 hM
            go_wp2_with (at_builtin; refine wpList_append_oneO rfl _ _ _ (by rfl) base 30 i0 _ 64 Tryd.underlying31 Hi.out Hz0.out Hz1.out Hz2.out rfl (vs4 2) c.s0 (by rfl) HM10.out.o2 g9 1 _ [.int .i64 f.kind, .int .i64 f.heard, .int .i64 f.epoch, .slice fa f.op.length fc, .string f.text] f (by rfl) B9.out Hy.out (by unfold maxLen; omega) (by omega) hbW ?_)
            intro g2 o2 cap w7 hown7 hgrow hat hlt7
            have HG := Lib.hid hgrow
            have HP := Lib.hid (HM10.out.grow2 hgrow hown7 (fun k hk => by
              have e : g2 = k := by simpa [Value.ownBlock] using hk
              subst e
              exact hat))
            have HT := Lib.hid (HI.out.1.grown hgrow (fun k hk => .inl (.inr hk)))
            clear hgrow hown7 hat HI HM10 B9 Hy
            go_wp2_with fail
            refine step3_done rfl ?_ ?_ ?_
            · exact (toI HIp ⟨HT.out, (fun h => absurd h (by simp [setB])), (fun _ _ => HP.out), (fun h : L 14 = true => absurd ((HL.out.2 14 (by simp)).symm.trans h) (by simp))⟩)
            · exact HG.out
            · exact (toV HV ⟨_, _, _, rfl⟩)
          · have u0 := hV
            clear hV
            simp only [u0]
            clear u0
            have HI := Lib.hid hI
            clear hI
            go_wp2_with fail
            refine step3_done rfl ?_ ?_ ?_
            · exact (toI HIp HI.out)
            · exact (Below.refl _ _)
            · exact (toV HV rfl)
          · have u11 := hV
            clear hV
            simp only [u11]
            clear u11
            have HI := Lib.hid hI
            clear hI
            go_wp2_with fail
            refine step3_done rfl ?_ ?_ ?_
            · exact (toI HIp HI.out)
            · exact (Below.refl _ _)
            · exact (toV HV rfl)
          · obtain ⟨u1, u12⟩ := hV
            simp only [u1, u12]
            clear u1 u12
            have HI := Lib.hid hI
            clear hI
            go_wp2_with fail
            refine step3_done rfl ?_ ?_ ?_
            · exact (toI HIp HI.out)
            · exact (Below.refl _ _)
            · exact (toV HV rfl)
          · obtain ⟨⟨g10, o10, c10, u10⟩, u13⟩ := hV
            simp only [u10, u13]
            have U10 := Lib.hid u10
            clear u10 u13
            have hM := hI.2.2.1 (hL.1 10 (by simp)) (hL.2 14 (by simp))
            rw [U10.out] at hM
            obtain ⟨_, _, _, _, _, _, _, _, bM, -⟩ := hM.box
            obtain ⟨-, -, p10, p11, p12, p13, p14, p15⟩ := blk16_cells bM
            have fW := bM.frozen
            have hlt := bM.lt
            have HL := Lib.hid hL
            have HI := Lib.hid hI
            have HM15 := Lib.hid hM
            clear hI hL hM bM
            go_wp2_with fail
            have ht := touch1 (w := W) (g := g) (i := 12) (.slice (some ⟨g10, o10, none⟩) (c.s0.length + 1) c10)
            refine step3_done (v := undef) rfl ?_ ?_ ?_
            · exact (toI HIp ⟨HI.out.1.trans (ht.mono fun k _ hk => .inl hk), (fun h : L 10 = false => absurd ((HL.out.1 10 (by simp)).symm.trans h) (by simp)), (fun _ h => absurd h (by simp [setB])), (fun _ => ⟨_, HM15.out.put ht (fun _ _ _ _ _ _ _ _ b => b.set 12 _)⟩)⟩)
            · exact ht
            · exact (toV HV rfl)
        case fin =>
          intro x W L hL hI hV
          replace hI : (Touch (fun z => z = g ∨ (vs4 2).ownBlock = some z) w4 W ∧ (L 10 = false → CabM base g { c with e0 := l', f1 := c.f1 ++ ps } vs4 W) ∧ (L 10 = true → L 14 = false → CabG base g { c with e0 := l', f1 := c.f1 ++ ps, s0 := c.s0 ++ [f] } vs4 (fun q => if q = 2 then x 10 else vs4 q) W) ∧ (L 14 = true → ∃ vs', CabM base g { c with e0 := l', f1 := c.f1 ++ ps, s0 := c.s0 ++ [f] } vs' W)) := ofI HIp hI
          rw [HV.out] at hV
          simp only [AllV, and_true] at hV
          obtain ⟨u0, u1, u2, u3, u4, u5, u6, u7, u8, ⟨g10, o10, c10, u10⟩, u11, u12, u13, u14⟩ := hV
          simp only [getsD, List.getD_cons_succ, List.getD_cons_zero, List.length_cons, List.length_nil, List.range, List.range.loop, u0, u1, u2, u3, u4, u5, u6, u7, u8, u10, u11, u12, u13, u14, Act.put, List.setIfInBounds_toArray, List.set_cons_succ, List.set_cons_zero]
          clear u0 u1 u2 u3 u4 u5 u6 u7 u8 u10 u11 u12 u13 u14
          obtain ⟨vs5, hM5⟩ := hI.2.2.2 (hL 14 (by simp))
          have hT := hI.1
          have M5 := Lib.hid hM5
          have B5 : Hid (Below base w W) := B4.out.trans (hT.toBelow (by have := M4.out.gb; omega) (fun k hk => by
            rcases hk with hk | hk
            · omega
            · exact (Hrow4.out k hk).1))
          clear hI hL hT hM5
          go_wp2_with fail
          go_ret
          exact ⟨rfl, ⟨vs5, M5.out⟩, B5.out⟩
set_option maxRecDepth 100000 in
set_option maxHeartbeats 8000000 in
theorem cab_send1 (base g : Nat) (c : Cb) (vs : Nat → Value) (f : Fr) (fa : Option Addr) (fc : Nat) (w : World) (hg : Good w) (h : CabM base g c vs w) (hfr : RdS (Free base g vs w) w f.op fa f.op.length fc) (hl : c.e1.fits) (hf : f.fits) (hq : c.e1.queue.length ≤ 1000000) (hp : (c.e1.sendP f).length ≤ 1000) (hj : c.f0.length ≤ 1000000) (hs : c.s1.length ≤ 1000000) :
    Calls Tryd.prog 16 #[.pointer (some ⟨g, 0, none⟩), .int .i64 1, .agg #[.int .i64 f.kind, .int .i64 f.heard, .int .i64 f.epoch, .slice fa f.op.length fc, .string f.text]] w fun e w' => e = .returned (.bool (c.e1.sendE f == 0)) ∧ (∃ vs', CabM base g { c with e1 := c.e1.sendL f, f0 := c.f0 ++ c.e1.sendP f, s1 := c.s1 ++ [f] } vs' w') ∧ Below base w w' := by
  have HS := Lib.hid (fun a b fa n cc m d fn fc W hg h1 h2 h3 (hm : m ≤ 1000000) => lkSend_any c.e1 f a b fa n cc m d fn fc W hg h1 h2 h3 hl hf hm)
  unfold LkPksP at HS
  generalize hl' : c.e1.sendL f = l' at *
  generalize hps : c.e1.sendP f = ps at *
  generalize c.e1.sendE f = E at *
  have Hg := Lib.hid hg
  have HM := Lib.hid h
  have Hfr := Lib.hid hfr
  have Hff := Lib.hid hf
  have hgb := h.gb
  have hgw := h.lt
  have hrow : ∀ q, q < 6 → ∀ z, (vs q).ownBlock = some z → base ≤ z ∧ z < w.heap.size := fun q hq z hz => by
    match q, hq with
    | 0, _ => exact h.o0.rowlt z hz
    | 1, _ => exact h.o1.rowlt z hz
    | 2, _ => exact h.o2.rowlt z hz
    | 3, _ => exact h.o3.rowlt z hz
    | 4, _ => exact h.o4.rowlt z hz
    | 5, _ => exact h.o5.rowlt z hz
    | q + 6, h => omega
  have Hrow := Lib.hid hrow
  obtain ⟨i0, hi, hz0, hz1, hz2⟩ := info_parts infoF
  have Hi := Lib.hid hi
  have Hz0 := Lib.hid hz0
  have Hz1 := Lib.hid hz1
  have Hz2 := Lib.hid hz2
  obtain ⟨k0, gi, gz0, gz1, gz2⟩ := info_parts infoPk
  have Gi := Lib.hid gi
  have Gz0 := Lib.hid gz0
  have Gz1 := Lib.hid gz1
  have Gz2 := Lib.hid gz2
  clear hg h hfr hl hf hrow hi hz0 hz1 hz2 gi gz0 gz1 gz2 hl' hps
  obtain ⟨a0, c0, b0, d0, a1, c1, b1, d1, bx, r0, r1, r2, r3⟩ := HM.out.box
  have RS := Lib.hid (r2.mono fun z hz => ⟨hz.2.1, rfl⟩ : RdS (· < w.heap.size) w c.e1.sent a1 c.e1.sent.length c1)
  have RQ := Lib.hid (r3.mono fun z hz => ⟨hz.2.1, rfl⟩ : RdS (· < w.heap.size) w c.e1.queue b1 c.e1.queue.length d1)
  have BX := Lib.hid bx
  clear bx r0 r1 r2 r3
  go_enter Tryd.func16, Tryd.ntmps16
  go_wp2_with fail
  refine abs_w (fun W => Below w.heap.size w W ∧ Blk w.heap.size (.cells #[.int .i64 f.kind, .int .i64 f.heard, .int .i64 f.epoch, .slice fa f.op.length fc, .string f.text] 30 (0, 0)) W) ⟨(Below.refl _ _).alloc (Nat.le_refl _) _, Blk.new w _⟩ ?_
  rintro w1 ⟨u1, x1⟩
  have B1 := Lib.hid u1
  have XF := Lib.hid x1
  have hz1 := x1.lt
  have hz01 := u1.size
  clear u1 x1
  obtain ⟨Vp, HV⟩ : ∃ Vp : Nat → Value → World → Prop, Hid (Vp = fun i v W => match i with
      | 0 => v = .pointer (some ⟨g, 0, none⟩)
      | 1 => v = .int .i64 1
      | 2 => v = .pointer (some ⟨g, 0, none⟩)
      | 3 => v = .pointer (some ⟨g, 0, none⟩)
      | 4 => v = .pointer (some ⟨g, 5, none⟩)
      | 5 => v = .agg #[.int .i64 c.e1.epoch, .int .i64 c.e1.next, .slice a1 c.e1.sent.length c1, .slice b1 c.e1.queue.length d1, .int .i64 c.e1.heard]
      | 6 => v = .agg #[.int .i64 f.kind, .int .i64 f.heard, .int .i64 f.epoch, .slice fa f.op.length fc, .string f.text]
      | 7 => ∃ y z, v = .tuple #[y, z, .int .i64 E] ∧ LkVal w1.heap.size l' y W ∧ PsVal w1.heap.size ps z W
      | 8 => ∃ y z, v = .tuple #[y, z, .int .i64 E] ∧ LkVal w1.heap.size l' y W ∧ PsVal w1.heap.size ps z W
      | 9 => ∃ y, v = y ∧ LkVal w1.heap.size l' y W
      | 10 => ∃ y, v = y ∧ PsVal w1.heap.size ps y W
      | 11 => v = .int .i64 E
      | 12 => ∃ gL, v = .pointer (some ⟨gL, 0, none⟩) ∧ w1.heap.size ≤ gL ∧ Blk gL (.cells #[.int .i64 0, .int .i64 0, .slice none 0 0, .slice none 0 0, .int .i64 0] 33 (0, 0)) W
      | 13 => v = undef
      | 14 => ∃ y, v = y ∧ PsVal w1.heap.size ps y W
      | _ => v = .int .i64 E) := ⟨_, rfl⟩
  obtain ⟨Ip, HIp⟩ : ∃ Ip : (Nat → Bool) → (Nat → Value) → World → Prop, Hid (Ip = fun L x W => (Below w1.heap.size w1 W ∧ (L 13 = true → ∃ gL, x 12 = .pointer (some ⟨gL, 0, none⟩) ∧ w1.heap.size ≤ gL ∧ LkBox w1.heap.size gL l' W))) := ⟨_, rfl⟩
  refine region_lit3 (by kernel_rfl) (by kernel_rfl) (by kernel_rfl) [[], [], [0], [0, 2], [0, 1, 2, 3], [0, 1, 2, 3, 4], [], [0, 1, 2, 3, 4, 5, 6], [0, 1, 2, 3, 4, 5, 6, 7], [0, 1, 2, 3, 4, 5, 6, 7, 8], [0, 1, 2, 3, 4, 5, 6, 7, 8], [0, 1, 2, 3, 4, 5, 6, 7, 8], [], [0, 1, 2, 3, 4, 5, 6, 7, 8, 9, 12], [0, 1, 2, 3, 4, 5, 6, 7, 8, 10], [0, 1, 2, 3, 4, 5, 6, 7, 8, 11]] (by kernel_rfl) [some 11, some 12, some 13, some 14, some 15, some 16, some 17, some 18, some 10, some 19, some 20, some 21, some 7, none, some 8, some 9] (by kernel_rfl) [[0, 2, 3, 4, 5, 7, 8, 9, 10, 11, 13, 14, 15], [1, 4, 5, 7, 8, 9, 10, 11, 13, 14, 15], [2, 3, 4, 5, 7, 8, 9, 10, 11, 13, 14, 15], [3, 4, 5, 7, 8, 9, 10, 11, 13, 14, 15], [4, 5, 7, 8, 9, 10, 11, 13, 14, 15], [5, 7, 8, 9, 10, 11, 13, 14, 15], [6, 7, 8, 9, 10, 11, 13, 14, 15], [7, 8, 9, 10, 11, 13, 14, 15], [8, 9, 10, 11, 13, 14, 15], [9, 13], [10, 14], [11, 15], [12, 13], [13], [14], [15]] (by kernel_rfl) [[], [], [], [], [], [], [], [], [], [13], [], [], [13], [], [], []] [[], [], [0], [2], [1, 3], [4], [], [5, 6], [7], [8], [8], [8], [], [9, 12], [10], [11]] (by kernel_rfl)
    Ip
    Vp
    (fun j W W' => match j with
      | 13 => ∃ gL, Blk gL (.cells #[.int .i64 0, .int .i64 0, .slice none 0 0, .slice none 0 0, .int .i64 0] 33 (0, 0)) W ∧ Touch (fun z => z = gL) W W' ∧ w1.heap.size ≤ gL
      | _ => Below W.heap.size W W')
    [fun x => ⟨(fZm 0 (.pointer (some ⟨g, 0, none⟩)) (fEm 11)).toArray, []⟩,
   fun x => ⟨(fZm 1 (.int .i64 1) (fEm 11)).toArray, []⟩,
   fun x => ⟨(fZm 11 (x 0) (fEm 2)).toArray, []⟩,
   fun x => ⟨(fZm 13 (x 2) (fEm 1)).toArray, []⟩,
   fun x => ⟨(fZm 12 (x 1) (fZm 1 (x 3) (fEm 1))).toArray, []⟩,
   fun x => ⟨(fZm 15 (x 4) (fEm 1)).toArray, []⟩,
   fun x => ⟨(fZm 5 (.pointer (some ⟨w.heap.size, 0, none⟩)) (fEm 12)).toArray, []⟩,
   fun x => ⟨(fZm 16 (x 5) (fZm 0 (x 6) (fEm 1))).toArray, []⟩,
   fun x => ⟨(fZm 18 (x 7) []).toArray, []⟩,
   fun x => ⟨(fZm 10 (x 8) (fEm 9)).toArray, []⟩,
   fun x => ⟨(fZm 10 (x 8) (fEm 10)).toArray, []⟩,
   fun x => ⟨(fZm 10 (x 8) (fEm 11)).toArray, []⟩,
   fun x => ⟨(fEm 8).toArray, []⟩,
   fun x => ⟨(fZm 7 (x 12) (fZm 11 (x 9) [])).toArray, []⟩,
   fun x => ⟨(fZm 20 (x 10) []).toArray, []⟩,
   fun x => ⟨(fZm 21 (x 11) []).toArray, []⟩]
    ?hF ?mono ?h0 ?step [0, 1, 2, 3, 4, 5, 6, 7, 8, 10, 11, 13, 14, 15] (by kernel_rfl) ?fin
  case hF =>
    iterate 16 refine ⟨fun x => ⟨by kernel_rfl, by kernel_rfl⟩, ?_⟩
    trivial
  case mono =>
    intro i j hi hj hne hna hnk v W W' hE hv
    rw [HV.out] at hv ⊢
    simp only [List.length_cons, List.length_nil] at hi hj
    match i, hi with
    | 0, _ | 1, _ | 2, _ | 3, _ | 4, _ | 5, _ | 6, _ | 11, _ | 13, _ | 15, _ => exact hv
    | 7, _ =>
      match j, hj with
      | 7, _ => exact absurd rfl hne
      | 0, _ | 1, _ | 2, _ | 3, _ | 4, _ | 5, _ | 6, _ => exact absurd (by simp) hna
      | 8, _ | 9, _ | 10, _ | 11, _ | 12, _ | 14, _ | 15, _ => exact (by obtain ⟨y, z, e, h, k⟩ := hv; exact ⟨y, z, e, h.go hE, k.go hE⟩)
      | 13, _ => exact (by obtain ⟨y, z, e, h, k⟩ := hv; obtain ⟨q, hz, ht, -⟩ := hE; exact ⟨y, z, e, h.off hz ht, k.off hz ht⟩)
      | m + 16, h => exact absurd h (by omega)
    | 8, _ =>
      match j, hj with
      | 8, _ => exact absurd rfl hne
      | 0, _ | 1, _ | 2, _ | 3, _ | 4, _ | 5, _ | 6, _ | 7, _ => exact absurd (by simp) hna
      | 9, _ | 10, _ | 11, _ | 12, _ | 14, _ | 15, _ => exact (by obtain ⟨y, z, e, h, k⟩ := hv; exact ⟨y, z, e, h.go hE, k.go hE⟩)
      | 13, _ => exact (by obtain ⟨y, z, e, h, k⟩ := hv; obtain ⟨q, hz, ht, -⟩ := hE; exact ⟨y, z, e, h.off hz ht, k.off hz ht⟩)
      | m + 16, h => exact absurd h (by omega)
    | 9, _ =>
      match j, hj with
      | 9, _ => exact absurd rfl hne
      | 0, _ | 1, _ | 2, _ | 3, _ | 4, _ | 5, _ | 6, _ | 7, _ | 8, _ => exact absurd (by simp) hna
      | 13, _ => exact absurd (by simp) hnk
      | 10, _ | 11, _ | 12, _ | 14, _ | 15, _ => exact (by obtain ⟨y, e, h⟩ := hv; exact ⟨y, e, h.go hE⟩)
      | m + 16, h => exact absurd h (by omega)
    | 10, _ =>
      match j, hj with
      | 10, _ => exact absurd rfl hne
      | 0, _ | 1, _ | 2, _ | 3, _ | 4, _ | 5, _ | 6, _ | 7, _ | 8, _ => exact absurd (by simp) hna
      | 9, _ | 11, _ | 12, _ | 14, _ | 15, _ => exact (by obtain ⟨y, e, h⟩ := hv; exact ⟨y, e, h.go hE⟩)
      | 13, _ => exact (by obtain ⟨y, e, h⟩ := hv; obtain ⟨q, hz, ht, -⟩ := hE; exact ⟨y, e, h.off hz ht⟩)
      | m + 16, h => exact absurd h (by omega)
    | 12, _ =>
      match j, hj with
      | 12, _ => exact absurd rfl hne
      | 13, _ => exact absurd (by simp) hnk
      | 0, _ | 1, _ | 2, _ | 3, _ | 4, _ | 5, _ | 6, _ | 7, _ | 8, _ | 9, _ | 10, _ | 11, _ | 14, _ | 15, _ => exact (by obtain ⟨q, h1, h2, h3⟩ := hv; exact ⟨q, h1, h2, h3.go hE⟩)
      | m + 16, h => exact absurd h (by omega)
    | 14, _ =>
      match j, hj with
      | 14, _ => exact absurd rfl hne
      | 0, _ | 1, _ | 2, _ | 3, _ | 4, _ | 5, _ | 6, _ | 7, _ | 8, _ | 10, _ => exact absurd (by simp) hna
      | 9, _ | 11, _ | 12, _ | 15, _ => exact (by obtain ⟨y, e, h⟩ := hv; exact ⟨y, e, h.go hE⟩)
      | 13, _ => exact (by obtain ⟨y, e, h⟩ := hv; obtain ⟨q, hz, ht, -⟩ := hE; exact ⟨y, e, h.off hz ht⟩)
      | m + 16, h => exact absurd h (by omega)
    | m + 16, h => exact absurd h (by omega)
  case h0 => intro x; exact toI HIp ⟨(Below.refl _ _).drew, (fun h => by cases h)⟩
  case step =>
    refine ⟨?_, ?_, ?_, ?_, ?_, ?_, ?_, ?_, ?_, ?_, ?_, ?_, ?_, ?_, ?_, ?_, trivial⟩
    all_goals
      intro x W L hI hL hV
      replace hI : (Below w1.heap.size w1 W ∧ (L 13 = true → ∃ gL, x 12 = .pointer (some ⟨gL, 0, none⟩) ∧ w1.heap.size ≤ gL ∧ LkBox w1.heap.size gL l' W)) := ofI HIp hI
      rw [HV.out] at hV
      simp only [AllV, and_true] at hV
      dsimp only [fZm, fEm, List.reduceReplicate, List.cons_append, List.nil_append]
    · clear hV
      have HI := Lib.hid hI
      clear hI
      go_wp2_with fail
      refine step3_done rfl ?_ ?_ ?_
      · exact (toI HIp HI.out)
      · exact (Below.refl _ _)
      · exact (toV HV rfl)
    · clear hV
      have HI := Lib.hid hI
      clear hI
      go_wp2_with fail
      refine step3_done rfl ?_ ?_ ?_
      · exact (toI HIp HI.out)
      · exact (Below.refl _ _)
      · exact (toV HV rfl)
    · have u0 := hV
      clear hV
      simp only [u0]
      clear u0
      have HI := Lib.hid hI
      clear hI
      go_wp2_with fail
      refine step3_done rfl ?_ ?_ ?_
      · exact (toI HIp HI.out)
      · exact (Below.refl _ _)
      · exact (toV HV rfl)
    · have u2 := hV
      clear hV
      simp only [u2]
      clear u2
      have HI := Lib.hid hI
      clear hI
      go_wp2_with fail
      refine step3_done rfl ?_ ?_ ?_
      · exact (toI HIp HI.out)
      · exact (Below.refl _ _)
      · exact (toV HV rfl)
    · obtain ⟨u1, u3⟩ := hV
      simp only [u1, u3]
      clear u1 u3
      have HI := Lib.hid hI
      clear hI
      go_wp2_with fail
      refine step3_done rfl ?_ ?_ ?_
      · exact (toI HIp HI.out)
      · exact (Below.refl _ _)
      · exact (toV HV rfl)
    · have u4 := hV
      clear hV
      simp only [u4]
      clear u4
      obtain ⟨⟨p0, p1, p2, p3, p4⟩, ⟨p5, p6, p7, p8, p9⟩, -⟩ := blk16_cells (BX.out.go (up B1.out hI.1))
      have HI := Lib.hid hI
      clear hI
      go_wp2_with fail
      refine step3_done rfl ?_ ?_ ?_
      · exact (toI HIp HI.out)
      · exact (Below.refl _ _)
      · exact (toV HV rfl)
    · clear hV
      obtain ⟨q0, q1, q2, q3, q4⟩ := blk_cells5 (XF.out.go hI.1)
      have HI := Lib.hid hI
      clear hI
      go_wp2_with fail
      refine step3_done rfl ?_ ?_ ?_
      · exact (toI HIp HI.out)
      · exact (Below.refl _ _)
      · exact (toV HV rfl)
    · obtain ⟨u5, u6⟩ := hV
      simp only [u5, u6]
      clear u5 u6
      have HL := Lib.hid hL
      have HI := Lib.hid hI
      have hzW := hI.1.size
      clear hI hL
      go_wp2_with fail
      refine (HS.out _ _ _ _ _ _ _ _ _ _ (Hg.out.go (up B1.out HI.out.1)) (RS.out.go (up B1.out HI.out.1)) (RQ.out.go (up B1.out HI.out.1)) ((Hfr.out.mono fun z hz => ⟨hz.2.1, rfl⟩ : RdS (· < w.heap.size) w f.op fa f.op.length fc).go (up B1.out HI.out.1)) hq).mono ?_
      rintro e W' ⟨xa, xc, ya, yc, pa, pc, rfl, t1, t2, t3, hb⟩
      go_wp2_with fail
      refine step3_done rfl ?_ ?_ ?_
      · exact (toI HIp ⟨up HI.out.1 hb, fun h => absurd ((HL.out.2 13 (by simp)).symm.trans h) (by simp)⟩)
      · exact hb
      · exact (toV HV ⟨_, _, rfl, LkVal.deep ⟨xa, xc, ya, yc, rfl, t1, t2⟩ hzW, PsVal.deep ⟨pa, pc, rfl, t3⟩ hzW⟩)
    · obtain ⟨y7, z7, u7, h7, k7⟩ := hV
      simp only [u7]
      have U7 := Lib.hid u7
      clear u7
      have HI := Lib.hid hI
      clear hI
      go_wp2_with fail
      refine step3_done rfl ?_ ?_ ?_
      · exact (toI HIp HI.out)
      · exact (Below.refl _ _)
      · exact (toV HV ⟨_, _, rfl, h7, k7⟩)
    · obtain ⟨y8, z8, u8, h8, k8⟩ := hV
      simp only [u8]
      have U8 := Lib.hid u8
      clear u8
      have HI := Lib.hid hI
      clear hI
      go_wp2_with fail
      refine step3_done rfl ?_ ?_ ?_
      · exact (toI HIp HI.out)
      · exact (Below.refl _ _)
      · exact (toV HV ⟨_, rfl, h8⟩)
    · obtain ⟨y8, z8, u8, h8, k8⟩ := hV
      simp only [u8]
      have U8 := Lib.hid u8
      clear u8
      have HI := Lib.hid hI
      clear hI
      go_wp2_with fail
      refine step3_done rfl ?_ ?_ ?_
      · exact (toI HIp HI.out)
      · exact (Below.refl _ _)
      · exact (toV HV ⟨_, rfl, k8⟩)
    · obtain ⟨y8, z8, u8, h8, k8⟩ := hV
      simp only [u8]
      have U8 := Lib.hid u8
      clear u8
      have HI := Lib.hid hI
      clear hI
      go_wp2_with fail
      refine step3_done rfl ?_ ?_ ?_
      · exact (toI HIp HI.out)
      · exact (Below.refl _ _)
      · exact (toV HV rfl)
    · clear hV
      have HL := Lib.hid hL
      have HI := Lib.hid hI
      have hzW := hI.1.size
      clear hI hL
      go_wp2_with fail
      have uW : ∀ o, Below W.heap.size W (W.alloc o) := fun o => (Below.refl _ _).alloc (Nat.le_refl _) o
      refine step3_done rfl ?_ ?_ ?_
      · exact (toI HIp ⟨up HI.out.1 (uW _), fun h => absurd ((HL.out.2 13 (by simp)).symm.trans h) (by simp)⟩)
      · exact (uW _)
      · exact (toV HV ⟨_, rfl, hzW, Blk.new _ _⟩)
    · obtain ⟨⟨y9, u9, h9⟩, ⟨g12, u12, l12, b12⟩⟩ := hV
      simp only [u12, u9]
      have U9 := Lib.hid u9
      have U12 := Lib.hid u12
      clear u9 u12
      have hoff := fun W' (ht : Touch (fun z => z = g12) W W') => h9.off b12 ht
      obtain ⟨sb, sd, qb, qd, rfl, -, -⟩ := h9
      obtain ⟨q0, q1, q2, q3, q4⟩ := blk_cells5 b12
      have fW := b12.frozen
      have hg9 := b12.lt
      have B7 := Lib.hid (blk_set5 b12 (.int .i64 l'.epoch) (.int .i64 l'.next) (.slice sb l'.sent.length sd) (.slice qb l'.queue.length qd) (.int .i64 l'.heard))
      have HT := Lib.hid (touch5 W g12 (.int .i64 l'.epoch) (.int .i64 l'.next) (.slice sb l'.sent.length sd) (.slice qb l'.queue.length qd) (.int .i64 l'.heard))
      have HLV := Lib.hid (hoff _ HT.out)
      have HI := Lib.hid hI
      have HB9 := Lib.hid b12
      clear hI b12 hoff
      go_wp2_with fail
      refine step3_done rfl (toI HIp ⟨HI.out.1.trans (HT.out.toBelow HI.out.1.size (fun k hk => by omega)), fun _ => ⟨g12, U12.out, l12, ?_⟩⟩) ⟨g12, HB9.out, HT.out, l12⟩ (toV HV rfl)
      obtain ⟨sb', sd', qb', qd', e', t1, t2⟩ := HLV.out
      simp only [Value.agg.injEq, Array.mk.injEq, List.cons.injEq, Value.slice.injEq, true_and, and_true] at e'
      obtain ⟨⟨rfl, rfl⟩, rfl, rfl⟩ := e'
      exact ⟨sb, sd, qb, qd, B7.out, t1, t2⟩
    · obtain ⟨y10, u10, h10⟩ := hV
      simp only [u10]
      have U10 := Lib.hid u10
      clear u10
      have HI := Lib.hid hI
      clear hI
      go_wp2_with fail
      refine step3_done rfl ?_ ?_ ?_
      · exact (toI HIp HI.out)
      · exact (Below.refl _ _)
      · exact (toV HV ⟨_, rfl, h10⟩)
    · have u11 := hV
      clear hV
      simp only [u11]
      clear u11
      have HI := Lib.hid hI
      clear hI
      go_wp2_with fail
      refine step3_done rfl ?_ ?_ ?_
      · exact (toI HIp HI.out)
      · exact (Below.refl _ _)
      · exact (toV HV rfl)
  case fin =>
    intro x W L hL hI hV
    replace hI : (Below w1.heap.size w1 W ∧ (L 13 = true → ∃ gL, x 12 = .pointer (some ⟨gL, 0, none⟩) ∧ w1.heap.size ≤ gL ∧ LkBox w1.heap.size gL l' W)) := ofI HIp hI
    rw [HV.out] at hV
    simp only [AllV, and_true] at hV
    obtain ⟨u0, u1, u2, u3, u4, u5, u6, ⟨y7, z7, u7, h7, k7⟩, ⟨y8, z8, u8, h8, k8⟩, ⟨y10, u10, h10⟩, u11, u13, ⟨y14, u14, h14⟩, u15⟩ := hV
    simp only [getsD, List.getD_cons_succ, List.getD_cons_zero, List.length_cons, List.length_nil, List.range, List.range.loop, u0, u1, u2, u3, u4, u5, u6, u7, u8, u10, u11, u13, u14, u15, Act.put, List.setIfInBounds_toArray, List.set_cons_succ, List.set_cons_zero]
    clear u0 u1 u2 u3 u4 u5 u6 u7 u8 u10 u11 u13 u14 u15
    obtain ⟨gL, hxL, hlL, bL⟩ := hI.2 (hL 13 (by simp))
    have hb := hI.1
    simp only [hxL]
    obtain ⟨w2, rfl⟩ : ∃ x : World, x = W := ⟨_, rfl⟩
    have B2 := Lib.hid (up B1.out hb)
    obtain ⟨sb, sd, qb, qd, bL2, rl1, rl2⟩ := bL
    have XL := Lib.hid bL2
    have RL := Lib.hid (And.intro rl1 rl2)
    obtain ⟨pa, pc, rfl, rp⟩ := h14
    have RP := Lib.hid rp
    have hz12 := hb.size
    have hzgL := bL2.lt
    have M2 := Lib.hid (HM.out.go B2.out)
    have XF2 := Lib.hid (XF.out.go hb)
    have BX2 := Lib.hid (BX.out.go B2.out)
    clear hI hL hb bL2 rl1 rl2 rp HS RS RQ B1 XF BX
    go_wp2_with fail
    obtain ⟨Vp, HV⟩ : ∃ Vp : Nat → Value → World → Prop, Hid (Vp = fun i v W => match i with
        | 0 => v = .pointer (some ⟨g, 0, none⟩)
        | 1 => v = .int .i64 1
        | 2 => v = .agg #[.int .i64 l'.epoch, .int .i64 l'.next, .slice sb l'.sent.length sd, .slice qb l'.queue.length qd, .int .i64 l'.heard]
        | 3 => v = .pointer (some ⟨g, 0, none⟩)
        | 4 => v = .pointer (some ⟨g, 0, none⟩)
        | 5 => v = .pointer (some ⟨g, 5, none⟩)
        | _ => v = undef) := ⟨_, rfl⟩
    obtain ⟨Ip, HIp⟩ : ∃ Ip : (Nat → Bool) → (Nat → Value) → World → Prop, Hid (Ip = fun L x W => (Touch (fun z => z = g) w2 W ∧ (L 6 = false → Blk g (.cells #[.int .i64 c.e0.epoch, .int .i64 c.e0.next, .slice a0 c.e0.sent.length c0, .slice b0 c.e0.queue.length d0, .int .i64 c.e0.heard, .int .i64 c.e1.epoch, .int .i64 c.e1.next, .slice a1 c.e1.sent.length c1, .slice b1 c.e1.queue.length d1, .int .i64 c.e1.heard, vs 0, vs 1, vs 2, vs 3, vs 4, vs 5] 39 (0, 0)) W) ∧ (L 6 = true → Blk g (.cells #[.int .i64 c.e0.epoch, .int .i64 c.e0.next, .slice a0 c.e0.sent.length c0, .slice b0 c.e0.queue.length d0, .int .i64 c.e0.heard, .int .i64 l'.epoch, .int .i64 l'.next, .slice sb l'.sent.length sd, .slice qb l'.queue.length qd, .int .i64 l'.heard, vs 0, vs 1, vs 2, vs 3, vs 4, vs 5] 39 (0, 0)) W))) := ⟨_, rfl⟩
    refine region_lit3 (by kernel_rfl) (by kernel_rfl) (by kernel_rfl) [[], [], [], [0], [0, 3], [0, 1, 3, 4], [0, 1, 2, 3, 4, 5]] (by kernel_rfl) [some 22, some 23, some 24, some 25, some 26, some 27, none] (by kernel_rfl) [[0, 3, 4, 5, 6], [1, 5, 6], [2, 6], [3, 4, 5, 6], [4, 5, 6], [5, 6], [6]] (by kernel_rfl) [[], [], [], [], [], [], []] [[], [], [], [0], [3], [1, 4], [2, 5]] (by kernel_rfl)
      Ip
      Vp
      (fun j W W' => match j with
        | 6 => Touch (fun z => z = g) W W'
        | _ => Below W.heap.size W W')
      [fun x => ⟨(fZm 0 (.pointer (some ⟨g, 0, none⟩)) (fEm 22)).toArray, []⟩,
   fun x => ⟨(fZm 1 (.int .i64 1) (fEm 22)).toArray, []⟩,
   fun x => ⟨(fZm 7 (.pointer (some ⟨gL, 0, none⟩)) (fEm 17)).toArray, []⟩,
   fun x => ⟨(fZm 22 (x 0) (fEm 3)).toArray, []⟩,
   fun x => ⟨(fZm 25 (x 3) (fEm 1)).toArray, []⟩,
   fun x => ⟨(fZm 23 (x 1) (fZm 2 (x 4) (fEm 1))).toArray, []⟩,
   fun x => ⟨(fZm 24 (x 2) (fZm 2 (x 5) [])).toArray, []⟩]
      ?hF ?mono ?h0 ?step [0, 1, 2, 3, 4, 5, 6] (by kernel_rfl) ?fin
    case hF =>
      iterate 7 refine ⟨fun x => ⟨by kernel_rfl, by kernel_rfl⟩, ?_⟩
      trivial
    case mono =>
      intro i j hi hj hne hna hnk v W W' hE hv
      rw [HV.out] at hv ⊢
      simp only [List.length_cons, List.length_nil] at hi hj
      match i, hi with
      | 0, _ | 1, _ | 2, _ | 3, _ | 4, _ | 5, _ | 6, _ => exact hv
      | m + 7, h => exact absurd h (by omega)
    case h0 => intro x; exact toI HIp ⟨(Touch.refl _ _).drew, (fun _ => BX2.out), (fun h => by cases h)⟩
    case step =>
      refine ⟨?_, ?_, ?_, ?_, ?_, ?_, ?_, trivial⟩
      all_goals
        intro x W L hI hL hV
        replace hI : (Touch (fun z => z = g) w2 W ∧ (L 6 = false → Blk g (.cells #[.int .i64 c.e0.epoch, .int .i64 c.e0.next, .slice a0 c.e0.sent.length c0, .slice b0 c.e0.queue.length d0, .int .i64 c.e0.heard, .int .i64 c.e1.epoch, .int .i64 c.e1.next, .slice a1 c.e1.sent.length c1, .slice b1 c.e1.queue.length d1, .int .i64 c.e1.heard, vs 0, vs 1, vs 2, vs 3, vs 4, vs 5] 39 (0, 0)) W) ∧ (L 6 = true → Blk g (.cells #[.int .i64 c.e0.epoch, .int .i64 c.e0.next, .slice a0 c.e0.sent.length c0, .slice b0 c.e0.queue.length d0, .int .i64 c.e0.heard, .int .i64 l'.epoch, .int .i64 l'.next, .slice sb l'.sent.length sd, .slice qb l'.queue.length qd, .int .i64 l'.heard, vs 0, vs 1, vs 2, vs 3, vs 4, vs 5] 39 (0, 0)) W)) := ofI HIp hI
        rw [HV.out] at hV
        simp only [AllV, and_true] at hV
        dsimp only [fZm, fEm, List.reduceReplicate, List.cons_append, List.nil_append]
      · clear hV
        have HI := Lib.hid hI
        clear hI
        go_wp2_with fail
        refine step3_done rfl ?_ ?_ ?_
        · exact (toI HIp HI.out)
        · exact (Below.refl _ _)
        · exact (toV HV rfl)
      · clear hV
        have HI := Lib.hid hI
        clear hI
        go_wp2_with fail
        refine step3_done rfl ?_ ?_ ?_
        · exact (toI HIp HI.out)
        · exact (Below.refl _ _)
        · exact (toV HV rfl)
      · clear hV
        obtain ⟨q0, q1, q2, q3, q4⟩ := blk_cells5 (XL.out.touch hI.1 (by omega))
        have HI := Lib.hid hI
        clear hI
        go_wp2_with fail
        refine step3_done rfl ?_ ?_ ?_
        · exact (toI HIp HI.out)
        · exact (Below.refl _ _)
        · exact (toV HV rfl)
      · have u0 := hV
        clear hV
        simp only [u0]
        clear u0
        have HI := Lib.hid hI
        clear hI
        go_wp2_with fail
        refine step3_done rfl ?_ ?_ ?_
        · exact (toI HIp HI.out)
        · exact (Below.refl _ _)
        · exact (toV HV rfl)
      · have u3 := hV
        clear hV
        simp only [u3]
        clear u3
        have HI := Lib.hid hI
        clear hI
        go_wp2_with fail
        refine step3_done rfl ?_ ?_ ?_
        · exact (toI HIp HI.out)
        · exact (Below.refl _ _)
        · exact (toV HV rfl)
      · obtain ⟨u1, u4⟩ := hV
        simp only [u1, u4]
        clear u1 u4
        have HI := Lib.hid hI
        clear hI
        go_wp2_with fail
        refine step3_done rfl ?_ ?_ ?_
        · exact (toI HIp HI.out)
        · exact (Below.refl _ _)
        · exact (toV HV rfl)
      · obtain ⟨u2, u5⟩ := hV
        simp only [u2, u5]
        clear u2 u5
        have bM := hI.2.1 (hL.2 6 (by simp))
        obtain ⟨⟨p0, p1, p2, p3, p4⟩, ⟨p5, p6, p7, p8, p9⟩, -⟩ := blk16_cells bM
        have fW := bM.frozen
        have hlt := bM.lt
        have HL := Lib.hid hL
        have HI := Lib.hid hI
        clear hI hL bM
        go_wp2_with fail
        have ht := ((((touch1 (w := W) (g := g) (i := 5) (.int .i64 l'.epoch)).trans (touch1 (g := g) (i := 6) (.int .i64 l'.next))).trans (touch1 (g := g) (i := 7) (.slice sb l'.sent.length sd))).trans (touch1 (g := g) (i := 8) (.slice qb l'.queue.length qd))).trans (touch1 (g := g) (i := 9) (.int .i64 l'.heard))
        refine step3_done (v := undef) rfl ?_ ?_ ?_
        · exact (toI HIp ⟨HI.out.1.trans ht, (fun h => absurd h (by simp [setB])), (fun _ => ((((((HI.out.2.1 (HL.out.2 6 (by simp))).set 5 (.int .i64 l'.epoch)).set 6 (.int .i64 l'.next)).set 7 (.slice sb l'.sent.length sd)).set 8 (.slice qb l'.queue.length qd)).set 9 (.int .i64 l'.heard)))⟩)
        · exact ht
        · exact (toV HV rfl)
    case fin =>
      intro x W L hL hI hV
      replace hI : (Touch (fun z => z = g) w2 W ∧ (L 6 = false → Blk g (.cells #[.int .i64 c.e0.epoch, .int .i64 c.e0.next, .slice a0 c.e0.sent.length c0, .slice b0 c.e0.queue.length d0, .int .i64 c.e0.heard, .int .i64 c.e1.epoch, .int .i64 c.e1.next, .slice a1 c.e1.sent.length c1, .slice b1 c.e1.queue.length d1, .int .i64 c.e1.heard, vs 0, vs 1, vs 2, vs 3, vs 4, vs 5] 39 (0, 0)) W) ∧ (L 6 = true → Blk g (.cells #[.int .i64 c.e0.epoch, .int .i64 c.e0.next, .slice a0 c.e0.sent.length c0, .slice b0 c.e0.queue.length d0, .int .i64 c.e0.heard, .int .i64 l'.epoch, .int .i64 l'.next, .slice sb l'.sent.length sd, .slice qb l'.queue.length qd, .int .i64 l'.heard, vs 0, vs 1, vs 2, vs 3, vs 4, vs 5] 39 (0, 0)) W)) := ofI HIp hI
      rw [HV.out] at hV
      simp only [AllV, and_true] at hV
      obtain ⟨u0, u1, u2, u3, u4, u5, u6⟩ := hV
      simp only [getsD, List.getD_cons_succ, List.getD_cons_zero, List.length_cons, List.length_nil, List.range, List.range.loop, u0, u1, u2, u3, u4, u5, u6, Act.put, List.setIfInBounds_toArray, List.set_cons_succ, List.set_cons_zero]
      clear u0 u1 u2 u3 u4 u5 u6
      have hT := hI.1
      have hB := hI.2.2 (hL 6 (by simp))
      obtain ⟨w3, rfl⟩ : ∃ x : World, x = W := ⟨_, rfl⟩
      have hz23 := hT.size
      obtain ⟨⟨a0', c0', b0', d0', a1', c1', b1', d1', bo, r0, r1, r2, r3⟩, o0, o1, o2, o3, o4, o5⟩ := M2.out.rest hT
      have hfree : ∀ z, Fresh w1.heap.size w2 z → Free base g vs w3 z ∧ w3.heap[z]? = w2.heap[z]? := fun z hz => by
        obtain ⟨z1, z2⟩ := hz
        exact ⟨⟨by omega, by omega, by omega, fun q hq e => by have := (Hrow.out q hq z e).2; omega⟩, hT.block z z2 (by omega)⟩
      have eo : ∀ q u, (#[.int .i64 c.e0.epoch, .int .i64 c.e0.next, .slice a0 c.e0.sent.length c0, .slice b0 c.e0.queue.length d0, .int .i64 c.e0.heard, .int .i64 c.e1.epoch, .int .i64 c.e1.next, .slice a1 c.e1.sent.length c1, .slice b1 c.e1.queue.length d1, .int .i64 c.e1.heard, vs 0, vs 1, vs 2, vs 3, vs 4, vs 5] : Array Value)[q]? = some u → w2.cell? ⟨g, q, none⟩ = some u := fun q u hu => (BX2.out.cell q).trans hu
      have bo2 := bo
      have g1 := Option.some.inj ((bo.cell 2).symm.trans (BX2.out.cell 2))
      have g2 := Option.some.inj ((bo.cell 3).symm.trans (BX2.out.cell 3))
      have g1' : Value.slice a0' c.e0.sent.length c0' = .slice a0 c.e0.sent.length c0 := g1
      have g2' : Value.slice b0' c.e0.queue.length d0' = .slice b0 c.e0.queue.length d0 := g2
      injection g1' with g3 g4 g5
      injection g2' with g6 g7 g8
      subst g3 g5 g6 g8
      have M3 : Hid (CabM base g { c with e1 := l' } vs w3) := ⟨⟨a0', c0', b0', d0', sb, sd, qb, qd, hB, r0, r1, RL.out.1.mono hfree, RL.out.2.mono hfree⟩, o0, o1, o2, o3, o4, o5, HM.out.gb, HM.out.ne, HM.out.di⟩
      have T3 := Lib.hid hT
      have RP3 := Lib.hid (RP.out.past2 hT (fun z hz e => by have hz1' := hz.1; omega))
      have XF3 := Lib.hid (XF2.out.touch hT (by omega))
      have B3 : Hid (Below base w w3) := ((Touch.of_below (S := fun _ => False) B2.out).toBelow (by omega) (fun k hk => hk.elim)).trans (hT.toBelow (by have := B2.out.size; omega) (fun k hk => by omega))
      have hz02 := B2.out.size
      have Hfr3 : Hid (∀ z, Free base g vs w z → Free base g vs w3 z ∧ w3.heap[z]? = w.heap[z]?) := fun z hz => ⟨⟨hz.1, by have := hz.2.1; omega, hz.2.2⟩, (hT.block z (by have := hz.2.1; omega) hz.2.2.1).trans (B2.out.block z hz.2.1)⟩
      clear hI hL hT hB bo bo2 eo r0 r1 r2 r3 o0 o1 o2 o3 o4 o5 hfree M2 XL RL RP XF2 BX2 B2
      go_wp2_with fail
      obtain ⟨va, vn, hvj, hvc, hvm, -⟩ := M3.out.o0.form
      have Hvj := Lib.hid hvj
      have hvn : va = none → vn = 0 := by
        intro e
        rcases M3.out.o0.row with ⟨a', hv, -, -⟩ | ⟨q, o, cap, hv, -⟩
        · rw [hvj] at hv; injection hv
        · rw [hvj] at hv; injection hv with e1; rw [e] at e1; cases e1
      clear hvj
      obtain ⟨Vp, HV⟩ : ∃ Vp : Nat → Value → World → Prop, Hid (Vp = fun i v W => match i with
          | 0 => v = .pointer (some ⟨g, 0, none⟩)
          | 1 => v = .int .i64 1
          | 2 => v = .int .i64 0
          | 3 => v = .pointer (some ⟨g, 0, none⟩)
          | 4 => v = .int .i64 1
          | 5 => v = .int .i64 0
          | 6 => v = .pointer (some ⟨g, 0, none⟩)
          | 7 => v = .pointer (some ⟨g, 10, none⟩)
          | 8 => v = .pointer (some ⟨g, 10, none⟩)
          | 9 => v = vs 0
          | 10 => v = .slice pa ps.length pc
          | 11 => ∃ a n c, v = .slice a n c ∧ (∀ z, (Value.slice a n c).ownBlock = some z → (vs 0).ownBlock = some z ∨ w3.heap.size ≤ z)
          | 12 => v = .pointer (some ⟨g, 0, none⟩)
          | 13 => v = .pointer (some ⟨g, 10, none⟩)
          | 14 => v = .pointer (some ⟨g, 10, none⟩)
          | _ => v = undef) := ⟨_, rfl⟩
      obtain ⟨Ip, HIp⟩ : ∃ Ip : (Nat → Bool) → (Nat → Value) → World → Prop, Hid (Ip = fun L x W => (Touch (fun z => z = g ∨ (vs 0).ownBlock = some z) w3 W ∧ (L 11 = false → CabM base g { c with e1 := l' } vs W) ∧ (L 11 = true → L 15 = false → CabG base g { c with e1 := l', f0 := c.f0 ++ ps } vs (fun q => if q = 0 then x 11 else vs q) W) ∧ (L 15 = true → ∃ vs', CabM base g { c with e1 := l', f0 := c.f0 ++ ps } vs' W ∧ (∀ q, q < 6 → ∀ z, (vs' q).ownBlock = some z → (∃ q', q' < 6 ∧ (vs q').ownBlock = some z) ∨ w3.heap.size ≤ z)))) := ⟨_, rfl⟩
      refine region_lit3 (by kernel_rfl) (by kernel_rfl) (by kernel_rfl) [[], [], [1], [], [], [4], [3], [3, 6], [3, 4, 5, 6, 7], [3, 4, 5, 6, 7, 8], [], [3, 4, 5, 6, 7, 8, 9, 10], [0], [0, 12], [0, 1, 2, 12, 13], [0, 1, 2, 3, 4, 5, 6, 7, 8, 9, 10, 11, 12, 13, 14]] (by kernel_rfl) [some 28, some 29, some 30, some 31, some 32, some 33, some 34, some 35, some 36, some 37, some 38, some 39, some 40, some 41, some 42, none] (by kernel_rfl) [[0, 12, 13, 14, 15], [1, 2, 14, 15], [2, 14, 15], [3, 6, 7, 8, 9, 11, 15], [4, 5, 8, 9, 11, 15], [5, 8, 9, 11, 15], [6, 7, 8, 9, 11, 15], [7, 8, 9, 11, 15], [8, 9, 11, 15], [9, 11, 15], [10, 11, 15], [11, 15], [12, 13, 14, 15], [13, 14, 15], [14, 15], [15]] (by kernel_rfl) [[], [], [], [], [], [], [], [], [], [], [], [], [], [], [], []] [[], [], [1], [], [], [4], [3], [6], [5, 7], [8], [], [9, 10], [0], [12], [2, 13], [11, 14]] (by kernel_rfl)
        Ip
        Vp
        (fun j W W' => match j with
          | 11 => W.grownBy W' (vs 0).ownBlock
          | 15 => Touch (fun z => z = g) W W'
          | _ => Below W.heap.size W W')
        [fun x => ⟨(fZm 0 (.pointer (some ⟨g, 0, none⟩)) (fEm 28)).toArray, []⟩,
   fun x => ⟨(fZm 1 (.int .i64 1) (fEm 28)).toArray, []⟩,
   fun x => ⟨(fZm 29 (x 1) (fEm 1)).toArray, []⟩,
   fun x => ⟨(fZm 0 (.pointer (some ⟨g, 0, none⟩)) (fEm 31)).toArray, []⟩,
   fun x => ⟨(fZm 1 (.int .i64 1) (fEm 31)).toArray, []⟩,
   fun x => ⟨(fZm 32 (x 4) (fEm 1)).toArray, []⟩,
   fun x => ⟨(fZm 31 (x 3) (fEm 3)).toArray, []⟩,
   fun x => ⟨(fZm 34 (x 6) (fEm 1)).toArray, []⟩,
   fun x => ⟨(fZm 33 (x 5) (fZm 1 (x 7) (fEm 1))).toArray, []⟩,
   fun x => ⟨(fZm 36 (x 8) (fEm 1)).toArray, []⟩,
   fun x => ⟨(fZm 8 (.slice pa ps.length pc) (fEm 30)).toArray, []⟩,
   fun x => ⟨(fZm 37 (x 9) (fZm 0 (x 10) (fEm 1))).toArray, []⟩,
   fun x => ⟨(fZm 28 (x 0) (fEm 12)).toArray, []⟩,
   fun x => ⟨(fZm 40 (x 12) (fEm 1)).toArray, []⟩,
   fun x => ⟨(fZm 30 (x 2) (fZm 10 (x 13) (fEm 1))).toArray, []⟩,
   fun x => ⟨(fZm 39 (x 11) (fZm 2 (x 14) [])).toArray, []⟩]
        ?hF ?mono ?h0 ?step [0, 1, 2, 3, 4, 5, 6, 7, 8, 9, 10, 11, 12, 13, 14, 15] (by kernel_rfl) ?fin
      case hF =>
        iterate 16 refine ⟨fun x => ⟨by kernel_rfl, by kernel_rfl⟩, ?_⟩
        trivial
      case mono =>
        intro i j hi hj hne hna hnk v W W' hE hv
        rw [HV.out] at hv ⊢
        simp only [List.length_cons, List.length_nil] at hi hj
        match i, hi with
        | 0, _ | 1, _ | 2, _ | 3, _ | 4, _ | 5, _ | 6, _ | 7, _ | 8, _ | 9, _ | 10, _ | 12, _ | 13, _ | 14, _ | 15, _ => exact hv
        | 11, _ =>
          match j, hj with
          | 11, _ => exact absurd rfl hne
          | 3, _ | 4, _ | 5, _ | 6, _ | 7, _ | 8, _ | 9, _ | 10, _ => exact absurd (by simp) hna
          | 0, _ | 1, _ | 2, _ | 12, _ | 13, _ | 14, _ | 15, _ => exact (id hv)
          | m + 16, h => exact absurd h (by omega)
        | m + 16, h => exact absurd h (by omega)
      case h0 => intro x; exact toI HIp ⟨(Touch.refl _ _).drew, (fun _ => M3.out.go (Below.refl _ _).drew), (fun h => by cases h), (fun h => by cases h)⟩
      case step =>
        refine ⟨?_, ?_, ?_, ?_, ?_, ?_, ?_, ?_, ?_, ?_, ?_, ?_, ?_, ?_, ?_, ?_, trivial⟩
        all_goals
          intro x W L hI hL hV
          replace hI : (Touch (fun z => z = g ∨ (vs 0).ownBlock = some z) w3 W ∧ (L 11 = false → CabM base g { c with e1 := l' } vs W) ∧ (L 11 = true → L 15 = false → CabG base g { c with e1 := l', f0 := c.f0 ++ ps } vs (fun q => if q = 0 then x 11 else vs q) W) ∧ (L 15 = true → ∃ vs', CabM base g { c with e1 := l', f0 := c.f0 ++ ps } vs' W ∧ (∀ q, q < 6 → ∀ z, (vs' q).ownBlock = some z → (∃ q', q' < 6 ∧ (vs q').ownBlock = some z) ∨ w3.heap.size ≤ z))) := ofI HIp hI
          rw [HV.out] at hV
          simp only [AllV, and_true] at hV
          dsimp only [fZm, fEm, List.reduceReplicate, List.cons_append, List.nil_append]
        · clear hV
          have HI := Lib.hid hI
          clear hI
          go_wp2_with fail
          refine step3_done rfl ?_ ?_ ?_
          · exact (toI HIp HI.out)
          · exact (Below.refl _ _)
          · exact (toV HV rfl)
        · clear hV
          have HI := Lib.hid hI
          clear hI
          go_wp2_with fail
          refine step3_done rfl ?_ ?_ ?_
          · exact (toI HIp HI.out)
          · exact (Below.refl _ _)
          · exact (toV HV rfl)
        · have u1 := hV
          clear hV
          simp only [u1]
          clear u1
          have HI := Lib.hid hI
          clear hI
          go_wp2_with fail
          refine step3_done rfl ?_ ?_ ?_
          · exact (toI HIp HI.out)
          · exact (Below.refl _ _)
          · exact (toV HV rfl)
        · clear hV
          have HI := Lib.hid hI
          clear hI
          go_wp2_with fail
          refine step3_done rfl ?_ ?_ ?_
          · exact (toI HIp HI.out)
          · exact (Below.refl _ _)
          · exact (toV HV rfl)
        · clear hV
          have HI := Lib.hid hI
          clear hI
          go_wp2_with fail
          refine step3_done rfl ?_ ?_ ?_
          · exact (toI HIp HI.out)
          · exact (Below.refl _ _)
          · exact (toV HV rfl)
        · have u4 := hV
          clear hV
          simp only [u4]
          clear u4
          have HI := Lib.hid hI
          clear hI
          go_wp2_with fail
          refine step3_done rfl ?_ ?_ ?_
          · exact (toI HIp HI.out)
          · exact (Below.refl _ _)
          · exact (toV HV rfl)
        · have u3 := hV
          clear hV
          simp only [u3]
          clear u3
          have HI := Lib.hid hI
          clear hI
          go_wp2_with fail
          refine step3_done rfl ?_ ?_ ?_
          · exact (toI HIp HI.out)
          · exact (Below.refl _ _)
          · exact (toV HV rfl)
        · have u6 := hV
          clear hV
          simp only [u6]
          clear u6
          have HI := Lib.hid hI
          clear hI
          go_wp2_with fail
          refine step3_done rfl ?_ ?_ ?_
          · exact (toI HIp HI.out)
          · exact (Below.refl _ _)
          · exact (toV HV rfl)
        · obtain ⟨u5, u7⟩ := hV
          simp only [u5, u7]
          clear u5 u7
          have HI := Lib.hid hI
          clear hI
          go_wp2_with fail
          refine step3_done rfl ?_ ?_ ?_
          · exact (toI HIp HI.out)
          · exact (Below.refl _ _)
          · exact (toV HV rfl)
        · have u8 := hV
          clear hV
          simp only [u8]
          clear u8
          obtain ⟨_, _, _, _, _, _, _, _, bM, -⟩ := (hI.2.1 (hL.2 11 (by simp))).box
          obtain ⟨-, -, p10, p11, p12, p13, p14, p15⟩ := blk16_cells bM
          have HI := Lib.hid hI
          clear hI bM
          go_wp2_with fail
          refine step3_done rfl ?_ ?_ ?_
          · exact (toI HIp HI.out)
          · exact (Below.refl _ _)
          · exact (toV HV rfl)
        · clear hV
          have HI := Lib.hid hI
          clear hI
          go_wp2_with fail
          refine step3_done rfl ?_ ?_ ?_
          · exact (toI HIp HI.out)
          · exact (Below.refl _ _)
          · exact (toV HV rfl)
        · obtain ⟨u9, u10⟩ := hV
          simp only [u9, u10]
          clear u9 u10
          have hM := hI.2.1 (hL.2 11 (by simp))
          have HL := Lib.hid hL
          have HI := Lib.hid hI
          have HM11 := Lib.hid hM
          have hz6 := hI.1.size
          have hbW : base ≤ W.heap.size := by omega
          by_cases hps0 : ps.length = 0
          · have Hps := Lib.hid hps0
            rw [hps0]
            clear hI hL hM hps0
            go_wp2_with (at_builtin; refine wpList_append_zero rfl _ _ _ (by rfl) 45 k0 Tryd.underlying35 Gi.out va c.f0.length vn (by exact Hvj.out) hvc hvn pa pc (by rfl) ?_)
            have HP : CabG base g { c with e1 := l', f0 := c.f0 ++ ps } vs (fun q => if q = 0 then vs 0 else vs q) W := by
              have e1 : ps = [] := List.eq_nil_of_length_eq_zero Hps.out
              rw [e1, List.append_nil, upd_same]
              exact HM11.out
            rw [Hvj.out] at HP
            have HP' := Lib.hid HP
            clear HP
            go_wp2_with fail
            refine step3_done rfl ?_ ?_ ?_
            · exact (toI HIp ⟨HI.out.1, (fun h => absurd h (by simp [setB])), (fun _ _ => HP'.out), (fun h : L 15 = true => absurd ((HL.out.2 15 (by simp)).symm.trans h) (by simp))⟩)
            · exact ⟨rfl, rfl, rfl, Nat.le_refl _, fun _ _ _ => rfl⟩
            · exact (toV HV ⟨_, _, _, rfl, fun z hz => .inl (by rw [Hvj.out]; exact hz)⟩)
          · obtain ⟨pg, po, hpa, hpA, hpb, hpe⟩ := RP3.out.2.2.2.2 (by omega)
            subst hpa
            have hpA1 := hpA.1
            have hE : Elems (fun b => b < W.heap.size ∧ ¬ OX base g vs 0 b ∧ (vs 0).ownBlock ≠ some b) W pg po ps := hpe.imp (hI.1.block pg hpb (fun h => by
              rcases h with h | h
              · omega
              · have := (Hrow.out 0 (by omega) pg h).2; have := hpA.1; omega)) (fun b hb => by
              have hb1 := hb.1
              have hb2 := hb.2
              refine ⟨⟨by omega, ?_, fun e => by have := (Hrow.out 0 (by omega) b e).2; omega⟩, hI.1.block b hb2 (fun h => by
                rcases h with h | h
                · omega
                · have := (Hrow.out 0 (by omega) b h).2; omega)⟩
              rintro (h | h | ⟨q, hq, -, h⟩)
              · omega
              · omega
              · have := (Hrow.out q hq b h).2; omega)
            have HE := Lib.hid hE
            clear hI hL hM hE hpe
            go_wp2_with (at_builtin; refine wpList_append_manyO rfl _ _ _ (by rfl) base 45 k0 _ 96 Tryd.underlying35 Gi.out Gz0.out Gz1.out Gz2.out rfl (vs 0) c.f0 ps (by rfl) HM11.out.o0 pg po pc (by rfl) HE.out (by omega) (by unfold maxLen; omega) (by omega) hbW ?_)
            intro g2 o2 cap w7 hown7 hgrow hat hlt7
            have hv7 : ∀ k, (Value.slice (some ⟨g2, o2, none⟩) (c.f0.length + ps.length) cap).ownBlock = some k → (vs 0).ownBlock = some k ∨ W.heap.size ≤ k := fun k hk => by
              have e : g2 = k := by simpa [Value.ownBlock] using hk
              subst e
              exact hat
            have HV7 : Hid (∀ z, (Value.slice (some ⟨g2, o2, none⟩) (c.f0.length + ps.length) cap).ownBlock = some z → (vs 0).ownBlock = some z ∨ w3.heap.size ≤ z) := fun z hz => by
              rcases hv7 z hz with h | h
              · exact .inl h
              · exact .inr (by omega)
            have HG := Lib.hid hgrow
            have HP := Lib.hid (HM11.out.grow0 hgrow hown7 hv7)
            have HT := Lib.hid (HI.out.1.grown hgrow (fun k hk => .inl (.inr hk)))
            clear hgrow hown7 hat HI HM11 HE hv7
            go_wp2_with fail
            refine step3_done rfl ?_ ?_ ?_
            · exact (toI HIp ⟨HT.out, (fun h => absurd h (by simp [setB])), (fun _ _ => HP.out), (fun h : L 15 = true => absurd ((HL.out.2 15 (by simp)).symm.trans h) (by simp))⟩)
            · exact HG.out
            · exact (toV HV ⟨_, _, _, rfl, HV7.out⟩)
        · have u0 := hV
          clear hV
          simp only [u0]
          clear u0
          have HI := Lib.hid hI
          clear hI
          go_wp2_with fail
          refine step3_done rfl ?_ ?_ ?_
          · exact (toI HIp HI.out)
          · exact (Below.refl _ _)
          · exact (toV HV rfl)
        · have u12 := hV
          clear hV
          simp only [u12]
          clear u12
          have HI := Lib.hid hI
          clear hI
          go_wp2_with fail
          refine step3_done rfl ?_ ?_ ?_
          · exact (toI HIp HI.out)
          · exact (Below.refl _ _)
          · exact (toV HV rfl)
        · obtain ⟨u2, u13⟩ := hV
          simp only [u2, u13]
          clear u2 u13
          have HI := Lib.hid hI
          clear hI
          go_wp2_with fail
          refine step3_done rfl ?_ ?_ ?_
          · exact (toI HIp HI.out)
          · exact (Below.refl _ _)
          · exact (toV HV rfl)
        · obtain ⟨⟨a11, n11, c11, u11, t11⟩, u14⟩ := hV
          simp only [u11, u14]
          have U11 := Lib.hid u11
          clear u11 u14
          have hM := hI.2.2.1 (hL.1 11 (by simp)) (hL.2 15 (by simp))
          rw [U11.out] at hM
          obtain ⟨_, _, _, _, _, _, _, _, bM, -⟩ := hM.box
          obtain ⟨-, -, p10, p11, p12, p13, p14, p15⟩ := blk16_cells bM
          have fW := bM.frozen
          have hlt := bM.lt
          have HL := Lib.hid hL
          have HI := Lib.hid hI
          have HM15 := Lib.hid hM
          clear hI hL hM bM
          go_wp2_with fail
          have ht := touch1 (w := W) (g := g) (i := 10) (.slice a11 n11 c11)
          have hrow' : ∀ q, q < 6 → ∀ z, ((fun q => if q = 0 then Value.slice a11 n11 c11 else vs q) q).ownBlock = some z → (∃ q', q' < 6 ∧ (vs q').ownBlock = some z) ∨ w3.heap.size ≤ z := fun q hq z hz => by
            by_cases e : q = 0
            · simp only [if_pos e] at hz
              rcases t11 z hz with h | h
              · exact .inl ⟨0, by omega, h⟩
              · exact .inr h
            · simp only [if_neg e] at hz
              exact .inl ⟨q, hq, hz⟩
          refine step3_done (v := undef) rfl ?_ ?_ ?_
          · exact (toI HIp ⟨HI.out.1.trans (ht.mono fun k _ hk => .inl hk), (fun h : L 11 = false => absurd ((HL.out.1 11 (by simp)).symm.trans h) (by simp)), (fun _ h => absurd h (by simp [setB])), (fun _ => ⟨_, HM15.out.put ht (fun _ _ _ _ _ _ _ _ b => b.set 10 _), hrow'⟩)⟩)
          · exact ht
          · exact (toV HV rfl)
      case fin =>
        intro x W L hL hI hV
        replace hI : (Touch (fun z => z = g ∨ (vs 0).ownBlock = some z) w3 W ∧ (L 11 = false → CabM base g { c with e1 := l' } vs W) ∧ (L 11 = true → L 15 = false → CabG base g { c with e1 := l', f0 := c.f0 ++ ps } vs (fun q => if q = 0 then x 11 else vs q) W) ∧ (L 15 = true → ∃ vs', CabM base g { c with e1 := l', f0 := c.f0 ++ ps } vs' W ∧ (∀ q, q < 6 → ∀ z, (vs' q).ownBlock = some z → (∃ q', q' < 6 ∧ (vs q').ownBlock = some z) ∨ w3.heap.size ≤ z))) := ofI HIp hI
        rw [HV.out] at hV
        simp only [AllV, and_true] at hV
        obtain ⟨u0, u1, u2, u3, u4, u5, u6, u7, u8, u9, u10, ⟨a11, n11, c11, u11, t11⟩, u12, u13, u14, u15⟩ := hV
        simp only [getsD, List.getD_cons_succ, List.getD_cons_zero, List.length_cons, List.length_nil, List.range, List.range.loop, u0, u1, u2, u3, u4, u5, u6, u7, u8, u9, u10, u11, u12, u13, u14, u15, Act.put, List.setIfInBounds_toArray, List.set_cons_succ, List.set_cons_zero]
        clear u0 u1 u2 u3 u4 u5 u6 u7 u8 u9 u10 u11 u12 u13 u14 u15
        obtain ⟨vs4, hM4, hr4⟩ := hI.2.2.2 (hL 15 (by simp))
        have hT := hI.1
        obtain ⟨w4, rfl⟩ : ∃ x : World, x = W := ⟨_, rfl⟩
        have hz34 := hT.size
        have M4 := Lib.hid hM4
        have R4 := Lib.hid hr4
        have XF4 := Lib.hid (XF3.out.touch hT (fun h => by
          rcases h with h | h
          · omega
          · have := (Hrow.out 0 (by omega) _ h).2; omega))
        have B4 : Hid (Below base w w4) := B3.out.trans (hT.toBelow (by omega) (fun k hk => by
          rcases hk with hk | hk
          · omega
          · exact (Hrow.out 0 (by omega) k hk).1))
        have Hfr4 : Hid (∀ z, Free base g vs w z → z < w.heap.size ∧ base ≤ z ∧ z ≠ g ∧ (∀ q, q < 6 → (vs4 q).ownBlock ≠ some z) ∧ w4.heap[z]? = w.heap[z]?) := fun z hz => ⟨hz.2.1, hz.1, hz.2.2.1, (fun q hq e => by
          rcases hr4 q hq z e with ⟨q', hq', h⟩ | h
          · exact hz.2.2.2 q' hq' h
          · have := hz.2.1; omega), (hT.block z (by have := hz.2.1; omega) (fun h => by
            rcases h with h | h
            · exact hz.2.2.1 h
            · exact hz.2.2.2 0 (by omega) h)).trans (Hfr3.out z hz).2⟩
        clear hI hL hT hM4 hr4 XF3 B3 M3 RP3 Hfr3 T3
        go_wp2_with fail
        have hrow4 : ∀ z, (vs4 3).ownBlock = some z → base ≤ z ∧ z < w4.heap.size ∧ z ≠ w.heap.size := fun z hz => by
          refine ⟨(M4.out.o3.rowlt z hz).1, (M4.out.o3.rowlt z hz).2, fun e => ?_⟩
          rcases R4.out 3 (by omega) z hz with ⟨q', hq', h⟩ | h
          · have := (Hrow.out q' hq' z h).2; omega
          · omega
        have Hrow4 := Lib.hid hrow4
        clear hrow4
        obtain ⟨Vp, HV⟩ : ∃ Vp : Nat → Value → World → Prop, Hid (Vp = fun i v W => match i with
            | 0 => v = .pointer (some ⟨g, 0, none⟩)
            | 1 => v = .int .i64 1
            | 2 => v = .pointer (some ⟨g, 0, none⟩)
            | 3 => v = .int .i64 1
            | 4 => v = .pointer (some ⟨g, 0, none⟩)
            | 5 => v = .pointer (some ⟨g, 12, none⟩)
            | 6 => v = .pointer (some ⟨g, 13, none⟩)
            | 7 => v = vs4 3
            | 8 => v = .agg #[.int .i64 f.kind, .int .i64 f.heard, .int .i64 f.epoch, .slice fa f.op.length fc, .string f.text]
            | 9 => ∃ b, v = .slice (some ⟨b, 0, none⟩) 1 1 ∧ Blk b (.cells #[.int .i64 f.kind, .int .i64 f.heard, .int .i64 f.epoch, .slice fa f.op.length fc, .string f.text] 30 (0, 0)) W ∧ w4.heap.size ≤ b
            | 10 => ∃ q o n, v = .slice (some ⟨q, o, none⟩) (c.s1.length + 1) n
            | 11 => v = .pointer (some ⟨g, 0, none⟩)
            | 12 => v = .pointer (some ⟨g, 12, none⟩)
            | 13 => v = .pointer (some ⟨g, 13, none⟩)
            | _ => v = undef) := ⟨_, rfl⟩
        obtain ⟨Ip, HIp⟩ : ∃ Ip : (Nat → Bool) → (Nat → Value) → World → Prop, Hid (Ip = fun L x W => (Touch (fun z => z = g ∨ (vs4 3).ownBlock = some z) w4 W ∧ (L 10 = false → CabM base g { c with e1 := l', f0 := c.f0 ++ ps } vs4 W) ∧ (L 10 = true → L 14 = false → CabG base g { c with e1 := l', f0 := c.f0 ++ ps, s1 := c.s1 ++ [f] } vs4 (fun q => if q = 3 then x 10 else vs4 q) W) ∧ (L 14 = true → ∃ vs', CabM base g { c with e1 := l', f0 := c.f0 ++ ps, s1 := c.s1 ++ [f] } vs' W))) := ⟨_, rfl⟩
        refine region_lit3 (by kernel_rfl) (by kernel_rfl) (by kernel_rfl) [[], [], [], [], [2], [2, 4], [2, 3, 4, 5], [2, 3, 4, 5, 6], [], [8], [2, 3, 4, 5, 6, 7, 8, 9], [0], [0, 11], [0, 1, 11, 12], [0, 1, 2, 3, 4, 5, 6, 7, 8, 9, 10, 11, 12, 13]] (by kernel_rfl) [some 43, some 44, some 45, some 46, some 47, some 48, some 49, some 50, some 51, some 52, some 53, some 54, some 55, some 56, none] (by kernel_rfl) [[0, 11, 12, 13, 14], [1, 13, 14], [2, 4, 5, 6, 7, 10, 14], [3, 6, 7, 10, 14], [4, 5, 6, 7, 10, 14], [5, 6, 7, 10, 14], [6, 7, 10, 14], [7, 10, 14], [8, 9, 10, 14], [9, 10, 14], [10, 14], [11, 12, 13, 14], [12, 13, 14], [13, 14], [14]] (by kernel_rfl) [[], [], [], [], [], [], [], [], [], [10, 14], [], [], [], [], []] [[], [], [], [], [2], [4], [3, 5], [6], [], [8], [7, 9], [0], [11], [1, 12], [10, 13]] (by kernel_rfl)
          Ip
          Vp
          (fun j W W' => match j with
            | 10 => W.grownBy W' (vs4 3).ownBlock
            | 14 => Touch (fun z => z = g) W W'
            | _ => Below W.heap.size W W')
          [fun x => ⟨(fZm 0 (.pointer (some ⟨g, 0, none⟩)) (fEm 43)).toArray, []⟩,
   fun x => ⟨(fZm 1 (.int .i64 1) (fEm 43)).toArray, []⟩,
   fun x => ⟨(fZm 0 (.pointer (some ⟨g, 0, none⟩)) (fEm 45)).toArray, []⟩,
   fun x => ⟨(fZm 1 (.int .i64 1) (fEm 45)).toArray, []⟩,
   fun x => ⟨(fZm 45 (x 2) (fEm 2)).toArray, []⟩,
   fun x => ⟨(fZm 47 (x 4) (fEm 1)).toArray, []⟩,
   fun x => ⟨(fZm 46 (x 3) (fZm 1 (x 5) (fEm 1))).toArray, []⟩,
   fun x => ⟨(fZm 49 (x 6) (fEm 1)).toArray, []⟩,
   fun x => ⟨(fZm 5 (.pointer (some ⟨w.heap.size, 0, none⟩)) (fEm 46)).toArray, []⟩,
   fun x => ⟨(fZm 51 (x 8) (fEm 1)).toArray, []⟩,
   fun x => ⟨(fZm 50 (x 7) (fZm 1 (x 9) (fEm 1))).toArray, []⟩,
   fun x => ⟨(fZm 43 (x 0) (fEm 11)).toArray, []⟩,
   fun x => ⟨(fZm 54 (x 11) (fEm 1)).toArray, []⟩,
   fun x => ⟨(fZm 44 (x 1) (fZm 10 (x 12) (fEm 1))).toArray, []⟩,
   fun x => ⟨(fZm 53 (x 10) (fZm 2 (x 13) [])).toArray, []⟩]
          ?hF ?mono ?h0 ?step [0, 1, 2, 3, 4, 5, 6, 7, 8, 10, 11, 12, 13, 14] (by kernel_rfl) ?fin
        case hF =>
          iterate 15 refine ⟨fun x => ⟨by kernel_rfl, by kernel_rfl⟩, ?_⟩
          trivial
        case mono =>
          intro i j hi hj hne hna hnk v W W' hE hv
          rw [HV.out] at hv ⊢
          simp only [List.length_cons, List.length_nil] at hi hj
          match i, hi with
          | 0, _ | 1, _ | 2, _ | 3, _ | 4, _ | 5, _ | 6, _ | 7, _ | 8, _ | 11, _ | 12, _ | 13, _ | 14, _ => exact hv
          | 9, _ =>
            match j, hj with
            | 9, _ => exact absurd rfl hne
            | 8, _ => exact absurd (by simp) hna
            | 10, _ | 14, _ => exact absurd (by simp) hnk
            | 0, _ | 1, _ | 2, _ | 3, _ | 4, _ | 5, _ | 6, _ | 7, _ | 11, _ | 12, _ | 13, _ => exact (by obtain ⟨b, h1, h2, h3⟩ := hv; exact ⟨b, h1, h2.go hE, h3⟩)
            | m + 15, h => exact absurd h (by omega)
          | 10, _ =>
            match j, hj with
            | 10, _ => exact absurd rfl hne
            | 2, _ | 3, _ | 4, _ | 5, _ | 6, _ | 7, _ | 8, _ | 9, _ => exact absurd (by simp) hna
            | 0, _ | 1, _ | 11, _ | 12, _ | 13, _ | 14, _ => exact (id hv)
            | m + 15, h => exact absurd h (by omega)
          | m + 15, h => exact absurd h (by omega)
        case h0 => intro x; exact toI HIp ⟨(Touch.refl _ _).drew, (fun _ => M4.out.go (Below.refl _ _).drew), (fun h => by cases h), (fun h => by cases h)⟩
        case step =>
          refine ⟨?_, ?_, ?_, ?_, ?_, ?_, ?_, ?_, ?_, ?_, ?_, ?_, ?_, ?_, ?_, trivial⟩
          all_goals
            intro x W L hI hL hV
            replace hI : (Touch (fun z => z = g ∨ (vs4 3).ownBlock = some z) w4 W ∧ (L 10 = false → CabM base g { c with e1 := l', f0 := c.f0 ++ ps } vs4 W) ∧ (L 10 = true → L 14 = false → CabG base g { c with e1 := l', f0 := c.f0 ++ ps, s1 := c.s1 ++ [f] } vs4 (fun q => if q = 3 then x 10 else vs4 q) W) ∧ (L 14 = true → ∃ vs', CabM base g { c with e1 := l', f0 := c.f0 ++ ps, s1 := c.s1 ++ [f] } vs' W)) := ofI HIp hI
            rw [HV.out] at hV
            simp only [AllV, and_true] at hV
            dsimp only [fZm, fEm, List.reduceReplicate, List.cons_append, List.nil_append]
          iterate 4
            · clear hV
              have HI := Lib.hid hI
              clear hI
              go_wp2_with fail
              refine step3_done rfl ?_ ?_ ?_
              · exact (toI HIp HI.out)
              · exact (Below.refl _ _)
              · exact (toV HV rfl)
          · have u2 := hV
            clear hV
            simp only [u2]
            clear u2
            have HI := Lib.hid hI
            clear hI
            go_wp2_with fail
            refine step3_done rfl ?_ ?_ ?_
            · exact (toI HIp HI.out)
            · exact (Below.refl _ _)
            · exact (toV HV rfl)
          · have u4 := hV
            clear hV
            simp only [u4]
            clear u4
            have HI := Lib.hid hI
            clear hI
            go_wp2_with fail
            refine step3_done rfl ?_ ?_ ?_
            · exact (toI HIp HI.out)
            · exact (Below.refl _ _)
            · exact (toV HV rfl)
          · obtain ⟨u3, u5⟩ := hV
            simp only [u3, u5]
            clear u3 u5
            have HI := Lib.hid hI
            clear hI
            go_wp2_with fail
            refine step3_done rfl ?_ ?_ ?_
            · exact (toI HIp HI.out)
            · exact (Below.refl _ _)
            · exact (toV HV rfl)
          · have u6 := hV
            clear hV
            simp only [u6]
            clear u6
            obtain ⟨_, _, _, _, _, _, _, _, bM, -⟩ := (hI.2.1 (hL.2 10 (by simp))).box
            obtain ⟨-, -, p10, p11, p12, p13, p14, p15⟩ := blk16_cells bM
            have HI := Lib.hid hI
            clear hI bM
            go_wp2_with fail
            refine step3_done rfl ?_ ?_ ?_
            · exact (toI HIp HI.out)
            · exact (Below.refl _ _)
            · exact (toV HV rfl)
          · clear hV
            obtain ⟨q0, q1, q2, q3, q4⟩ := blk_cells5 (XF4.out.touch hI.1 (fun h => by
              rcases h with h | h
              · omega
              · exact (Hrow4.out _ h).2.2 rfl))
            have HI := Lib.hid hI
            clear hI
            go_wp2_with fail
            refine step3_done rfl ?_ ?_ ?_
            · exact (toI HIp HI.out)
            · exact (Below.refl _ _)
            · exact (toV HV rfl)
          · have u8 := hV
            clear hV
            simp only [u8]
            clear u8
            have HL := Lib.hid hL
            have HI := Lib.hid hI
            have hzW := hI.1.size
            clear hI hL
            go_wp2_with fail
            have uW : ∀ o, Below W.heap.size W (W.alloc o) := fun o => (Below.refl _ _).alloc (Nat.le_refl _) o
            refine step3_done rfl ?_ ?_ ?_
            · exact (toI HIp ⟨HI.out.1.below (uW _) hzW, (fun h => (HI.out.2.1 h).go (uW _)), (fun h => absurd ((HL.out.2 10 (by simp)).symm.trans h) (by simp)), (fun h => absurd ((HL.out.2 14 (by simp)).symm.trans h) (by simp))⟩)
            · exact (uW _)
            · exact (toV HV ⟨_, rfl, Blk.new _ _, hzW⟩)
          · obtain ⟨u7, ⟨g9, u9, b9, l9⟩⟩ := hV
            simp only [u7, u9]
            have U9 := Lib.hid u9
            clear u7 u9
            have hM := hI.2.1 (hL.2 10 (by simp))
            have HL := Lib.hid hL
            have HI := Lib.hid hI
            have HM10 := Lib.hid hM
            have B9 := Lib.hid b9
            have hz6 := hI.1.size
            have hbW : base ≤ W.heap.size := by omega
            have Hy : Hid (Rep.rd (fun z => z < W.heap.size ∧ ¬ OX base g vs4 3 z ∧ (vs4 3).ownBlock ≠ some z) W f [.int .i64 f.kind, .int .i64 f.heard, .int .i64 f.epoch, .slice fa f.op.length fc, .string f.text]) := by
              refine ⟨fa, f.op.length, fc, rfl, Hfr.out.mono fun z hz => ?_, Hff.out⟩
              obtain ⟨z1, z2, z3, z4, z5⟩ := Hfr4.out z hz
              refine ⟨⟨by omega, ?_, z4 3 (by omega)⟩, (hI.1.block z (by omega) (fun h => by
                rcases h with h | h
                · exact z3 h
                · exact z4 3 (by omega) h)).trans z5⟩
              rintro (h | h | ⟨q, hq, -, h⟩)
              · omega
              · exact z3 h
              · exact z4 q hq h
            clear hI hL b9 hM
            go_wp2_with (at_builtin; refine wpList_append_oneO rfl _ _ _ (by rfl) base 30 i0 _ 64 Tryd.underlying31 Hi.out Hz0.out Hz1.out Hz2.out rfl (vs4 3) c.s1 (by rfl) HM10.out.o3 g9 1 _ [.int .i64 f.kind, .int .i64 f.heard, .int .i64 f.epoch, .slice fa f.op.length fc, .string f.text] f (by rfl) B9.out Hy.out (by unfold maxLen; omega) (by omega) hbW ?_)
            intro g2 o2 cap w7 hown7 hgrow hat hlt7
            have HG := Lib.hid hgrow
            have HP := Lib.hid (HM10.out.grow3 hgrow hown7 (fun k hk => by
              have e : g2 = k := by simpa [Value.ownBlock] using hk
              subst e
              exact hat))
            have HT := Lib.hid (HI.out.1.grown hgrow (fun k hk => .inl (.inr hk)))
            clear hgrow hown7 hat HI HM10 B9 Hy
            go_wp2_with fail
            refine step3_done rfl ?_ ?_ ?_
            · exact (toI HIp ⟨HT.out, (fun h => absurd h (by simp [setB])), (fun _ _ => HP.out), (fun h : L 14 = true => absurd ((HL.out.2 14 (by simp)).symm.trans h) (by simp))⟩)
            · exact HG.out
            · exact (toV HV ⟨_, _, _, rfl⟩)
          · have u0 := hV
            clear hV
            simp only [u0]
            clear u0
            have HI := Lib.hid hI
            clear hI
            go_wp2_with fail
            refine step3_done rfl ?_ ?_ ?_
            · exact (toI HIp HI.out)
            · exact (Below.refl _ _)
            · exact (toV HV rfl)
          · have u11 := hV
            clear hV
            simp only [u11]
            clear u11
            have HI := Lib.hid hI
            clear hI
            go_wp2_with fail
            refine step3_done rfl ?_ ?_ ?_
            · exact (toI HIp HI.out)
            · exact (Below.refl _ _)
            · exact (toV HV rfl)
          · obtain ⟨u1, u12⟩ := hV
            simp only [u1, u12]
            clear u1 u12
            have HI := Lib.hid hI
            clear hI
            go_wp2_with fail
            refine step3_done rfl ?_ ?_ ?_
            · exact (toI HIp HI.out)
            · exact (Below.refl _ _)
            · exact (toV HV rfl)
          · obtain ⟨⟨g10, o10, c10, u10⟩, u13⟩ := hV
            simp only [u10, u13]
            have U10 := Lib.hid u10
            clear u10 u13
            have hM := hI.2.2.1 (hL.1 10 (by simp)) (hL.2 14 (by simp))
            rw [U10.out] at hM
            obtain ⟨_, _, _, _, _, _, _, _, bM, -⟩ := hM.box
            obtain ⟨-, -, p10, p11, p12, p13, p14, p15⟩ := blk16_cells bM
            have fW := bM.frozen
            have hlt := bM.lt
            have HL := Lib.hid hL
            have HI := Lib.hid hI
            have HM15 := Lib.hid hM
            clear hI hL hM bM
            go_wp2_with fail
            have ht := touch1 (w := W) (g := g) (i := 13) (.slice (some ⟨g10, o10, none⟩) (c.s1.length + 1) c10)
            refine step3_done (v := undef) rfl ?_ ?_ ?_
            · exact (toI HIp ⟨HI.out.1.trans (ht.mono fun k _ hk => .inl hk), (fun h : L 10 = false => absurd ((HL.out.1 10 (by simp)).symm.trans h) (by simp)), (fun _ h => absurd h (by simp [setB])), (fun _ => ⟨_, HM15.out.put ht (fun _ _ _ _ _ _ _ _ b => b.set 13 _)⟩)⟩)
            · exact ht
            · exact (toV HV rfl)
        case fin =>
          intro x W L hL hI hV
          replace hI : (Touch (fun z => z = g ∨ (vs4 3).ownBlock = some z) w4 W ∧ (L 10 = false → CabM base g { c with e1 := l', f0 := c.f0 ++ ps } vs4 W) ∧ (L 10 = true → L 14 = false → CabG base g { c with e1 := l', f0 := c.f0 ++ ps, s1 := c.s1 ++ [f] } vs4 (fun q => if q = 3 then x 10 else vs4 q) W) ∧ (L 14 = true → ∃ vs', CabM base g { c with e1 := l', f0 := c.f0 ++ ps, s1 := c.s1 ++ [f] } vs' W)) := ofI HIp hI
          rw [HV.out] at hV
          simp only [AllV, and_true] at hV
          obtain ⟨u0, u1, u2, u3, u4, u5, u6, u7, u8, ⟨g10, o10, c10, u10⟩, u11, u12, u13, u14⟩ := hV
          simp only [getsD, List.getD_cons_succ, List.getD_cons_zero, List.length_cons, List.length_nil, List.range, List.range.loop, u0, u1, u2, u3, u4, u5, u6, u7, u8, u10, u11, u12, u13, u14, Act.put, List.setIfInBounds_toArray, List.set_cons_succ, List.set_cons_zero]
          clear u0 u1 u2 u3 u4 u5 u6 u7 u8 u10 u11 u12 u13 u14
          obtain ⟨vs5, hM5⟩ := hI.2.2.2 (hL 14 (by simp))
          have hT := hI.1
          have M5 := Lib.hid hM5
          have B5 : Hid (Below base w W) := B4.out.trans (hT.toBelow (by have := M4.out.gb; omega) (fun k hk => by
            rcases hk with hk | hk
            · omega
            · exact (Hrow4.out k hk).1))
          clear hI hL hT hM5
          go_wp2_with fail
          go_ret
          exact ⟨rfl, ⟨vs5, M5.out⟩, B5.out⟩
end Go.Proofs.YtkhacogeffidoaaDoor
