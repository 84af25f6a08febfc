/- The walk of (*node.work).send. -/
import Derived.Test.YtkbfhgcjimfgkaaDoorWkUp
import Derived.Test.YtkbfhgcjimfgkaaDoorOffB
import Derived.Test.YtkbfhgcjimfgkaaDoorLkLaw
set_option linter.unusedVariables false
set_option linter.unusedSimpArgs false
namespace Go.Proofs.YtkbfhgcjimfgkaaDoor
open Go.RowKit

/-- a frame is sent on a side -/
def Tn.send (t : Tn) (s : Nat) (f : Fr) : Tn := if (t.side s).l.sendE f = 0 then (t.setSide s { t.side s with l := (t.side s).l.sendL f }).post s ((t.side s).l.sendP f) else t
theorem len_setSide {t : Tn} {s : Nat} {y : Sd} : (t.setSide s y).node.sides.length = t.node.sides.length := by show (t.node.sides.set s y).length = _; rw [List.length_set]
set_option maxRecDepth 100000 in
set_option maxHeartbeats 8000000 in
theorem ndSend_any (base g : Nat) (t : Tn) (vs : Nat → Value) (s : Nat) (f : Fr) (fa : Option Addr) (fc : Nat) (w : World) (hg : Good w) (h : WkM base g t vs w) (hs : s < t.node.sides.length) (hr : RdS (NM g vs w) w f.op fa f.op.length fc) (hf : f.fits) (hn : t.posts.length ≤ 1000000) (hq : (t.side s).l.queue.length ≤ 1000000) :
    Calls Tryd.prog 51 #[.pointer (some ⟨g, 0, none⟩), .int .i64 (s : Int), .agg #[.int .i64 f.kind, .int .i64 f.heard, .int .i64 f.epoch, .slice fa f.op.length fc, .string f.text]] w fun e w' => e = .returned (.tuple #[]) ∧ WkS base g (t.send s f) vs w w' := by
  have HM := Lib.hid h
  have Hg := Lib.hid hg
  have hsd := t.side_get s hs
  obtain ⟨sr, so, sc, sxs, hv0, hsr1, hsr2, hsr3, hsr4, hsr5, hsr6, hsr7, hsr8⟩ := h.side s hs
  obtain ⟨ea, ec, la, lc, qa, qc, rfl, he1, he2, he3, hpe, hef, hlf⟩ := hsr6
  rw [← hsd] at hsr7 he1 he2 he3 hpe hef hlf
  have HS := Lib.hid (fun W (hW : Good W) h1 h2 h3 => lkSend_any (t.side s).l f la qa fa (t.side s).l.sent.length lc (t.side s).l.queue.length qc f.op.length fc W hW h1 h2 h3 hlf hf hq)
  unfold LkPksP at HS
  obtain ⟨hlf', hp⟩ := sendL_fits (t.side s).l f
  obtain ⟨l', hl'⟩ : ∃ l', l' = (t.side s).l.sendL f := ⟨_, rfl⟩
  obtain ⟨ps, hps⟩ : ∃ ps, ps = (t.side s).l.sendP f := ⟨_, rfl⟩
  obtain ⟨E, hE⟩ : ∃ E, E = (t.side s).l.sendE f := ⟨_, rfl⟩
  have hTn : Hid (t.send s f = if E = 0 then (t.setSide s { t.side s with l := l' }).post s ps else t) := by unfold Hid Tn.send; rw [hl', hps, hE]
  rw [← hl', ← hps, ← hE] at HS
  rw [← hps] at hp
  rw [← hl'] at hlf'
  have HNP := Lib.hid (fun W => node_ptr g W)
  have HV0 := Lib.hid hv0
  have Hmine := Lib.hid h.mine
  have Hlf := Lib.hid hlf'
  have Hp := Lib.hid hp
  have Hn := Lib.hid hn
  have HR := Lib.hid hr
  have hsI : (s : Int) < (sc : Int) := by omega
  have hsI2 : (s : Int) < (t.node.sides.length : Int) := by omega
  have hsc : (sc : Int) ≤ 9223372036854775807 := by unfold maxLen at hsr5; omega
  have hLc : ∀ W : World, W.heap[sr]? = w.heap[sr]? → W.cell? ⟨sr, so + s * 10 + 5, none⟩ = some (.int .i64 (t.side s).l.epoch) ∧ W.cell? ⟨sr, so + s * 10 + 6, none⟩ = some (.int .i64 (t.side s).l.next) ∧ W.cell? ⟨sr, so + s * 10 + 7, none⟩ = some (.slice la (t.side s).l.sent.length lc) ∧ W.cell? ⟨sr, so + s * 10 + 8, none⟩ = some (.slice qa (t.side s).l.queue.length qc) ∧ W.cell? ⟨sr, so + s * 10 + 9, none⟩ = some (.int .i64 (t.side s).l.heard) := fun W hW => ⟨(cell_keep hW).trans (hsr7 5 _ rfl), (cell_keep hW).trans (hsr7 6 _ rfl), (cell_keep hW).trans (hsr7 7 _ rfl), (cell_keep hW).trans (hsr7 8 _ rfl), (cell_keep hW).trans (hsr7 9 _ rfl)⟩
  have HLc := Lib.hid hLc
  have HFr := Lib.hid (fun j (hj : j < sc * 10) => hsr8 j hj)
  have RS := Lib.hid (he2.mono fun z hz => ⟨hz.1, rfl⟩ : RdS (· < w.heap.size) w (t.side s).l.sent la (t.side s).l.sent.length lc)
  have RQ := Lib.hid (he3.mono fun z hz => ⟨hz.1, rfl⟩ : RdS (· < w.heap.size) w (t.side s).l.queue qa (t.side s).l.queue.length qc)
  have RF := Lib.hid (hr.mono fun z hz => ⟨hz.1, rfl⟩ : RdS (· < w.heap.size) w f.op fa f.op.length fc)
  generalize hlk : (t.side s).l = lk at *
  clear hlk hl' hps hE hlf' hp hr hn he1 he2 he3 hLc hsr7 hsr8 hlf hef hpe hsd hf hq hv0
  generalize hNS : t.node.sides.length = NS at *
  have HNS := Lib.hid hNS
  have bx := h.box
  obtain ⟨-, -, -, -, -, p5, -⟩ := blk10_cells bx
  rw [HV0.out] at p5
  clear h hg bx hNS
  go_enter Tryd.func51, Tryd.ntmps51
  go_wp2_with fail
  refine abs_run (fun W => Below w.heap.size w W ∧ Blk w.heap.size (.cells #[.int .i64 f.kind, .int .i64 f.heard, .int .i64 f.epoch, .slice fa f.op.length fc, .string f.text] 44 (0, 0)) W) ⟨(Below.refl _ _).alloc (Nat.le_refl _) _, Blk.new w _⟩ ?_
  rintro w1 ⟨u1, x1⟩
  have B1 := Lib.hid u1
  have XF := Lib.hid x1
  have hz1 := x1.lt
  have hz01 := u1.size
  have p5' := (u1.cell (p := ⟨g, 5, none⟩) (HM.out.lt)).trans p5
  clear u1 x1 p5
  refine (HNP.out w1).mono ?_
  rintro e W' ⟨rfl, rfl⟩
  go_wp2_with fail
  clear p5'
  obtain ⟨Vp, HV⟩ : ∃ Vp : Nat → Value → World → Prop, Hid (Vp = fun i v W => match i with
      | 0 => v = .pointer (some ⟨sr, so + s * 10, none⟩)
      | 1 => v = .pointer (some ⟨sr, so + s * 10, none⟩)
      | 2 => v = .pointer (some ⟨sr, so + s * 10 + 5, none⟩)
      | 3 => v = .agg #[.int .i64 lk.epoch, .int .i64 lk.next, .slice la lk.sent.length lc, .slice qa lk.queue.length qc, .int .i64 lk.heard]
      | 4 => v = .agg #[.int .i64 f.kind, .int .i64 f.heard, .int .i64 f.epoch, .slice fa f.op.length fc, .string f.text]
      | 5 => ∃ y z, v = .tuple #[y, z, .int .i64 E] ∧ LkVal w1.heap.size l' y W ∧ PsVal w1.heap.size ps z W
      | 6 => ∃ y z, v = .tuple #[y, z, .int .i64 E] ∧ LkVal w1.heap.size l' y W ∧ PsVal w1.heap.size ps z W
      | 7 => ∃ y, v = y ∧ LkVal w1.heap.size l' y W
      | 8 => ∃ y, v = y ∧ PsVal w1.heap.size ps y W
      | 9 => v = .int .i64 E
      | 10 => ∃ gL, v = .pointer (some ⟨gL, 0, none⟩) ∧ w1.heap.size ≤ gL ∧ Blk gL (.cells #[.int .i64 0, .int .i64 0, .slice none 0 0, .slice none 0 0, .int .i64 0] 70 (0, 0)) W
      | 11 => v = undef
      | 12 => ∃ y, v = y ∧ PsVal w1.heap.size ps y W
      | _ => v = .int .i64 E) := ⟨_, rfl⟩
  obtain ⟨Ip, HIp⟩ : ∃ Ip : (Nat → Bool) → (Nat → Value) → World → Prop, Hid (Ip = fun L x W => (Below w1.heap.size w1 W ∧ (L 11 = true → ∃ gL, x 10 = .pointer (some ⟨gL, 0, none⟩) ∧ w1.heap.size ≤ gL ∧ LkBox w1.heap.size gL l' W))) := ⟨_, rfl⟩
  refine region_lit3 (by kernel_rfl) (by kernel_rfl) (by kernel_rfl) [[], [0], [0, 1], [0, 1, 2], [], [0, 1, 2, 3, 4], [0, 1, 2, 3, 4, 5], [0, 1, 2, 3, 4, 5, 6], [0, 1, 2, 3, 4, 5, 6], [0, 1, 2, 3, 4, 5, 6], [], [0, 1, 2, 3, 4, 5, 6, 7, 10], [0, 1, 2, 3, 4, 5, 6, 8], [0, 1, 2, 3, 4, 5, 6, 9]] (by kernel_rfl) [some 18, some 19, some 20, some 21, some 22, some 23, some 17, some 24, some 25, some 26, some 7, none, some 8, some 9] (by kernel_rfl) [[0, 1, 2, 3, 5, 6, 7, 8, 9, 11, 12, 13], [1, 2, 3, 5, 6, 7, 8, 9, 11, 12, 13], [2, 3, 5, 6, 7, 8, 9, 11, 12, 13], [3, 5, 6, 7, 8, 9, 11, 12, 13], [4, 5, 6, 7, 8, 9, 11, 12, 13], [5, 6, 7, 8, 9, 11, 12, 13], [6, 7, 8, 9, 11, 12, 13], [7, 11], [8, 12], [9, 13], [10, 11], [11], [12], [13]] (by kernel_rfl) [[], [], [], [], [], [], [], [11], [], [], [11], [], [], []] [[], [0], [1], [2], [], [3, 4], [5], [6], [6], [6], [], [7, 10], [8], [9]] (by kernel_rfl)
    Ip
    Vp
    (fun j W W' => match j with
      | 11 => ∃ gL, Blk gL (.cells #[.int .i64 0, .int .i64 0, .slice none 0 0, .slice none 0 0, .int .i64 0] 70 (0, 0)) W ∧ Touch (fun z => z = gL) W W' ∧ w1.heap.size ≤ gL
      | _ => Below W.heap.size W W')
    [fun x => ⟨(fZm 6 (.pointer (some ⟨sr, so + s * 10, none⟩)) (fEm 12)).toArray, []⟩,
   fun x => ⟨(fZm 18 (x 0) (fEm 1)).toArray, []⟩,
   fun x => ⟨(fZm 19 (x 1) (fEm 1)).toArray, []⟩,
   fun x => ⟨(fZm 20 (x 2) (fEm 1)).toArray, []⟩,
   fun x => ⟨(fZm 5 (.pointer (some ⟨w.heap.size, 0, none⟩)) (fEm 17)).toArray, []⟩,
   fun x => ⟨(fZm 21 (x 3) (fZm 0 (x 4) (fEm 1))).toArray, []⟩,
   fun x => ⟨(fZm 23 (x 5) []).toArray, []⟩,
   fun x => ⟨(fZm 17 (x 6) (fEm 7)).toArray, []⟩,
   fun x => ⟨(fZm 17 (x 6) (fEm 8)).toArray, []⟩,
   fun x => ⟨(fZm 17 (x 6) (fEm 9)).toArray, []⟩,
   fun x => ⟨(fEm 8).toArray, []⟩,
   fun x => ⟨(fZm 7 (x 10) (fZm 16 (x 7) [])).toArray, []⟩,
   fun x => ⟨(fZm 25 (x 8) []).toArray, []⟩,
   fun x => ⟨(fZm 26 (x 9) []).toArray, []⟩]
    ?hF ?mono ?h0 ?step [0, 1, 2, 3, 4, 5, 6, 8, 9, 11, 12, 13] (by kernel_rfl) ?fin
  case hF =>
    iterate 14 refine ⟨fun x => ⟨by kernel_rfl, by kernel_rfl⟩, ?_⟩
    trivial
  case mono =>
    intro i j hi hj hne hna hnk v W W' hE hv
    rw [HV.out] at hv ⊢
    simp only [List.length_cons, List.length_nil] at hi hj
    match i, hi with
    | 0, _ | 1, _ | 2, _ | 3, _ | 4, _ | 9, _ | 11, _ | 13, _ => exact hv
    | 5, _ =>
      match j, hj with
      | 5, _ => exact absurd rfl hne
      | 0, _ | 1, _ | 2, _ | 3, _ | 4, _ => exact absurd (by simp) hna
      | 6, _ | 7, _ | 8, _ | 9, _ | 10, _ | 12, _ | 13, _ => exact (by obtain ⟨y, z, e, h, k⟩ := hv; exact ⟨y, z, e, h.go hE, k.go hE⟩)
      | 11, _ => exact (by obtain ⟨y, z, e, h, k⟩ := hv; obtain ⟨q, hz, ht, -⟩ := hE; exact ⟨y, z, e, h.off hz ht, k.off hz ht⟩)
      | m + 14, h => exact absurd h (by omega)
    | 6, _ =>
      match j, hj with
      | 6, _ => exact absurd rfl hne
      | 0, _ | 1, _ | 2, _ | 3, _ | 4, _ | 5, _ => exact absurd (by simp) hna
      | 7, _ | 8, _ | 9, _ | 10, _ | 12, _ | 13, _ => exact (by obtain ⟨y, z, e, h, k⟩ := hv; exact ⟨y, z, e, h.go hE, k.go hE⟩)
      | 11, _ => exact (by obtain ⟨y, z, e, h, k⟩ := hv; obtain ⟨q, hz, ht, -⟩ := hE; exact ⟨y, z, e, h.off hz ht, k.off hz ht⟩)
      | m + 14, h => exact absurd h (by omega)
    | 7, _ =>
      match j, hj with
      | 7, _ => exact absurd rfl hne
      | 0, _ | 1, _ | 2, _ | 3, _ | 4, _ | 5, _ | 6, _ => exact absurd (by simp) hna
      | 11, _ => exact absurd (by simp) hnk
      | 8, _ | 9, _ | 10, _ | 12, _ | 13, _ => exact (by obtain ⟨y, e, h⟩ := hv; exact ⟨y, e, h.go hE⟩)
      | m + 14, h => exact absurd h (by omega)
    | 8, _ =>
      match j, hj with
      | 8, _ => exact absurd rfl hne
      | 0, _ | 1, _ | 2, _ | 3, _ | 4, _ | 5, _ | 6, _ => exact absurd (by simp) hna
      | 7, _ | 9, _ | 10, _ | 12, _ | 13, _ => exact (by obtain ⟨y, e, h⟩ := hv; exact ⟨y, e, h.go hE⟩)
      | 11, _ => exact (by obtain ⟨y, e, h⟩ := hv; obtain ⟨q, hz, ht, -⟩ := hE; exact ⟨y, e, h.off hz ht⟩)
      | m + 14, h => exact absurd h (by omega)
    | 10, _ =>
      match j, hj with
      | 10, _ => exact absurd rfl hne
      | 11, _ => exact absurd (by simp) hnk
      | 0, _ | 1, _ | 2, _ | 3, _ | 4, _ | 5, _ | 6, _ | 7, _ | 8, _ | 9, _ | 12, _ | 13, _ => exact (by obtain ⟨q, h1, h2, h3⟩ := hv; exact ⟨q, h1, h2, h3.go hE⟩)
      | m + 14, h => exact absurd h (by omega)
    | 12, _ =>
      match j, hj with
      | 12, _ => exact absurd rfl hne
      | 0, _ | 1, _ | 2, _ | 3, _ | 4, _ | 5, _ | 6, _ | 8, _ => exact absurd (by simp) hna
      | 7, _ | 9, _ | 10, _ | 13, _ => exact (by obtain ⟨y, e, h⟩ := hv; exact ⟨y, e, h.go hE⟩)
      | 11, _ => exact (by obtain ⟨y, e, h⟩ := hv; obtain ⟨q, hz, ht, -⟩ := hE; exact ⟨y, e, h.off hz ht⟩)
      | m + 14, h => exact absurd h (by omega)
    | m + 14, h => exact absurd h (by omega)
  case h0 => intro x; exact toI HIp ⟨(Below.refl _ _).drew, (fun h => by cases h)⟩
  case step =>
    refine ⟨?_, ?_, ?_, ?_, ?_, ?_, ?_, ?_, ?_, ?_, ?_, ?_, ?_, ?_, trivial⟩
    all_goals
      intro x W L hI hL hV
      replace hI : (Below w1.heap.size w1 W ∧ (L 11 = true → ∃ gL, x 10 = .pointer (some ⟨gL, 0, none⟩) ∧ w1.heap.size ≤ gL ∧ LkBox w1.heap.size gL l' W)) := ofI HIp hI
      rw [HV.out] at hV
      simp only [AllV, and_true] at hV
      dsimp only [fZm, fEm, List.reduceReplicate, List.cons_append, List.nil_append]
    · clear hV
      have HI := Lib.hid hI
      clear hI
      go_wp2_with fail
      refine step3_done rfl ?_ ?_ ?_
      · exact (toI HIp HI.out)
      · exact (Below.refl _ _)
      · exact (toV HV rfl)
    · have u0 := hV
      clear hV
      simp only [u0]
      clear u0
      have HI := Lib.hid hI
      clear hI
      go_wp2_with fail
      refine step3_done rfl ?_ ?_ ?_
      · exact (toI HIp HI.out)
      · exact (Below.refl _ _)
      · exact (toV HV rfl)
    · have u1 := hV
      clear hV
      simp only [u1]
      clear u1
      have HI := Lib.hid hI
      clear hI
      go_wp2_with fail
      refine step3_done rfl ?_ ?_ ?_
      · exact (toI HIp HI.out)
      · exact (Below.refl _ _)
      · exact (toV HV rfl)
    · have u2 := hV
      clear hV
      simp only [u2]
      clear u2
      obtain ⟨p5, p6, p7, p8, p9⟩ := HLc.out W ((hI.1.block sr (by omega)).trans (B1.out.block sr hsr2))
      have HI := Lib.hid hI
      clear hI
      go_wp2_with fail
      refine step3_done rfl ?_ ?_ ?_
      · exact (toI HIp HI.out)
      · exact (Below.refl _ _)
      · exact (toV HV rfl)
    · clear hV
      obtain ⟨q0, q1, q2, q3, q4⟩ := blk_cells5 (XF.out.go hI.1)
      have HI := Lib.hid hI
      clear hI
      go_wp2_with fail
      refine step3_done rfl ?_ ?_ ?_
      · exact (toI HIp HI.out)
      · exact (Below.refl _ _)
      · exact (toV HV rfl)
    · obtain ⟨u3, u4⟩ := hV
      simp only [u3, u4]
      clear u3 u4
      have HL := Lib.hid hL
      have HI := Lib.hid hI
      have hzW := hI.1.size
      have hu := Lib.hid (up B1.out hI.1)
      clear hI hL
      go_wp2_with fail
      refine (HS.out _ (Hg.out.go hu.out) (RS.out.go hu.out) (RQ.out.go hu.out) (RF.out.go hu.out)).mono ?_
      rintro e W' ⟨xa, xc, ya, yc, pa, pc, rfl, t1, t2, t3, hb⟩
      go_wp2_with fail
      refine step3_done rfl ?_ ?_ ?_
      · exact (toI HIp ⟨up HI.out.1 hb, fun h => absurd ((HL.out.2 11 (by simp)).symm.trans h) (by simp)⟩)
      · exact hb
      · exact (toV HV ⟨_, _, rfl, LkVal.deep ⟨xa, xc, ya, yc, rfl, t1, t2⟩ hzW, PsVal.deep ⟨pa, pc, rfl, t3⟩ hzW⟩)
    · obtain ⟨y5, z5, u5, h5, k5⟩ := hV
      simp only [u5]
      have U5 := Lib.hid u5
      clear u5
      have HI := Lib.hid hI
      clear hI
      go_wp2_with fail
      refine step3_done rfl ?_ ?_ ?_
      · exact (toI HIp HI.out)
      · exact (Below.refl _ _)
      · exact (toV HV ⟨_, _, rfl, h5, k5⟩)
    · obtain ⟨y6, z6, u6, h6, k6⟩ := hV
      simp only [u6]
      have U6 := Lib.hid u6
      clear u6
      have HI := Lib.hid hI
      clear hI
      go_wp2_with fail
      refine step3_done rfl ?_ ?_ ?_
      · exact (toI HIp HI.out)
      · exact (Below.refl _ _)
      · exact (toV HV ⟨_, rfl, h6⟩)
    · obtain ⟨y6, z6, u6, h6, k6⟩ := hV
      simp only [u6]
      have U6 := Lib.hid u6
      clear u6
      have HI := Lib.hid hI
      clear hI
      go_wp2_with fail
      refine step3_done rfl ?_ ?_ ?_
      · exact (toI HIp HI.out)
      · exact (Below.refl _ _)
      · exact (toV HV ⟨_, rfl, k6⟩)
    · obtain ⟨y6, z6, u6, h6, k6⟩ := hV
      simp only [u6]
      have U6 := Lib.hid u6
      clear u6
      have HI := Lib.hid hI
      clear hI
      go_wp2_with fail
      refine step3_done rfl ?_ ?_ ?_
      · exact (toI HIp HI.out)
      · exact (Below.refl _ _)
      · exact (toV HV rfl)
    · clear hV
      have HL := Lib.hid hL
      have HI := Lib.hid hI
      have hzW := hI.1.size
      clear hI hL
      go_wp2_with fail
      have uW : ∀ o, Below W.heap.size W (W.alloc o) := fun o => (Below.refl _ _).alloc (Nat.le_refl _) o
      refine step3_done rfl ?_ ?_ ?_
      · exact (toI HIp ⟨up HI.out.1 (uW _), fun h => absurd ((HL.out.2 11 (by simp)).symm.trans h) (by simp)⟩)
      · exact (uW _)
      · exact (toV HV ⟨_, rfl, hzW, Blk.new _ _⟩)
    · obtain ⟨⟨y7, u7, h7⟩, ⟨g10, u10, l10, b10⟩⟩ := hV
      simp only [u10, u7]
      have U7 := Lib.hid u7
      have U10 := Lib.hid u10
      clear u7 u10
      have hoff := fun W' (ht : Touch (fun z => z = g10) W W') => h7.off b10 ht
      obtain ⟨sb, sd, qb, qd, rfl, -, -⟩ := h7
      obtain ⟨q0, q1, q2, q3, q4⟩ := blk_cells5 b10
      have fW := b10.frozen
      have hg9 := b10.lt
      have B7 := Lib.hid (blk_set5 b10 (.int .i64 l'.epoch) (.int .i64 l'.next) (.slice sb l'.sent.length sd) (.slice qb l'.queue.length qd) (.int .i64 l'.heard))
      have HT := Lib.hid (touch5 W g10 (.int .i64 l'.epoch) (.int .i64 l'.next) (.slice sb l'.sent.length sd) (.slice qb l'.queue.length qd) (.int .i64 l'.heard))
      have HLV := Lib.hid (hoff _ HT.out)
      have HI := Lib.hid hI
      have HB9 := Lib.hid b10
      clear hI b10 hoff
      go_wp2_with fail
      refine step3_done (v := undef) rfl (toI HIp ⟨HI.out.1.trans (HT.out.toBelow HI.out.1.size (fun k hk => by omega)), fun _ => ⟨g10, U10.out, l10, ?_⟩⟩) ⟨g10, HB9.out, HT.out, l10⟩ (toV HV rfl)
      obtain ⟨sb', sd', qb', qd', e', t1, t2⟩ := HLV.out
      simp only [Value.agg.injEq, Array.mk.injEq, List.cons.injEq, Value.slice.injEq, true_and, and_true] at e'
      obtain ⟨⟨rfl, rfl⟩, rfl, rfl⟩ := e'
      exact ⟨sb, sd, qb, qd, B7.out, t1, t2⟩
    · obtain ⟨y8, u8, h8⟩ := hV
      simp only [u8]
      have U8 := Lib.hid u8
      clear u8
      have HI := Lib.hid hI
      clear hI
      go_wp2_with fail
      refine step3_done rfl ?_ ?_ ?_
      · exact (toI HIp HI.out)
      · exact (Below.refl _ _)
      · exact (toV HV ⟨_, rfl, h8⟩)
    · have u9 := hV
      clear hV
      simp only [u9]
      clear u9
      have HI := Lib.hid hI
      clear hI
      go_wp2_with fail
      refine step3_done rfl ?_ ?_ ?_
      · exact (toI HIp HI.out)
      · exact (Below.refl _ _)
      · exact (toV HV rfl)
  case fin =>
    intro x W L hL hI hV
    replace hI : (Below w1.heap.size w1 W ∧ (L 11 = true → ∃ gL, x 10 = .pointer (some ⟨gL, 0, none⟩) ∧ w1.heap.size ≤ gL ∧ LkBox w1.heap.size gL l' W)) := ofI HIp hI
    rw [HV.out] at hV
    simp only [AllV, and_true] at hV
    obtain ⟨u0, u1, u2, u3, u4, ⟨y5, z5, u5, h5, k5⟩, ⟨y6, z6, u6, h6, k6⟩, ⟨y8, u8, h8⟩, u9, u11, ⟨y12, u12, h12⟩, u13⟩ := hV
    simp only [getsD, List.getD_cons_succ, List.getD_cons_zero, List.length_cons, List.length_nil, List.range, List.range.loop, u0, u1, u2, u3, u4, u5, u6, u8, u9, u11, u12, u13, Act.put, List.setIfInBounds_toArray, List.set_cons_succ, List.set_cons_zero]
    clear u0 u1 u2 u3 u4 u5 u6 u8 u9 u11 u12 u13
    obtain ⟨gL, hxL, hlL, bL⟩ := hI.2 (hL 11 (by simp))
    have hb := hI.1
    simp only [hxL]
    obtain ⟨sb, sd, qb, qd, bL2, rl1, rl2⟩ := bL
    have hrw : W.heap[sr]? = w.heap[sr]? := (hb.block sr (by omega)).trans (B1.out.block sr hsr2)
    have B2 := Lib.hid (up B1.out hb)
    have M2 := Lib.hid (HM.out.go B2.out)
    obtain ⟨pa, pc, rfl, rp⟩ := h12
    have RP := Lib.hid rp
    have XL := Lib.hid bL2
    have RL := Lib.hid (And.intro rl1 rl2)
    have hz2 := hb.size
    obtain ⟨w2, rfl⟩ : ∃ x : World, x = W := ⟨_, rfl⟩
    clear hI hL hb bL2 rl1 rl2 rp HS RS RQ B1 XF
    by_cases hE0 : E = 0
    · subst hE0
      obtain ⟨p5, p6, p7, p8, p9⟩ := HLc.out w2 hrw
      have hfr : ∀ j, j < sc * 10 → w2.frozen? ⟨sr, so + j, none⟩ = false := fun j hj => (World.frozen?_of_block (a := ⟨sr, so + j, none⟩) hrw).trans (HFr.out j hj)
      have f5 : w2.frozen? ⟨sr, so + s * 10 + 5, none⟩ = false := hfr (s * 10 + 5) (by omega)
      have f6 : w2.frozen? ⟨sr, so + s * 10 + 6, none⟩ = false := hfr (s * 10 + 6) (by omega)
      have f7 : w2.frozen? ⟨sr, so + s * 10 + 7, none⟩ = false := hfr (s * 10 + 7) (by omega)
      have f8 : w2.frozen? ⟨sr, so + s * 10 + 8, none⟩ = false := hfr (s * 10 + 8) (by omega)
      have f9 : w2.frozen? ⟨sr, so + s * 10 + 9, none⟩ = false := hfr (s * 10 + 9) (by omega)
      obtain ⟨q0, q1, q2, q3, q4⟩ := blk_cells5 XL.out
      have hfresh : ∀ z, Fresh w1.heap.size w2 z → z < w2.heap.size ∧ ¬ WX base g vs z ∧ z ≠ sr := fun z hz => ⟨hz.2, (fun h => by
        rcases h with h | h
        · have := HM.out.gb; have := HM.out.lt; have := hz.1; omega
        · have := (Hmine.out z h).2; have := hz.1; omega), fun e => by have := hz.1; omega⟩
      obtain ⟨hu1, hu2⟩ := M2.out.updLink s (by rw [HNS.out]; exact hs) (by rw [HNS.out]; exact HV0.out) l' Hlf.out sb sd qb qd (RL.out.1.mono fun z hz => ⟨hfresh z hz, rfl⟩) (RL.out.2.mono fun z hz => ⟨hfresh z hz, rfl⟩)
      obtain ⟨W3, hW3⟩ : ∃ W3, W3 = ((((w2.setCell ⟨sr, so + s * 10 + 5, none⟩ (.int .i64 l'.epoch)).setCell ⟨sr, so + s * 10 + 5 + 1, none⟩ (.int .i64 l'.next)).setCell ⟨sr, so + s * 10 + 5 + 2, none⟩ (.slice sb l'.sent.length sd)).setCell ⟨sr, so + s * 10 + 5 + 3, none⟩ (.slice qb l'.queue.length qd)).setCell ⟨sr, so + s * 10 + 5 + 4, none⟩ (.int .i64 l'.heard) := ⟨_, rfl⟩
      have M3 : Hid (WkM base g (t.setSide s { t.side s with l := l' }) vs W3) := by rw [hW3]; exact hu1
      have T3 : Hid (Touch (Mine g vs) w2 W3) := by rw [hW3]; exact hu2
      have T03 : Hid (Touch (Mine g vs) w W3) := (Touch.of_below B2.out).trans T3.out
      have hT2 : t.send s f = (t.setSide s { t.side s with l := l' }).post s ps := by rw [hTn.out, if_pos rfl]
      have HT2 := Lib.hid hT2
      have HW3 := Lib.hid hW3
      have RP3 : Hid (RdS (NB base g vs W3) W3 ps pa ps.length pc) := (RP.out.mono fun z hz => ⟨⟨by have := HM.out.gb; have := HM.out.lt; have := hz.1; omega, Nat.lt_of_lt_of_le hz.2 T3.out.size, fun h => by have := (Hmine.out z h).2; have := hz.1; omega⟩, T3.out.block z hz.2 (fun h => by have := (Hmine.out z h).2; have := hz.1; omega)⟩ : RdS (NB base g vs W3) W3 ps pa ps.length pc)
      clear hfr hrw hu1 hu2 hW3 hT2 hfresh RP RL M2 B2 XL
      go_wp2_with fail
      rw [← HW3.out]
      refine (post_any base g _ vs s ps pa pc W3 M3.out (by rw [len_setSide, HNS.out]; exact hs) RP3.out Hn.out (by have := Hp.out; omega)).mono ?_
      rintro e w4 ⟨rfl, m4⟩
      have HW : Hid (WkS base g (t.send s f) vs w w4) := by rw [HT2.out]; exact WkS.trans T03.out (fun z h => .inl h) m4
      clear m4 HT2
      go_wp2_with fail
      go_end0
      exact ⟨rfl, HW.out⟩
    · have hEb : (E == 0) = false := by simpa using hE0
      have hT2 : t.send s f = t := by rw [hTn.out, if_neg hE0]
      have HW : Hid (WkS base g (t.send s f) vs w w2) := by rw [hT2]; exact HM.out.stayB B2.out
      clear hT2 hrw
      go_wp2_with fail
      go_end0
      exact ⟨rfl, HW.out⟩
end Go.Proofs.YtkbfhgcjimfgkaaDoor
