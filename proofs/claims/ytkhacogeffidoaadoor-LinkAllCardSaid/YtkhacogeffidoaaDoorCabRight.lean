/- The walk of (*cable).right (printed by gen_cab.py). -/
import Derived.Test.YtkhacogeffidoaaDoorCabOff
import Derived.Test.YtkhacogeffidoaaDoorSamePk
import Derived.BigQuiet
set_option linter.unusedVariables false
set_option linter.unusedSimpArgs false
namespace Go.Proofs.YtkhacogeffidoaaDoor
open Go.RowKit

set_option maxRecDepth 100000 in
set_option maxHeartbeats 8000000 in
theorem cab_right0 (base g : Nat) (c : Cb) (vs : Nat → Value) (w : World) (h : CabM base g c vs w) (hl : c.t0.length ≤ c.s1.length) (hf : ∀ (k : Nat) (f : Fr), c.t0[k]? = some f → c.s1[k]? = some f) :
    Calls Tryd.prog 25 #[.pointer (some ⟨g, 0, none⟩), .int .i64 0] w fun e w' => e = .returned (.bool true) ∧ Below w.heap.size w w' := by
  obtain ⟨ta, td, htv, htr⟩ := h.o4.rd (A := (· < w.heap.size)) (fun b hb _ => hb) (fun k hk => (h.o4.rowlt k hk).2)
  obtain ⟨sa, sd, hsv, hsr⟩ := h.o3.rd (A := (· < w.heap.size)) (fun b hb _ => hb) (fun k hk => (h.o3.rowlt k hk).2)
  obtain ⟨_, _, _, _, _, _, _, _, bx, -⟩ := h.box
  obtain ⟨-, -, p10, p11, p12, p13, p14, p15⟩ := blk16_cells bx
  rw [htv] at p14
  rw [hsv] at p13
  have hgw := h.lt
  have htm := htr.2.2.1
  have htc := htr.2.1
  have hsm := hsr.2.2.1
  have hsc := hsr.2.1
  have Htr := Lib.hid htr
  have Hsr := Lib.hid hsr
  have Hf := Lib.hid hf
  have Hc := Lib.hid (And.intro p14 p13)
  have HS := Lib.hid (fun f a b cc d W h1 h2 => sameFrame_ok f a b f.op.length cc f.op.length d W h1 h2)
  generalize hn : c.t0.length = n at *
  generalize hm : c.s1.length = m at *
  have Hn := Lib.hid (And.intro hn hm)
  unfold maxLen at htm hsm
  have hnm : ¬ ((m : Int) < (n : Int)) := by omega
  have hnm2 : (n : Int) ≤ (m : Int) := by omega
  have hn63 : (n : Int) ≤ 9223372036854775807 := by omega
  clear h hf htr hsr htv hsv bx hn hm htm htc hsm hsc
  go_enter Tryd.func25, Tryd.ntmps25
  go_wp2_with fail
  go_quiet (fail)
  go_wp2_with fail
  refine abs_w (fun W => Below w.heap.size w W) (below_drewN (Below.refl _ _) _) ?_
  intro w1 b1
  have B1 := Lib.hid b1
  clear p10 p11 p12 p13 p14 p15
  have p14 := (b1.cell (p := ⟨g, 14, none⟩) hgw).trans Hc.out.1
  have p13 := (b1.cell (p := ⟨g, 13, none⟩) hgw).trans Hc.out.2
  clear b1
  go_wp2_with fail
  clear p14 p13
  go_loopw [30] (fun vi wr => ∃ k : Nat, k ≤ n ∧ vi = .int .i64 (k : Int) ∧ Below w.heap.size w wr) (fun vi _ => n - (intOf vi).toNat)
  case atStart => exact ⟨0, by omega, rfl, B1.out⟩
  case round =>
    obtain ⟨k, hk, rfl, b2⟩ := hrel
    have B2 := Lib.hid b2
    have hz2 := b2.size
    clear b2 B1
    by_cases hlt : k < n
    · obtain ⟨tg, to_, rfl, htg, htb, hte⟩ := Htr.out.2.2.2.2 (by omega)
      obtain ⟨sg, so, rfl, hsg, hsb, hse⟩ := Hsr.out.2.2.2.2 (by omega)
      obtain ⟨f, hfk⟩ : ∃ f, c.t0[k]? = some f := ⟨_, List.getElem?_eq_getElem (by rw [Hn.out.1]; exact hlt)⟩
      obtain ⟨xs, ⟨fa, fn, fd, rfl, hfr, -⟩, hxc⟩ := hte k f hfk
      obtain ⟨ys, ⟨ga, gn, gd, rfl, hgr, -⟩, hyc⟩ := hse k f (Hf.out k f hfk)
      have hfn := hfr.1
      subst hfn
      have hgn := hgr.1
      subst hgn
      have x0 : w.cell? ⟨tg, to_ + k * 5, none⟩ = _ := hxc 0 _ rfl
      have x1 : w.cell? ⟨tg, to_ + k * 5 + 1, none⟩ = _ := hxc 1 _ rfl
      have x2 : w.cell? ⟨tg, to_ + k * 5 + 1 + 1, none⟩ = _ := hxc 2 _ rfl
      have x3 : w.cell? ⟨tg, to_ + k * 5 + 1 + 1 + 1, none⟩ = _ := hxc 3 _ rfl
      have x4 : w.cell? ⟨tg, to_ + k * 5 + 1 + 1 + 1 + 1, none⟩ = _ := hxc 4 _ rfl
      have y0 : w.cell? ⟨sg, so + k * 5, none⟩ = _ := hyc 0 _ rfl
      have y1 : w.cell? ⟨sg, so + k * 5 + 1, none⟩ = _ := hyc 1 _ rfl
      have y2 : w.cell? ⟨sg, so + k * 5 + 1 + 1, none⟩ = _ := hyc 2 _ rfl
      have y3 : w.cell? ⟨sg, so + k * 5 + 1 + 1 + 1, none⟩ = _ := hyc 3 _ rfl
      have y4 : w.cell? ⟨sg, so + k * 5 + 1 + 1 + 1 + 1, none⟩ = _ := hyc 4 _ rfl
      have Y := Lib.hid (And.intro y0 (And.intro y1 (And.intro y2 (And.intro y3 y4))))
      replace x0 := (B2.out.cell (p := ⟨tg, to_ + k * 5, none⟩) htb).trans x0
      replace x1 := (B2.out.cell (p := ⟨tg, to_ + k * 5 + 1, none⟩) htb).trans x1
      replace x2 := (B2.out.cell (p := ⟨tg, to_ + k * 5 + 1 + 1, none⟩) htb).trans x2
      replace x3 := (B2.out.cell (p := ⟨tg, to_ + k * 5 + 1 + 1 + 1, none⟩) htb).trans x3
      replace x4 := (B2.out.cell (p := ⟨tg, to_ + k * 5 + 1 + 1 + 1 + 1, none⟩) htb).trans x4
      have RF := Lib.hid hfr
      have RG := Lib.hid hgr
      have hlt' : (k : Int) < (n : Int) := by omega
      have hlt2 : (k : Int) < (m : Int) := by omega
      clear hte hse hxc hyc hfr hgr hfk y0 y1 y2 y3 y4
      go_wp2_with fail
      refine abs_w (fun W => Below wr.heap.size wr W ∧ Blk wr.heap.size (.cells #[.int .i64 f.kind, .int .i64 f.heard, .int .i64 f.epoch, .slice fa f.op.length fd, .string f.text] 30 (0, 0)) W) ⟨(Below.refl _ _).alloc (Nat.le_refl _) _, Blk.new wr _⟩ ?_
      rintro w3 ⟨b3, x3'⟩
      have B3 := Lib.hid (up B2.out b3)
      have XF := Lib.hid x3'
      have hz3 := b3.size
      clear b3 x3' B2 x0 x1 x2 x3 x4
      obtain ⟨Vp, HV⟩ : ∃ Vp : Nat → Value → World → Prop, Hid (Vp = fun i v W => match i with
          | 0 => v = .agg #[.int .i64 f.kind, .int .i64 f.heard, .int .i64 f.epoch, .slice fa f.op.length fd, .string f.text]
          | 1 => v = .pointer (some ⟨g, 0, none⟩)
          | 2 => v = .int .i64 0
          | 3 => v = .int .i64 1
          | 4 => v = .pointer (some ⟨g, 0, none⟩)
          | 5 => v = .pointer (some ⟨g, 12, none⟩)
          | 6 => v = .pointer (some ⟨g, 13, none⟩)
          | 7 => v = .slice (some ⟨sg, so, none⟩) m sd
          | 8 => v = .int .i64 (k : Int)
          | 9 => v = .pointer (some ⟨sg, so + k * 5, none⟩)
          | 10 => v = .agg #[.int .i64 f.kind, .int .i64 f.heard, .int .i64 f.epoch, .slice ga f.op.length gd, .string f.text]
          | 11 => v = .bool true
          | _ => v = .bool false) := ⟨_, rfl⟩
      obtain ⟨Ip, HIp⟩ : ∃ Ip : (Nat → Bool) → (Nat → Value) → World → Prop, Hid (Ip = fun L x W => (Below w3.heap.size w3 W)) := ⟨_, rfl⟩
      refine region_lit3 (by kernel_rfl) (by kernel_rfl) (by kernel_rfl) [[], [], [], [2], [1], [1, 4], [1, 2, 3, 4, 5], [1, 2, 3, 4, 5, 6], [], [1, 2, 3, 4, 5, 6, 7, 8], [1, 2, 3, 4, 5, 6, 7, 8, 9], [0, 1, 2, 3, 4, 5, 6, 7, 8, 9, 10], [0, 1, 2, 3, 4, 5, 6, 7, 8, 9, 10, 11]] (by kernel_rfl) [some 35, some 36, some 37, some 38, some 39, some 40, some 41, some 42, some 43, some 44, some 45, some 46, some 47] (by kernel_rfl) [[0, 11, 12], [1, 4, 5, 6, 7, 9, 10, 11, 12], [2, 3, 6, 7, 9, 10, 11, 12], [3, 6, 7, 9, 10, 11, 12], [4, 5, 6, 7, 9, 10, 11, 12], [5, 6, 7, 9, 10, 11, 12], [6, 7, 9, 10, 11, 12], [7, 9, 10, 11, 12], [8, 9, 10, 11, 12], [9, 10, 11, 12], [10, 11, 12], [11, 12], [12]] (by kernel_rfl) [[], [], [], [], [], [], [], [], [], [], [], [], []] [[], [], [], [2], [1], [4], [3, 5], [6], [], [7, 8], [9], [0, 10], [11]] (by kernel_rfl)
        Ip
        Vp
        (fun j W W' => match j with
          | 0 => Below W.heap.size W W'
          | _ => Below W.heap.size W W')
        [fun x => ⟨(fZm 6 (.pointer (some ⟨wr.heap.size, 0, none⟩)) (fEm 29)).toArray, []⟩,
   fun x => ⟨(fZm 0 (.pointer (some ⟨g, 0, none⟩)) (fEm 36)).toArray, []⟩,
   fun x => ⟨(fZm 1 (.int .i64 0) (fEm 36)).toArray, []⟩,
   fun x => ⟨(fZm 37 (x 2) (fEm 1)).toArray, []⟩,
   fun x => ⟨(fZm 36 (x 1) (fEm 3)).toArray, []⟩,
   fun x => ⟨(fZm 39 (x 4) (fEm 1)).toArray, []⟩,
   fun x => ⟨(fZm 38 (x 3) (fZm 1 (x 5) (fEm 1))).toArray, []⟩,
   fun x => ⟨(fZm 41 (x 6) (fEm 1)).toArray, []⟩,
   fun x => ⟨(fZm 5 (.int .i64 (k : Int)) (fEm 38)).toArray, []⟩,
   fun x => ⟨(fZm 42 (x 7) (fZm 0 (x 8) (fEm 1))).toArray, []⟩,
   fun x => ⟨(fZm 44 (x 9) (fEm 1)).toArray, []⟩,
   fun x => ⟨(fZm 35 (x 0) (fZm 9 (x 10) (fEm 1))).toArray, []⟩,
   fun x => ⟨(fZm 46 (x 11) (fEm 1)).toArray, []⟩]
        ?hF ?mono ?h0 ?step [0, 1, 2, 3, 4, 5, 6, 7, 8, 9, 10, 11, 12] (by kernel_rfl) ?fin
      case hF =>
        iterate 13 refine ⟨fun x => ⟨by kernel_rfl, by kernel_rfl⟩, ?_⟩
        trivial
      case mono =>
        intro i j hi hj hne hna hnk v W W' hE hv
        rw [HV.out] at hv ⊢
        simp only [List.length_cons, List.length_nil] at hi hj
        match i, hi with
        | 0, _ | 1, _ | 2, _ | 3, _ | 4, _ | 5, _ | 6, _ | 7, _ | 8, _ | 9, _ | 10, _ | 11, _ | 12, _ => exact hv
        | m + 13, h => exact absurd h (by omega)
      case h0 => intro x; exact toI HIp (Below.refl _ _).drew
      case step =>
        refine ⟨?_, ?_, ?_, ?_, ?_, ?_, ?_, ?_, ?_, ?_, ?_, ?_, ?_, trivial⟩
        all_goals
          intro x W L hI hL hV
          replace hI : (Below w3.heap.size w3 W) := ofI HIp hI
          rw [HV.out] at hV
          simp only [AllV, and_true] at hV
          dsimp only [fZm, fEm, List.reduceReplicate, List.cons_append, List.nil_append]
        · clear hV
          obtain ⟨q0, q1, q2, q3, q4⟩ := blk_cells5 (XF.out.go hI)
          have HI := Lib.hid hI
          clear hI
          go_wp2_with fail
          refine step3_done rfl ?_ ?_ ?_
          · exact (toI HIp HI.out)
          · exact (Below.refl _ _)
          · exact (toV HV rfl)
        · clear hV
          have HI := Lib.hid hI
          clear hI
          go_wp2_with fail
          refine step3_done rfl ?_ ?_ ?_
          · exact (toI HIp HI.out)
          · exact (Below.refl _ _)
          · exact (toV HV rfl)
        · clear hV
          have HI := Lib.hid hI
          clear hI
          go_wp2_with fail
          refine step3_done rfl ?_ ?_ ?_
          · exact (toI HIp HI.out)
          · exact (Below.refl _ _)
          · exact (toV HV rfl)
        · have u2 := hV
          clear hV
          simp only [u2]
          clear u2
          have HI := Lib.hid hI
          clear hI
          go_wp2_with fail
          refine step3_done rfl ?_ ?_ ?_
          · exact (toI HIp HI.out)
          · exact (Below.refl _ _)
          · exact (toV HV rfl)
        · have u1 := hV
          clear hV
          simp only [u1]
          clear u1
          have HI := Lib.hid hI
          clear hI
          go_wp2_with fail
          refine step3_done rfl ?_ ?_ ?_
          · exact (toI HIp HI.out)
          · exact (Below.refl _ _)
          · exact (toV HV rfl)
        · have u4 := hV
          clear hV
          simp only [u4]
          clear u4
          have HI := Lib.hid hI
          clear hI
          go_wp2_with fail
          refine step3_done rfl ?_ ?_ ?_
          · exact (toI HIp HI.out)
          · exact (Below.refl _ _)
          · exact (toV HV rfl)
        · obtain ⟨u3, u5⟩ := hV
          simp only [u3, u5]
          clear u3 u5
          have HI := Lib.hid hI
          clear hI
          go_wp2_with fail
          refine step3_done rfl ?_ ?_ ?_
          · exact (toI HIp HI.out)
          · exact (Below.refl _ _)
          · exact (toV HV rfl)
        · have u6 := hV
          clear hV
          simp only [u6]
          clear u6
          have pc := ((up B3.out hI).cell (p := ⟨g, 13, none⟩) hgw).trans Hc.out.2
          have HI := Lib.hid hI
          clear hI
          go_wp2_with fail
          refine step3_done rfl ?_ ?_ ?_
          · exact (toI HIp HI.out)
          · exact (Below.refl _ _)
          · exact (toV HV rfl)
        · clear hV
          have HI := Lib.hid hI
          clear hI
          go_wp2_with fail
          refine step3_done rfl ?_ ?_ ?_
          · exact (toI HIp HI.out)
          · exact (Below.refl _ _)
          · exact (toV HV rfl)
        · obtain ⟨u7, u8⟩ := hV
          simp only [u7, u8]
          clear u7 u8
          have HI := Lib.hid hI
          clear hI
          go_wp2_with fail
          refine step3_done rfl ?_ ?_ ?_
          · exact (toI HIp HI.out)
          · exact (Below.refl _ _)
          · exact (toV HV rfl)
        · have u9 := hV
          clear hV
          simp only [u9]
          clear u9
          have u0 := ((up B3.out hI).cell (p := ⟨sg, so + k * 5, none⟩) hsb).trans Y.out.1
          have u1 := ((up B3.out hI).cell (p := ⟨sg, so + k * 5 + 1, none⟩) hsb).trans Y.out.2.1
          have u2 := ((up B3.out hI).cell (p := ⟨sg, so + k * 5 + 1 + 1, none⟩) hsb).trans Y.out.2.2.1
          have u3 := ((up B3.out hI).cell (p := ⟨sg, so + k * 5 + 1 + 1 + 1, none⟩) hsb).trans Y.out.2.2.2.1
          have u4 := ((up B3.out hI).cell (p := ⟨sg, so + k * 5 + 1 + 1 + 1 + 1, none⟩) hsb).trans Y.out.2.2.2.2
          have HI := Lib.hid hI
          clear hI
          go_wp2_with fail
          refine step3_done rfl ?_ ?_ ?_
          · exact (toI HIp HI.out)
          · exact (Below.refl _ _)
          · exact (toV HV rfl)
        · obtain ⟨u0, u10⟩ := hV
          simp only [u0, u10]
          clear u0 u10
          have HI := Lib.hid hI
          clear hI
          go_wp2_with fail
          refine (HS.out f fa ga fd gd _ (RF.out.go (up B3.out HI.out)) (RG.out.go (up B3.out HI.out))).mono ?_
          rintro e W' ⟨rfl, hb⟩
          go_wp2_with fail
          refine step3_done rfl ?_ ?_ ?_
          · exact (toI HIp (up HI.out hb))
          · exact hb
          · exact (toV HV rfl)
        · have u11 := hV
          clear hV
          simp only [u11]
          clear u11
          have HI := Lib.hid hI
          clear hI
          go_wp2_with fail
          refine step3_done rfl ?_ ?_ ?_
          · exact (toI HIp HI.out)
          · exact (Below.refl _ _)
          · exact (toV HV rfl)
      case fin =>
        intro x W L hL hI hV
        replace hI : (Below w3.heap.size w3 W) := ofI HIp hI
        rw [HV.out] at hV
        simp only [AllV, and_true] at hV
        obtain ⟨u0, u1, u2, u3, u4, u5, u6, u7, u8, u9, u10, u11, u12⟩ := hV
        simp only [getsD, List.getD_cons_succ, List.getD_cons_zero, List.length_cons, List.length_nil, List.range, List.range.loop, u0, u1, u2, u3, u4, u5, u6, u7, u8, u9, u10, u11, u12, Act.put, List.setIfInBounds_toArray, List.set_cons_succ, List.set_cons_zero]
        clear u0 u1 u2 u3 u4 u5 u6 u7 u8 u9 u10 u11 u12
        have B4 := Lib.hid (up B3.out hI)
        clear hI hL
        go_wp2_with fail
        case roundEnd =>
          refine ⟨⟨k + 1, by omega, by push_cast; rfl, B4.out⟩, ?_⟩
          simp [intOf]
          omega
    · have hlt' : ¬ ((k : Int) < (n : Int)) := by omega
      go_wp2_with fail
      go_ret
      exact ⟨rfl, B2.out⟩
set_option maxRecDepth 100000 in
set_option maxHeartbeats 8000000 in
theorem cab_right1 (base g : Nat) (c : Cb) (vs : Nat → Value) (w : World) (h : CabM base g c vs w) (hl : c.t1.length ≤ c.s0.length) (hf : ∀ (k : Nat) (f : Fr), c.t1[k]? = some f → c.s0[k]? = some f) :
    Calls Tryd.prog 25 #[.pointer (some ⟨g, 0, none⟩), .int .i64 1] w fun e w' => e = .returned (.bool true) ∧ Below w.heap.size w w' := by
  obtain ⟨ta, td, htv, htr⟩ := h.o5.rd (A := (· < w.heap.size)) (fun b hb _ => hb) (fun k hk => (h.o5.rowlt k hk).2)
  obtain ⟨sa, sd, hsv, hsr⟩ := h.o2.rd (A := (· < w.heap.size)) (fun b hb _ => hb) (fun k hk => (h.o2.rowlt k hk).2)
  obtain ⟨_, _, _, _, _, _, _, _, bx, -⟩ := h.box
  obtain ⟨-, -, p10, p11, p12, p13, p14, p15⟩ := blk16_cells bx
  rw [htv] at p15
  rw [hsv] at p12
  have hgw := h.lt
  have htm := htr.2.2.1
  have htc := htr.2.1
  have hsm := hsr.2.2.1
  have hsc := hsr.2.1
  have Htr := Lib.hid htr
  have Hsr := Lib.hid hsr
  have Hf := Lib.hid hf
  have Hc := Lib.hid (And.intro p15 p12)
  have HS := Lib.hid (fun f a b cc d W h1 h2 => sameFrame_ok f a b f.op.length cc f.op.length d W h1 h2)
  generalize hn : c.t1.length = n at *
  generalize hm : c.s0.length = m at *
  have Hn := Lib.hid (And.intro hn hm)
  unfold maxLen at htm hsm
  have hnm : ¬ ((m : Int) < (n : Int)) := by omega
  have hnm2 : (n : Int) ≤ (m : Int) := by omega
  have hn63 : (n : Int) ≤ 9223372036854775807 := by omega
  clear h hf htr hsr htv hsv bx hn hm htm htc hsm hsc
  go_enter Tryd.func25, Tryd.ntmps25
  go_wp2_with fail
  go_quiet (fail)
  go_wp2_with fail
  refine abs_w (fun W => Below w.heap.size w W) (below_drewN (Below.refl _ _) _) ?_
  intro w1 b1
  have B1 := Lib.hid b1
  clear p10 p11 p12 p13 p14 p15
  have p15 := (b1.cell (p := ⟨g, 15, none⟩) hgw).trans Hc.out.1
  have p12 := (b1.cell (p := ⟨g, 12, none⟩) hgw).trans Hc.out.2
  clear b1
  go_wp2_with fail
  clear p15 p12
  go_loopw [30] (fun vi wr => ∃ k : Nat, k ≤ n ∧ vi = .int .i64 (k : Int) ∧ Below w.heap.size w wr) (fun vi _ => n - (intOf vi).toNat)
  case atStart => exact ⟨0, by omega, rfl, B1.out⟩
  case round =>
    obtain ⟨k, hk, rfl, b2⟩ := hrel
    have B2 := Lib.hid b2
    have hz2 := b2.size
    clear b2 B1
    by_cases hlt : k < n
    · obtain ⟨tg, to_, rfl, htg, htb, hte⟩ := Htr.out.2.2.2.2 (by omega)
      obtain ⟨sg, so, rfl, hsg, hsb, hse⟩ := Hsr.out.2.2.2.2 (by omega)
      obtain ⟨f, hfk⟩ : ∃ f, c.t1[k]? = some f := ⟨_, List.getElem?_eq_getElem (by rw [Hn.out.1]; exact hlt)⟩
      obtain ⟨xs, ⟨fa, fn, fd, rfl, hfr, -⟩, hxc⟩ := hte k f hfk
      obtain ⟨ys, ⟨ga, gn, gd, rfl, hgr, -⟩, hyc⟩ := hse k f (Hf.out k f hfk)
      have hfn := hfr.1
      subst hfn
      have hgn := hgr.1
      subst hgn
      have x0 : w.cell? ⟨tg, to_ + k * 5, none⟩ = _ := hxc 0 _ rfl
      have x1 : w.cell? ⟨tg, to_ + k * 5 + 1, none⟩ = _ := hxc 1 _ rfl
      have x2 : w.cell? ⟨tg, to_ + k * 5 + 1 + 1, none⟩ = _ := hxc 2 _ rfl
      have x3 : w.cell? ⟨tg, to_ + k * 5 + 1 + 1 + 1, none⟩ = _ := hxc 3 _ rfl
      have x4 : w.cell? ⟨tg, to_ + k * 5 + 1 + 1 + 1 + 1, none⟩ = _ := hxc 4 _ rfl
      have y0 : w.cell? ⟨sg, so + k * 5, none⟩ = _ := hyc 0 _ rfl
      have y1 : w.cell? ⟨sg, so + k * 5 + 1, none⟩ = _ := hyc 1 _ rfl
      have y2 : w.cell? ⟨sg, so + k * 5 + 1 + 1, none⟩ = _ := hyc 2 _ rfl
      have y3 : w.cell? ⟨sg, so + k * 5 + 1 + 1 + 1, none⟩ = _ := hyc 3 _ rfl
      have y4 : w.cell? ⟨sg, so + k * 5 + 1 + 1 + 1 + 1, none⟩ = _ := hyc 4 _ rfl
      have Y := Lib.hid (And.intro y0 (And.intro y1 (And.intro y2 (And.intro y3 y4))))
      replace x0 := (B2.out.cell (p := ⟨tg, to_ + k * 5, none⟩) htb).trans x0
      replace x1 := (B2.out.cell (p := ⟨tg, to_ + k * 5 + 1, none⟩) htb).trans x1
      replace x2 := (B2.out.cell (p := ⟨tg, to_ + k * 5 + 1 + 1, none⟩) htb).trans x2
      replace x3 := (B2.out.cell (p := ⟨tg, to_ + k * 5 + 1 + 1 + 1, none⟩) htb).trans x3
      replace x4 := (B2.out.cell (p := ⟨tg, to_ + k * 5 + 1 + 1 + 1 + 1, none⟩) htb).trans x4
      have RF := Lib.hid hfr
      have RG := Lib.hid hgr
      have hlt' : (k : Int) < (n : Int) := by omega
      have hlt2 : (k : Int) < (m : Int) := by omega
      clear hte hse hxc hyc hfr hgr hfk y0 y1 y2 y3 y4
      go_wp2_with fail
      refine abs_w (fun W => Below wr.heap.size wr W ∧ Blk wr.heap.size (.cells #[.int .i64 f.kind, .int .i64 f.heard, .int .i64 f.epoch, .slice fa f.op.length fd, .string f.text] 30 (0, 0)) W) ⟨(Below.refl _ _).alloc (Nat.le_refl _) _, Blk.new wr _⟩ ?_
      rintro w3 ⟨b3, x3'⟩
      have B3 := Lib.hid (up B2.out b3)
      have XF := Lib.hid x3'
      have hz3 := b3.size
      clear b3 x3' B2 x0 x1 x2 x3 x4
      obtain ⟨Vp, HV⟩ : ∃ Vp : Nat → Value → World → Prop, Hid (Vp = fun i v W => match i with
          | 0 => v = .agg #[.int .i64 f.kind, .int .i64 f.heard, .int .i64 f.epoch, .slice fa f.op.length fd, .string f.text]
          | 1 => v = .pointer (some ⟨g, 0, none⟩)
          | 2 => v = .int .i64 1
          | 3 => v = .int .i64 0
          | 4 => v = .pointer (some ⟨g, 0, none⟩)
          | 5 => v = .pointer (some ⟨g, 12, none⟩)
          | 6 => v = .pointer (some ⟨g, 12, none⟩)
          | 7 => v = .slice (some ⟨sg, so, none⟩) m sd
          | 8 => v = .int .i64 (k : Int)
          | 9 => v = .pointer (some ⟨sg, so + k * 5, none⟩)
          | 10 => v = .agg #[.int .i64 f.kind, .int .i64 f.heard, .int .i64 f.epoch, .slice ga f.op.length gd, .string f.text]
          | 11 => v = .bool true
          | _ => v = .bool false) := ⟨_, rfl⟩
      obtain ⟨Ip, HIp⟩ : ∃ Ip : (Nat → Bool) → (Nat → Value) → World → Prop, Hid (Ip = fun L x W => (Below w3.heap.size w3 W)) := ⟨_, rfl⟩
      refine region_lit3 (by kernel_rfl) (by kernel_rfl) (by kernel_rfl) [[], [], [], [2], [1], [1, 4], [1, 2, 3, 4, 5], [1, 2, 3, 4, 5, 6], [], [1, 2, 3, 4, 5, 6, 7, 8], [1, 2, 3, 4, 5, 6, 7, 8, 9], [0, 1, 2, 3, 4, 5, 6, 7, 8, 9, 10], [0, 1, 2, 3, 4, 5, 6, 7, 8, 9, 10, 11]] (by kernel_rfl) [some 35, some 36, some 37, some 38, some 39, some 40, some 41, some 42, some 43, some 44, some 45, some 46, some 47] (by kernel_rfl) [[0, 11, 12], [1, 4, 5, 6, 7, 9, 10, 11, 12], [2, 3, 6, 7, 9, 10, 11, 12], [3, 6, 7, 9, 10, 11, 12], [4, 5, 6, 7, 9, 10, 11, 12], [5, 6, 7, 9, 10, 11, 12], [6, 7, 9, 10, 11, 12], [7, 9, 10, 11, 12], [8, 9, 10, 11, 12], [9, 10, 11, 12], [10, 11, 12], [11, 12], [12]] (by kernel_rfl) [[], [], [], [], [], [], [], [], [], [], [], [], []] [[], [], [], [2], [1], [4], [3, 5], [6], [], [7, 8], [9], [0, 10], [11]] (by kernel_rfl)
        Ip
        Vp
        (fun j W W' => match j with
          | 0 => Below W.heap.size W W'
          | _ => Below W.heap.size W W')
        [fun x => ⟨(fZm 6 (.pointer (some ⟨wr.heap.size, 0, none⟩)) (fEm 29)).toArray, []⟩,
   fun x => ⟨(fZm 0 (.pointer (some ⟨g, 0, none⟩)) (fEm 36)).toArray, []⟩,
   fun x => ⟨(fZm 1 (.int .i64 1) (fEm 36)).toArray, []⟩,
   fun x => ⟨(fZm 37 (x 2) (fEm 1)).toArray, []⟩,
   fun x => ⟨(fZm 36 (x 1) (fEm 3)).toArray, []⟩,
   fun x => ⟨(fZm 39 (x 4) (fEm 1)).toArray, []⟩,
   fun x => ⟨(fZm 38 (x 3) (fZm 1 (x 5) (fEm 1))).toArray, []⟩,
   fun x => ⟨(fZm 41 (x 6) (fEm 1)).toArray, []⟩,
   fun x => ⟨(fZm 5 (.int .i64 (k : Int)) (fEm 38)).toArray, []⟩,
   fun x => ⟨(fZm 42 (x 7) (fZm 0 (x 8) (fEm 1))).toArray, []⟩,
   fun x => ⟨(fZm 44 (x 9) (fEm 1)).toArray, []⟩,
   fun x => ⟨(fZm 35 (x 0) (fZm 9 (x 10) (fEm 1))).toArray, []⟩,
   fun x => ⟨(fZm 46 (x 11) (fEm 1)).toArray, []⟩]
        ?hF ?mono ?h0 ?step [0, 1, 2, 3, 4, 5, 6, 7, 8, 9, 10, 11, 12] (by kernel_rfl) ?fin
      case hF =>
        iterate 13 refine ⟨fun x => ⟨by kernel_rfl, by kernel_rfl⟩, ?_⟩
        trivial
      case mono =>
        intro i j hi hj hne hna hnk v W W' hE hv
        rw [HV.out] at hv ⊢
        simp only [List.length_cons, List.length_nil] at hi hj
        match i, hi with
        | 0, _ | 1, _ | 2, _ | 3, _ | 4, _ | 5, _ | 6, _ | 7, _ | 8, _ | 9, _ | 10, _ | 11, _ | 12, _ => exact hv
        | m + 13, h => exact absurd h (by omega)
      case h0 => intro x; exact toI HIp (Below.refl _ _).drew
      case step =>
        refine ⟨?_, ?_, ?_, ?_, ?_, ?_, ?_, ?_, ?_, ?_, ?_, ?_, ?_, trivial⟩
        all_goals
          intro x W L hI hL hV
          replace hI : (Below w3.heap.size w3 W) := ofI HIp hI
          rw [HV.out] at hV
          simp only [AllV, and_true] at hV
          dsimp only [fZm, fEm, List.reduceReplicate, List.cons_append, List.nil_append]
        · clear hV
          obtain ⟨q0, q1, q2, q3, q4⟩ := blk_cells5 (XF.out.go hI)
          have HI := Lib.hid hI
          clear hI
          go_wp2_with fail
          refine step3_done rfl ?_ ?_ ?_
          · exact (toI HIp HI.out)
          · exact (Below.refl _ _)
          · exact (toV HV rfl)
        · clear hV
          have HI := Lib.hid hI
          clear hI
          go_wp2_with fail
          refine step3_done rfl ?_ ?_ ?_
          · exact (toI HIp HI.out)
          · exact (Below.refl _ _)
          · exact (toV HV rfl)
        · clear hV
          have HI := Lib.hid hI
          clear hI
          go_wp2_with fail
          refine step3_done rfl ?_ ?_ ?_
          · exact (toI HIp HI.out)
          · exact (Below.refl _ _)
          · exact (toV HV rfl)
        · have u2 := hV
          clear hV
          simp only [u2]
          clear u2
          have HI := Lib.hid hI
          clear hI
          go_wp2_with fail
          refine step3_done rfl ?_ ?_ ?_
          · exact (toI HIp HI.out)
          · exact (Below.refl _ _)
          · exact (toV HV rfl)
        · have u1 := hV
          clear hV
          simp only [u1]
          clear u1
          have HI := Lib.hid hI
          clear hI
          go_wp2_with fail
          refine step3_done rfl ?_ ?_ ?_
          · exact (toI HIp HI.out)
          · exact (Below.refl _ _)
          · exact (toV HV rfl)
        · have u4 := hV
          clear hV
          simp only [u4]
          clear u4
          have HI := Lib.hid hI
          clear hI
          go_wp2_with fail
          refine step3_done rfl ?_ ?_ ?_
          · exact (toI HIp HI.out)
          · exact (Below.refl _ _)
          · exact (toV HV rfl)
        · obtain ⟨u3, u5⟩ := hV
          simp only [u3, u5]
          clear u3 u5
          have HI := Lib.hid hI
          clear hI
          go_wp2_with fail
          refine step3_done rfl ?_ ?_ ?_
          · exact (toI HIp HI.out)
          · exact (Below.refl _ _)
          · exact (toV HV rfl)
        · have u6 := hV
          clear hV
          simp only [u6]
          clear u6
          have pc := ((up B3.out hI).cell (p := ⟨g, 12, none⟩) hgw).trans Hc.out.2
          have HI := Lib.hid hI
          clear hI
          go_wp2_with fail
          refine step3_done rfl ?_ ?_ ?_
          · exact (toI HIp HI.out)
          · exact (Below.refl _ _)
          · exact (toV HV rfl)
        · clear hV
          have HI := Lib.hid hI
          clear hI
          go_wp2_with fail
          refine step3_done rfl ?_ ?_ ?_
          · exact (toI HIp HI.out)
          · exact (Below.refl _ _)
          · exact (toV HV rfl)
        · obtain ⟨u7, u8⟩ := hV
          simp only [u7, u8]
          clear u7 u8
          have HI := Lib.hid hI
          clear hI
          go_wp2_with fail
          refine step3_done rfl ?_ ?_ ?_
          · exact (toI HIp HI.out)
          · exact (Below.refl _ _)
          · exact (toV HV rfl)
        · have u9 := hV
          clear hV
          simp only [u9]
          clear u9
          have u0 := ((up B3.out hI).cell (p := ⟨sg, so + k * 5, none⟩) hsb).trans Y.out.1
          have u1 := ((up B3.out hI).cell (p := ⟨sg, so + k * 5 + 1, none⟩) hsb).trans Y.out.2.1
          have u2 := ((up B3.out hI).cell (p := ⟨sg, so + k * 5 + 1 + 1, none⟩) hsb).trans Y.out.2.2.1
          have u3 := ((up B3.out hI).cell (p := ⟨sg, so + k * 5 + 1 + 1 + 1, none⟩) hsb).trans Y.out.2.2.2.1
          have u4 := ((up B3.out hI).cell (p := ⟨sg, so + k * 5 + 1 + 1 + 1 + 1, none⟩) hsb).trans Y.out.2.2.2.2
          have HI := Lib.hid hI
          clear hI
          go_wp2_with fail
          refine step3_done rfl ?_ ?_ ?_
          · exact (toI HIp HI.out)
          · exact (Below.refl _ _)
          · exact (toV HV rfl)
        · obtain ⟨u0, u10⟩ := hV
          simp only [u0, u10]
          clear u0 u10
          have HI := Lib.hid hI
          clear hI
          go_wp2_with fail
          refine (HS.out f fa ga fd gd _ (RF.out.go (up B3.out HI.out)) (RG.out.go (up B3.out HI.out))).mono ?_
          rintro e W' ⟨rfl, hb⟩
          go_wp2_with fail
          refine step3_done rfl ?_ ?_ ?_
          · exact (toI HIp (up HI.out hb))
          · exact hb
          · exact (toV HV rfl)
        · have u11 := hV
          clear hV
          simp only [u11]
          clear u11
          have HI := Lib.hid hI
          clear hI
          go_wp2_with fail
          refine step3_done rfl ?_ ?_ ?_
          · exact (toI HIp HI.out)
          · exact (Below.refl _ _)
          · exact (toV HV rfl)
      case fin =>
        intro x W L hL hI hV
        replace hI : (Below w3.heap.size w3 W) := ofI HIp hI
        rw [HV.out] at hV
        simp only [AllV, and_true] at hV
        obtain ⟨u0, u1, u2, u3, u4, u5, u6, u7, u8, u9, u10, u11, u12⟩ := hV
        simp only [getsD, List.getD_cons_succ, List.getD_cons_zero, List.length_cons, List.length_nil, List.range, List.range.loop, u0, u1, u2, u3, u4, u5, u6, u7, u8, u9, u10, u11, u12, Act.put, List.setIfInBounds_toArray, List.set_cons_succ, List.set_cons_zero]
        clear u0 u1 u2 u3 u4 u5 u6 u7 u8 u9 u10 u11 u12
        have B4 := Lib.hid (up B3.out hI)
        clear hI hL
        go_wp2_with fail
        case roundEnd =>
          refine ⟨⟨k + 1, by omega, by push_cast; rfl, B4.out⟩, ?_⟩
          simp [intOf]
          omega
    · have hlt' : ¬ ((k : Int) < (n : Int)) := by omega
      go_wp2_with fail
      go_ret
      exact ⟨rfl, B2.out⟩
end Go.Proofs.YtkhacogeffidoaaDoor
