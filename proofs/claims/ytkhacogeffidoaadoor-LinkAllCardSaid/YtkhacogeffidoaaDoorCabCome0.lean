/- The walk of (*cable).come (printed by gen_cab.py). -/
import Derived.Test.YtkhacogeffidoaaDoorComeOff
import Derived.Test.YtkhacogeffidoaaDoorFirst
import Derived.Deep.Cut
import Derived.Deep.CutRange
set_option linter.unusedVariables false
set_option linter.unusedSimpArgs false
namespace Go.Proofs.YtkhacogeffidoaaDoor
open Go.RowKit

set_option maxRecDepth 100000 in
set_option maxHeartbeats 8000000 in
theorem cab_come0 (base g : Nat) (c : Cb) (vs : Nat → Value) (pick : Int) (copied : Bool) (k : Nat) (p : Pkt) (w : World) (hG : ∀ W, Below base w W → Good W) (h : CabM base g c vs w) (hpi : I64 pick) (hkl : k < c.f0.length) (hk : pk pick c.f0.length = (k : Int)) (hpk : c.f0[k]? = some p) (hE : c.e0.hearE p = 0) (hl : c.e0.fits) (hp : p.fits) (hq : c.e0.queue.length ≤ 1000000) (ks : ∀ f ∈ (c.e0.hearL p).sent, f.kind ≠ 0) (kq : ∀ f ∈ (c.e0.hearL p).queue, f.kind ≠ 0) (hps : (c.e0.hearP p).length ≤ 1000) (hf0 : c.f0.length ≤ 1000000) (hf1 : c.f1.length ≤ 1000000) (ht : c.t0.length ≤ 1000000) :
    Calls Tryd.prog 28 #[.pointer (some ⟨g, 0, none⟩), .int .i64 0, .int .i64 pick, .bool copied] w fun e w' => e = .returned (.bool true) ∧ (∃ vs', CabM base g { c with e0 := c.e0.hearL p, f0 := (if copied then c.f0 else c.f0.take k ++ c.f0.drop (k + 1)), f1 := c.f1 ++ c.e0.hearP p, t0 := if c.e0.told p = true then c.t0 ++ [c.e0.hearF p] else c.t0 } vs' w') ∧ Below base w w' := by
  have HH := Lib.hid (fun a b fa cc d dd W (hW : Good W) h1 h2 h3 => hear_val2 c.e0 p a b fa cc d dd W hW h1 h2 h3 hl hp hq)
  rw [hE] at HH
  have hff : (c.e0.hearF p).fits := by
    unfold Lk.hearF
    split
    · exact hp.2.2.2
    · exact ⟨by unfold I64; decide, by unfold I64; decide, by unfold I64; decide, by decide⟩
  have Hff := Lib.hid hff
  clear hff
  generalize hTB : c.e0.told p = TB at *
  generalize hl' : c.e0.hearL p = l' at *
  generalize hf' : c.e0.hearF p = f' at *
  generalize hps' : c.e0.hearP p = ps at *
  clear hTB hl' hf' hps' hE hl hp hq
  obtain ⟨LL, hLL⟩ : ∃ LL, LL = if copied then c.f0 else c.f0.take k ++ c.f0.drop (k + 1) := ⟨_, rfl⟩
  have HLL := Lib.hid hLL
  rw [← hLL]
  clear hLL
  obtain ⟨TT, hTT⟩ : ∃ TT, TT = if TB = true then c.t0 ++ [f'] else c.t0 := ⟨_, rfl⟩
  have HTT := Lib.hid hTT
  rw [← hTT]
  clear hTT
  have Hpick := Lib.hid (fun W => (picked_any pick c.f0.length W hpi (by omega) (by omega)).mono fun e w' (h : e = .returned (.int .i64 (pk pick c.f0.length)) ∧ W = w') => (⟨h.1, h.2 ▸ Below.refl _ _⟩ : e = .returned (.int .i64 (pk pick c.f0.length)) ∧ Below W.heap.size W w'))
  rw [hk] at Hpick
  have HM := Lib.hid h
  have HG := Lib.hid hG
  have hgb := h.gb
  have hgw := h.lt
  have hrow : ∀ q, q < 6 → ∀ z, (vs q).ownBlock = some z → base ≤ z ∧ z < w.heap.size := fun q hq z hz => by
    match q, hq with
    | 0, _ => exact h.o0.rowlt z hz
    | 1, _ => exact h.o1.rowlt z hz
    | 2, _ => exact h.o2.rowlt z hz
    | 3, _ => exact h.o3.rowlt z hz
    | 4, _ => exact h.o4.rowlt z hz
    | 5, _ => exact h.o5.rowlt z hz
    | q + 6, h => omega
  have Hrow := Lib.hid hrow
  obtain ⟨k0, gi, gz0, gz1, gz2⟩ := info_parts infoPk
  have Gi := Lib.hid gi
  have Gz0 := Lib.hid gz0
  have Gz1 := Lib.hid gz1
  have Gz2 := Lib.hid gz2
  rcases h.o0.row with ⟨a', hv, hl0, -⟩ | ⟨qg, qo, qc, hqv, hq1, hq2, hq3, hq4, hq5, hq6⟩
  · rw [hl0] at hkl; simp at hkl
  have Hqv := Lib.hid hqv
  have HE6 := Lib.hid hq6
  obtain ⟨xs, ⟨oa, on, oc, rfl, hop, hpf⟩, hxc⟩ := hq6 k p hpk
  have hon := hop.1
  subst hon
  have y0 : w.cell? ⟨qg, qo + k * 9, none⟩ = _ := hxc 0 _ rfl
  have y1 : w.cell? ⟨qg, qo + k * 9 + 1, none⟩ = _ := hxc 1 _ rfl
  have y2 : w.cell? ⟨qg, qo + k * 9 + 1 + 1, none⟩ = _ := hxc 2 _ rfl
  have y3 : w.cell? ⟨qg, qo + k * 9 + 1 + 1 + 1, none⟩ = _ := hxc 3 _ rfl
  have y4 : w.cell? ⟨qg, qo + k * 9 + 1 + 1 + 1 + 1, none⟩ = _ := hxc 4 _ rfl
  have y5 : w.cell? ⟨qg, qo + k * 9 + 1 + 1 + 1 + 1 + 1, none⟩ = _ := hxc 5 _ rfl
  have y6 : w.cell? ⟨qg, qo + k * 9 + 1 + 1 + 1 + 1 + 1 + 1, none⟩ = _ := hxc 6 _ rfl
  have y7 : w.cell? ⟨qg, qo + k * 9 + 1 + 1 + 1 + 1 + 1 + 1 + 1, none⟩ = _ := hxc 7 _ rfl
  have y8 : w.cell? ⟨qg, qo + k * 9 + 1 + 1 + 1 + 1 + 1 + 1 + 1 + 1, none⟩ = _ := hxc 8 _ rfl
  have Hop := Lib.hid (hop.mono fun z hz => ⟨hz.1, rfl⟩ : RdS (· < w.heap.size) w p.f.op oa p.f.op.length oc)
  have Hopg : Hid (∀ {W W' : World}, Below w.heap.size w W → Touch (fun z => z = g) W W' → RdS (· < W'.heap.size) W' p.f.op oa p.f.op.length oc) := fun hb ht => hop.mono fun z hz => ⟨Nat.lt_of_lt_of_le (Nat.lt_of_lt_of_le hz.1 hb.size) ht.size, (ht.block z (Nat.lt_of_lt_of_le hz.1 hb.size) (fun e => hz.2.1 (.inr (.inl e)))).trans (hb.block z hz.1)⟩
  have YY := Lib.hid (And.intro y0 (And.intro y1 (And.intro y2 (And.intro y3 (And.intro y4 (And.intro y5 (And.intro y6 (And.intro y7 y8))))))))
  have hqg2 := hq2
  obtain ⟨_, _, _, _, _, _, _, _, bx, -⟩ := h.box
  obtain ⟨-, -, p10, p11, p12, p13, p14, p15⟩ := blk16_cells bx
  rw [hqv] at p10
  generalize hnf : c.f0.length = nf at *
  have Hnf := Lib.hid hnf
  have hnf0 : ((nf : Int) == 0) = false := by simp; omega
  have hkn : (k : Int) < (nf : Int) := by omega
  have hqcn : (nf : Int) ≤ (qc : Int) := by omega
  have hqc63 : (qc : Int) ≤ 9223372036854775807 := by unfold maxLen at hq4; omega
  have hq4' := Lib.hid hq4
  clear h hG hrow gi gz0 gz1 gz2 hqv hq4 hq5 hq6 hxc hop y0 y1 y2 y3 y4 y5 y6 y7 y8 bx hpi hpk hnf
  go_enter Tryd.func28, Tryd.ntmps28
  go_wp2_with fail
  refine (Hpick.out _).mono ?_
  rintro e w1 ⟨rfl, b1⟩
  have B1 := Lib.hid b1
  have hz1 := b1.size
  have y0 := (b1.cell (p := ⟨qg, qo + k * 9, none⟩) hqg2).trans YY.out.1
  have y1 := (b1.cell (p := ⟨qg, qo + k * 9 + 1, none⟩) hqg2).trans YY.out.2.1
  have y2 := (b1.cell (p := ⟨qg, qo + k * 9 + 1 + 1, none⟩) hqg2).trans YY.out.2.2.1
  have y3 := (b1.cell (p := ⟨qg, qo + k * 9 + 1 + 1 + 1, none⟩) hqg2).trans YY.out.2.2.2.1
  have y4 := (b1.cell (p := ⟨qg, qo + k * 9 + 1 + 1 + 1 + 1, none⟩) hqg2).trans YY.out.2.2.2.2.1
  have y5 := (b1.cell (p := ⟨qg, qo + k * 9 + 1 + 1 + 1 + 1 + 1, none⟩) hqg2).trans YY.out.2.2.2.2.2.1
  have y6 := (b1.cell (p := ⟨qg, qo + k * 9 + 1 + 1 + 1 + 1 + 1 + 1, none⟩) hqg2).trans YY.out.2.2.2.2.2.2.1
  have y7 := (b1.cell (p := ⟨qg, qo + k * 9 + 1 + 1 + 1 + 1 + 1 + 1 + 1, none⟩) hqg2).trans YY.out.2.2.2.2.2.2.2.1
  have y8 := (b1.cell (p := ⟨qg, qo + k * 9 + 1 + 1 + 1 + 1 + 1 + 1 + 1 + 1, none⟩) hqg2).trans YY.out.2.2.2.2.2.2.2.2
  clear b1 Hpick p10 p11 p12 p13 p14 p15
  go_upto_if 35 with fail
  refine abs_w (fun W => Below w1.heap.size w1 W ∧ Blk w1.heap.size (.cells #[.int .i64 p.epoch, .int .i64 p.number, .bool p.bare, .int .i64 p.ack, .int .i64 p.f.kind, .int .i64 p.f.heard, .int .i64 p.f.epoch, .slice oa p.f.op.length oc, .string p.f.text] 45 (0, 0)) W) ⟨(Below.refl _ _).alloc (Nat.le_refl _) _, Blk.new w1 _⟩ ?_
  rintro w2 ⟨b2, x2⟩
  have B2 := Lib.hid (up B1.out b2)
  have XP := Lib.hid x2
  have hz2 := x2.lt
  have hz12 := b2.size
  have M2 := Lib.hid (HM.out.go B2.out)
  clear b2 x2 B1 y0 y1 y2 y3 y4 y5 y6 y7 y8 YY
  go_cut [] from 36 to 49 (fun W => ∃ vs3, CabM base g { c with f0 := LL } vs3 W ∧ Blk w1.heap.size (.cells #[.int .i64 p.epoch, .int .i64 p.number, .bool p.bare, .int .i64 p.ack, .int .i64 p.f.kind, .int .i64 p.f.heard, .int .i64 p.f.epoch, .slice oa p.f.op.length oc, .string p.f.text] 45 (0, 0)) W ∧ Below base w W ∧ w2.heap.size ≤ W.heap.size ∧ RdS (· < W.heap.size) W p.f.op oa p.f.op.length oc)
  case first =>
    cases copied with
    | true =>
      have G : ∃ vs3, CabM base g { c with f0 := LL } vs3 w2 ∧ Blk w1.heap.size (.cells #[.int .i64 p.epoch, .int .i64 p.number, .bool p.bare, .int .i64 p.ack, .int .i64 p.f.kind, .int .i64 p.f.heard, .int .i64 p.f.epoch, .slice oa p.f.op.length oc, .string p.f.text] 45 (0, 0)) w2 ∧ Below base w w2 ∧ w2.heap.size ≤ w2.heap.size ∧ RdS (· < w2.heap.size) w2 p.f.op oa p.f.op.length oc := ⟨vs, by rw [show LL = c.f0 from by rw [HLL.out]; exact if_pos rfl]; exact M2.out, XP.out, (Touch.of_below (S := fun _ => False) B2.out).toBelow (by omega) (fun k hk => hk.elim), Nat.le_refl _, Hop.out.go B2.out⟩
      have HG' := Lib.hid G
      clear G
      go_wp2_with fail
      go_meet
      case rel => exact HG'.out
    | false =>
      have eLL : LL = c.f0.take k ++ c.f0.drop (k + 1) := by rw [HLL.out]; exact if_neg (by simp)
      have ELL := Lib.hid eLL
      have hlt1 : (c.f0.take k).length = k := by have := Hnf.out; rw [List.length_take]; omega
      have hld1 : (c.f0.drop (k + 1)).length = nf - (k + 1) := by have := Hnf.out; rw [List.length_drop]; omega
      have Hl1 := Lib.hid (And.intro hlt1 hld1)
      clear eLL hlt1 hld1
      go_wp2_with fail
      obtain ⟨Vp, HV⟩ : ∃ Vp : Nat → Value → World → Prop, Hid (Vp = fun i v W => match i with
          | 0 => v = .pointer (some ⟨g, 0, none⟩)
          | 1 => v = .int .i64 0
          | 2 => v = .slice (some ⟨qg, qo, none⟩) nf qc
          | 3 => v = .int .i64 (k : Int)
          | 4 => ∃ c4, v = .slice (some ⟨qg, qo, none⟩) k c4
          | 5 => ∃ a n cc, v = .slice a n cc ∧ n = k ∧ n ≤ cc ∧ (a = none → cc = 0) ∧ OwnO (OX base g vs 0) base (.slice a n cc) (c.f0.take k) W ∧ (∀ z, (Value.slice a n cc).ownBlock = some z → w2.heap.size ≤ z)
          | 6 => v = .slice (some ⟨qg, qo, none⟩) nf qc
          | 7 => v = .int .i64 (k : Int)
          | 8 => v = .int .i64 ((k : Int) + 1)
          | 9 => ∃ o9 c9, v = .slice (some ⟨qg, o9, none⟩) (nf - (k + 1)) c9 ∧ (o9 = qo + (k + 1) * 9 ∨ nf = k + 1)
          | 10 => ∃ a n cc, v = .slice a n cc ∧ OwnO (OX base g vs 0) base (.slice a n cc) (c.f0.take k ++ c.f0.drop (k + 1)) W ∧ (∀ z, (Value.slice a n cc).ownBlock = some z → w2.heap.size ≤ z)
          | 11 => v = .pointer (some ⟨g, 0, none⟩)
          | 12 => v = .pointer (some ⟨g, 10, none⟩)
          | 13 => v = .pointer (some ⟨g, 10, none⟩)
          | _ => v = undef) := ⟨_, rfl⟩
      obtain ⟨Ip, HIp⟩ : ∃ Ip : (Nat → Bool) → (Nat → Value) → World → Prop, Hid (Ip = fun L x W => (Touch (fun z => z = g) w2 W ∧ (L 14 = false → Below w2.heap.size w2 W) ∧ (L 14 = true → ∃ vs3, CabM base g { c with f0 := LL } vs3 W))) := ⟨_, rfl⟩
      refine region_lit3 (by kernel_rfl) (by kernel_rfl) (by kernel_rfl) [[], [], [], [], [2, 3], [2, 3, 4], [], [], [7], [6, 7, 8], [2, 3, 4, 5, 6, 7, 8, 9], [0], [0, 11], [0, 1, 11, 12], [0, 1, 2, 3, 4, 5, 6, 7, 8, 9, 10, 11, 12, 13]] (by kernel_rfl) [some 36, some 37, some 38, some 39, some 40, some 41, some 42, some 43, some 44, some 45, some 46, some 47, some 48, some 49, none] (by kernel_rfl) [[0, 11, 12, 13, 14], [1, 13, 14], [2, 4, 5, 10, 14], [3, 4, 5, 10, 14], [4, 5, 10, 14], [5, 10, 14], [6, 9, 10, 14], [7, 8, 9, 10, 14], [8, 9, 10, 14], [9, 10, 14], [10, 14], [11, 12, 13, 14], [12, 13, 14], [13, 14], [14]] (by kernel_rfl) [[], [], [], [], [], [10, 14], [], [], [], [], [14], [], [], [], []] [[], [], [], [], [2, 3], [4], [], [], [7], [6, 8], [5, 9], [0], [11], [1, 12], [10, 13]] (by kernel_rfl)
        Ip
        Vp
        (fun j W W' => match j with
          | 10 => ∃ r, W.grownBy W' r ∧ (∀ z, r = some z → w2.heap.size ≤ z)
          | 14 => Touch (fun z => z = g) W W'
          | _ => Below W.heap.size W W')
        [fun x => ⟨(fZm 0 (.pointer (some ⟨g, 0, none⟩)) (fEm 36)).toArray, []⟩,
   fun x => ⟨(fZm 1 (.int .i64 0) (fEm 36)).toArray, []⟩,
   fun x => ⟨(fZm 9 (.slice (some ⟨qg, qo, none⟩) nf qc) (fEm 29)).toArray, []⟩,
   fun x => ⟨(fZm 10 (.int .i64 (k : Int)) (fEm 29)).toArray, []⟩,
   fun x => ⟨(fZm 38 (x 2) (fZm 0 (x 3) (fEm 1))).toArray, []⟩,
   fun x => ⟨(fZm 40 (x 4) (fEm 1)).toArray, []⟩,
   fun x => ⟨(fZm 9 (.slice (some ⟨qg, qo, none⟩) nf qc) (fEm 33)).toArray, []⟩,
   fun x => ⟨(fZm 10 (.int .i64 (k : Int)) (fEm 33)).toArray, []⟩,
   fun x => ⟨(fZm 43 (x 7) (fEm 1)).toArray, []⟩,
   fun x => ⟨(fZm 42 (x 6) (fZm 1 (x 8) (fEm 1))).toArray, []⟩,
   fun x => ⟨(fZm 41 (x 5) (fZm 3 (x 9) (fEm 1))).toArray, []⟩,
   fun x => ⟨(fZm 36 (x 0) (fEm 11)).toArray, []⟩,
   fun x => ⟨(fZm 47 (x 11) (fEm 1)).toArray, []⟩,
   fun x => ⟨(fZm 37 (x 1) (fZm 10 (x 12) (fEm 1))).toArray, []⟩,
   fun x => ⟨(fZm 46 (x 10) (fZm 2 (x 13) [])).toArray, []⟩]
        ?hF ?mono ?h0 ?step [0, 1, 2, 3, 4, 6, 7, 8, 9, 11, 12, 13, 14] (by kernel_rfl) ?fin
      case hF =>
        iterate 15 refine ⟨fun x => ⟨by kernel_rfl, by kernel_rfl⟩, ?_⟩
        trivial
      case mono =>
        intro i j hi hj hne hna hnk v W W' hE hv
        rw [HV.out] at hv ⊢
        simp only [List.length_cons, List.length_nil] at hi hj
        match i, hi with
        | 0, _ | 1, _ | 2, _ | 3, _ | 6, _ | 7, _ | 8, _ | 11, _ | 12, _ | 13, _ | 14, _ => exact hv
        | 4, _ =>
          match j, hj with
          | 4, _ => exact absurd rfl hne
          | 2, _ | 3, _ => exact absurd (by simp) hna
          | 0, _ | 1, _ | 5, _ | 6, _ | 7, _ | 8, _ | 9, _ | 10, _ | 11, _ | 12, _ | 13, _ | 14, _ => exact (id hv)
          | m + 15, h => exact absurd h (by omega)
        | 5, _ =>
          match j, hj with
          | 5, _ => exact absurd rfl hne
          | 2, _ | 3, _ | 4, _ => exact absurd (by simp) hna
          | 10, _ | 14, _ => exact absurd (by simp) hnk
          | 0, _ | 1, _ | 6, _ | 7, _ | 8, _ | 9, _ | 11, _ | 12, _ | 13, _ => exact (by obtain ⟨a, n, cc, h1, h2, h3, h4, h5, h6⟩ := hv; exact ⟨a, n, cc, h1, h2, h3, h4, h5.go hE, h6⟩)
          | m + 15, h => exact absurd h (by omega)
        | 9, _ =>
          match j, hj with
          | 9, _ => exact absurd rfl hne
          | 6, _ | 7, _ | 8, _ => exact absurd (by simp) hna
          | 0, _ | 1, _ | 2, _ | 3, _ | 4, _ | 5, _ | 10, _ | 11, _ | 12, _ | 13, _ | 14, _ => exact (id hv)
          | m + 15, h => exact absurd h (by omega)
        | 10, _ =>
          match j, hj with
          | 10, _ => exact absurd rfl hne
          | 2, _ | 3, _ | 4, _ | 5, _ | 6, _ | 7, _ | 8, _ | 9, _ => exact absurd (by simp) hna
          | 14, _ => exact absurd (by simp) hnk
          | 0, _ | 1, _ | 11, _ | 12, _ | 13, _ => exact (by obtain ⟨a, n, cc, h1, h5, h6⟩ := hv; exact ⟨a, n, cc, h1, h5.go hE, h6⟩)
          | m + 15, h => exact absurd h (by omega)
        | m + 15, h => exact absurd h (by omega)
      case h0 => intro x; exact toI HIp ⟨(Touch.refl _ _).drew, (fun _ => (Below.refl _ _).drew), (fun h => by cases h)⟩
      case step =>
        refine ⟨?_, ?_, ?_, ?_, ?_, ?_, ?_, ?_, ?_, ?_, ?_, ?_, ?_, ?_, ?_, trivial⟩
        all_goals
          intro x W L hI hL hV
          replace hI : (Touch (fun z => z = g) w2 W ∧ (L 14 = false → Below w2.heap.size w2 W) ∧ (L 14 = true → ∃ vs3, CabM base g { c with f0 := LL } vs3 W)) := ofI HIp hI
          rw [HV.out] at hV
          simp only [AllV, and_true] at hV
          dsimp only [fZm, fEm, List.reduceReplicate, List.cons_append, List.nil_append]
        iterate 4
          · clear hV
            have HI := Lib.hid hI
            clear hI
            go_wp2_with fail
            refine step3_done rfl ?_ ?_ ?_
            · exact (toI HIp HI.out)
            · exact (Below.refl _ _)
            · exact (toV HV rfl)
        · obtain ⟨u2, u3⟩ := hV
          simp only [u2, u3]
          clear u2 u3
          have i1 : (0 : Int) ≤ (k : Int) := by omega
          have i2 : (k : Int) ≤ (qc : Int) := by omega
          have HI := Lib.hid hI
          clear hI
          go_wp2_with fail
          refine step3_done rfl ?_ ?_ ?_
          · exact (toI HIp HI.out)
          · exact (Below.refl _ _)
          · exact (toV HV ⟨_, rfl⟩)
        · obtain ⟨c4, u4⟩ := hV
          simp only [u4]
          have U4 := Lib.hid u4
          clear u4
          have hb := hI.2.1 (hL.2 14 (by simp))
          have HL := Lib.hid hL
          have HI := Lib.hid hI
          have hbW : base ≤ W.heap.size := by have := hb.size; omega
          have hzW := hb.size
          have hE : Elems (fun b => b < W.heap.size ∧ ¬ OX base g vs 0 b ∧ (Value.slice none 0 0).ownBlock ≠ some b) W qg qo (c.f0.take k) := by
            intro q x hx
            have hqk : q < k := by have := (List.getElem?_eq_some_iff.1 hx).1; rw [Hl1.out.1] at this; exact this
            rw [List.getElem?_take_of_lt hqk] at hx
            obtain ⟨ys, r1, r2⟩ := HE6.out q x hx
            refine ⟨ys, Rep.mono (fun b hb2 => ⟨⟨by have := hb2.1; omega, hb2.2.1, by simp [Value.ownBlock]⟩, (hb.block b (by have := hb2.1; omega)).trans (B2.out.block b hb2.1)⟩) r1, fun j u hu => ?_⟩
            exact (cell_keep ((hb.block qg (by omega)).trans (B2.out.block qg hqg2))).trans (r2 j u hu)
          have HE := Lib.hid hE
          by_cases hk0 : k = 0
          · have Hk0 := Lib.hid hk0
            rw [hk0]
            clear hI hL hb hE hk0
            go_wp2_with (at_builtin; refine wpList_append_zero rfl _ _ _ (by rfl) 45 k0 Tryd.underlying35 Gi.out none 0 0 (by rfl) (Nat.le_refl _) (fun _ => rfl) (some ⟨qg, qo, none⟩) c4 (by rfl) ?_)
            go_wp2_with fail
            refine step3_done rfl ?_ ?_ ?_
            · exact (toI HIp HI.out)
            · exact (Below.refl _ _)
            · exact (toV HV ⟨none, 0, 0, rfl, Hk0.out.symm, Nat.le_refl _, (fun _ => rfl), (by rw [Hk0.out]; exact OwnO.nil), (fun z hz => by cases hz)⟩)
          · clear hI hL hb hE
            have hkk : (k : Int) ≤ 1000000 := by omega
            go_wp2_with (at_builtin; refine wpList_append_manyO rfl _ _ _ (by rfl) base 45 k0 _ 96 Tryd.underlying35 Gi.out Gz0.out Gz1.out Gz2.out rfl (.slice none 0 0) ([] : List Pkt) (c.f0.take k) (by rfl) OwnO.nil qg qo c4 (by rw [Hl1.out.1]; rfl) HE.out (by rw [Hl1.out.1]; omega) (by rw [Hl1.out.1]; unfold maxLen; simp only [List.length_nil]; omega) (by rw [Hl1.out.1]; simp only [List.length_nil]; omega) hbW ?_)
            intro g2 o2 cap w7 hown7 hgrow hat hlt7
            have hb7 : Below W.heap.size W w7 := ((Touch.refl (fun _ => False) W).grown hgrow (fun k hk => by cases hk)).toBelow (Nat.le_refl _) (fun k hk => hk.elim)
            have hg2 : W.heap.size ≤ g2 := by
              rcases hat with h | h
              · cases h
              · exact h
            have hmin : min k c.f0.length = k := by have := Hnf.out; omega
            rw [hmin] at hown7
            rw [hmin]
            have hcap : k ≤ cap := by
              obtain ⟨a', c', hv', hc', -⟩ := hown7.form
              injection hv' with e1 e2 e3
              rw [Hl1.out.1] at hc'
              omega
            have HB7 := Lib.hid hb7
            have HO7 := Lib.hid hown7
            have HG2 : Hid (∀ z, (Value.slice (some ⟨g2, o2, none⟩) k cap).ownBlock = some z → w2.heap.size ≤ z) := fun z hz => by
              have e : g2 = z := by simpa [Value.ownBlock] using hz
              omega
            clear hb7 hown7 hgrow hat hg2
            go_wp2_with fail
            refine step3_done rfl ?_ ?_ ?_
            · exact (toI HIp ⟨HI.out.1.below HB7.out HI.out.1.size, (fun h => up (HI.out.2.1 h) HB7.out), (fun h : L 14 = true => absurd ((HL.out.2 14 (by simp)).symm.trans h) (by simp))⟩)
            · exact HB7.out
            · exact (toV HV ⟨_, _, _, rfl, rfl, hcap, (fun h => by cases h), HO7.out, HG2.out⟩)
        · clear hV
          have HI := Lib.hid hI
          clear hI
          go_wp2_with fail
          refine step3_done rfl ?_ ?_ ?_
          · exact (toI HIp HI.out)
          · exact (Below.refl _ _)
          · exact (toV HV rfl)
        · clear hV
          have HI := Lib.hid hI
          clear hI
          go_wp2_with fail
          refine step3_done rfl ?_ ?_ ?_
          · exact (toI HIp HI.out)
          · exact (Below.refl _ _)
          · exact (toV HV rfl)
        · have u7 := hV
          clear hV
          simp only [u7]
          clear u7
          have HI := Lib.hid hI
          clear hI
          go_wp2_with fail
          refine step3_done rfl ?_ ?_ ?_
          · exact (toI HIp HI.out)
          · exact (Below.refl _ _)
          · exact (toV HV rfl)
        · obtain ⟨u6, u8⟩ := hV
          simp only [u6, u8]
          clear u6 u8
          have i1 : (0 : Int) ≤ (k : Int) + 1 := by omega
          have i2 : (k : Int) + 1 ≤ (nf : Int) := by omega
          have HI := Lib.hid hI
          clear hI
          by_cases hck : k + 1 < qc
          · have hck' : (k : Int) + 1 < (qc : Int) := by omega
            go_wp2_with fail
            refine step3_done rfl ?_ ?_ ?_
            · exact (toI HIp HI.out)
            · exact (Below.refl _ _)
            · exact (toV HV ⟨_, _, rfl, .inl rfl⟩)
          · have hkq : qc = k + 1 := by omega
            have hkf : nf = k + 1 := by omega
            have HKF := Lib.hid hkf
            subst hkq
            clear hkf
            go_wp2_with fail
            refine step3_done rfl ?_ ?_ ?_
            · exact (toI HIp HI.out)
            · exact (Below.refl _ _)
            · exact (toV HV ⟨qo, 0, by rw [HKF.out]; simp, .inr HKF.out⟩)
        · obtain ⟨⟨a5, n5, c5, u5, e5, l5, z5, o5, t5⟩, ⟨o9, c9, u9, h9⟩⟩ := hV
          simp only [u5, u9]
          have U5 := Lib.hid u5
          have U9 := Lib.hid u9
          clear u5 u9
          have hb := hI.2.1 (hL.2 14 (by simp))
          have HL := Lib.hid hL
          have HI := Lib.hid hI
          have hbW : base ≤ W.heap.size := by have := hb.size; omega
          have hzW := hb.size
          have O5 := Lib.hid o5
          have T5 := Lib.hid t5
          have e5' := e5.symm
          subst e5'
          by_cases hk1 : nf = k + 1
          · have Hk1 := Lib.hid hk1
            have e0 : nf - (k + 1) = 0 := by omega
            have HE0 := Lib.hid e0
            clear hI hL hb o5 t5 hk1 e0 h9
            go_wp2_with (at_builtin; refine wpList_append_zero rfl _ _ _ (by rfl) 45 k0 Tryd.underlying35 Gi.out a5 k c5 (by rfl) l5 z5 (some ⟨qg, o9, none⟩) c9 (by show Value.slice (some ⟨qg, o9, none⟩) (nf - (k + 1)) c9 = _; rw [HE0.out]) ?_)
            have hd0 : c.f0.drop (k + 1) = [] := List.drop_of_length_le (by have := Hnf.out; have := Hk1.out; omega)
            have HO : Hid (OwnO (OX base g vs 0) base (.slice a5 k c5) (c.f0.take k ++ c.f0.drop (k + 1)) W) := by
              unfold Hid; rw [hd0, List.append_nil]; exact O5.out
            clear hd0
            go_wp2_with fail
            refine step3_done rfl ?_ ?_ ?_
            · exact (toI HIp HI.out)
            · exact ⟨none, ⟨rfl, rfl, rfl, Nat.le_refl _, fun _ _ _ => rfl⟩, (fun z hz => by cases hz)⟩
            · exact (toV HV ⟨_, _, _, rfl, HO.out, T5.out⟩)
          · have ho9 : o9 = qo + (k + 1) * 9 := by
              rcases h9 with h | h
              · exact h
              · exact absurd h hk1
            have hE : Elems (fun b => b < W.heap.size ∧ ¬ OX base g vs 0 b ∧ (Value.slice a5 k c5).ownBlock ≠ some b) W qg o9 (c.f0.drop (k + 1)) := by
              intro q x hx
              rw [List.getElem?_drop] at hx
              obtain ⟨ys, r1, r2⟩ := HE6.out (k + 1 + q) x hx
              refine ⟨ys, Rep.mono (fun b hb2 => ⟨⟨by have := hb2.1; omega, hb2.2.1, fun e => by have := T5.out b e; have := hb2.1; have := B2.out.size; omega⟩, (hb.block b (by have := hb2.1; omega)).trans (B2.out.block b hb2.1)⟩) r1, fun j u hu => ?_⟩
              have := (cell_keep ((hb.block qg (by omega)).trans (B2.out.block qg hqg2))).trans (r2 j u hu)
              have e9 : Rep.n Pkt = 9 := rfl
              rwa [show qo + (k + 1 + q) * Rep.n Pkt + j = o9 + q * Rep.n Pkt + j by rw [ho9, e9]; omega] at this
            have HE := Lib.hid hE
            have hnfk : (nf : Int) ≤ 1000000 := by omega
            clear hI hL hb hE o5 t5 h9 ho9
            go_wp2_with (at_builtin; refine wpList_append_manyO rfl _ _ _ (by rfl) base 45 k0 _ 96 Tryd.underlying35 Gi.out Gz0.out Gz1.out Gz2.out rfl (.slice a5 k c5) (c.f0.take k) (c.f0.drop (k + 1)) (by rfl) O5.out qg o9 c9 (by rw [Hl1.out.2]; rfl) HE.out (by rw [Hl1.out.2]; omega) (by rw [Hl1.out.1, Hl1.out.2]; unfold maxLen; omega) (by rw [Hl1.out.1, Hl1.out.2]; omega) hbW ?_)
            intro g2 o2 cap w7 hown7 hgrow hat hlt7
            have HB7 : Hid (Below w2.heap.size W w7) := ((Touch.refl (fun z => w2.heap.size ≤ z) W).grown hgrow (fun z hz => .inl (T5.out z hz))).toBelow hzW (fun z hz => hz)
            have HG2 : Hid (∀ z, (Value.slice (some ⟨g2, o2, none⟩) ((c.f0.take k).length + (c.f0.drop (k + 1)).length) cap).ownBlock = some z → w2.heap.size ≤ z) := fun z hz => by
              have e : g2 = z := by simpa [Value.ownBlock] using hz
              rcases hat with h | h
              · rw [← e]; exact T5.out g2 h
              · omega
            have HO7 := Lib.hid hown7
            have HGR := Lib.hid hgrow
            clear hown7 hgrow hat
            go_wp2_with fail
            refine step3_done rfl ?_ ?_ ?_
            · exact (toI HIp ⟨HI.out.1.grown HGR.out (fun z hz => .inr (T5.out z hz)), (fun h => (HI.out.2.1 h).trans HB7.out), (fun h : L 14 = true => absurd ((HL.out.2 14 (by simp)).symm.trans h) (by simp))⟩)
            · exact ⟨_, HGR.out, T5.out⟩
            · exact (toV HV ⟨_, _, _, rfl, HO7.out, HG2.out⟩)
        · have u0 := hV
          clear hV
          simp only [u0]
          clear u0
          have HI := Lib.hid hI
          clear hI
          go_wp2_with fail
          refine step3_done rfl ?_ ?_ ?_
          · exact (toI HIp HI.out)
          · exact (Below.refl _ _)
          · exact (toV HV rfl)
        · have u11 := hV
          clear hV
          simp only [u11]
          clear u11
          have HI := Lib.hid hI
          clear hI
          go_wp2_with fail
          refine step3_done rfl ?_ ?_ ?_
          · exact (toI HIp HI.out)
          · exact (Below.refl _ _)
          · exact (toV HV rfl)
        · obtain ⟨u1, u12⟩ := hV
          simp only [u1, u12]
          clear u1 u12
          have HI := Lib.hid hI
          clear hI
          go_wp2_with fail
          refine step3_done rfl ?_ ?_ ?_
          · exact (toI HIp HI.out)
          · exact (Below.refl _ _)
          · exact (toV HV rfl)
        · obtain ⟨⟨a10, n10, c10, u10, o10, t10⟩, u13⟩ := hV
          simp only [u10, u13]
          have U10 := Lib.hid u10
          clear u10 u13
          have hb := hI.2.1 (hL.2 14 (by simp))
          have MW : CabM base g c vs W := M2.out.go hb
          have hg0 : w2.grownBy W (vs 0).ownBlock := ⟨hb.os, hb.tape, hb.output, hb.size, fun k hk _ => hb.block k hk⟩
          rw [← ELL.out] at o10
          have hM : CabG base g { c with f0 := LL } vs (fun q => if q = 0 then Value.slice a10 n10 c10 else vs q) W := M2.out.grow0 hg0 o10 (fun z hz => .inr (t10 z hz))
          obtain ⟨_, _, _, _, _, _, _, _, bM, -⟩ := MW.box
          obtain ⟨-, -, p10, p11, p12, p13, p14, p15⟩ := blk16_cells bM
          have fW := bM.frozen
          have hlt := bM.lt
          have HL := Lib.hid hL
          have HI := Lib.hid hI
          have HM15 := Lib.hid hM
          clear hI hL hM bM hb MW hg0 o10 t10
          go_wp2_with fail
          have ht := touch1 (w := W) (g := g) (i := 10) (.slice a10 n10 c10)
          refine step3_done (v := undef) rfl ?_ ?_ ?_
          · exact (toI HIp ⟨HI.out.1.trans ht, (fun h => absurd h (by simp [setB])), (fun _ => ⟨_, HM15.out.put ht (fun _ _ _ _ _ _ _ _ b => b.set 10 _)⟩)⟩)
          · exact ht
          · exact (toV HV rfl)
      case fin =>
        intro x W L hL hI hV
        replace hI : (Touch (fun z => z = g) w2 W ∧ (L 14 = false → Below w2.heap.size w2 W) ∧ (L 14 = true → ∃ vs3, CabM base g { c with f0 := LL } vs3 W)) := ofI HIp hI
        rw [HV.out] at hV
        simp only [AllV, and_true] at hV
        obtain ⟨u0, u1, u2, u3, ⟨c4, u4⟩, u6, u7, u8, ⟨o9, c9, u9, h9⟩, u11, u12, u13, u14⟩ := hV
        simp only [getsD, List.getD_cons_succ, List.getD_cons_zero, List.length_cons, List.length_nil, List.range, List.range.loop, u0, u1, u2, u3, u4, u6, u7, u8, u9, u11, u12, u13, u14, Act.put, List.setIfInBounds_toArray, List.set_cons_succ, List.set_cons_zero]
        clear u0 u1 u2 u3 u4 u6 u7 u8 u9 u11 u12 u13 u14
        obtain ⟨vs3, hM3⟩ := hI.2.2 (hL 14 (by simp))
        have hT := hI.1
        have hz3 := hT.size
        have G : ∃ vs3, CabM base g { c with f0 := LL } vs3 W ∧ Blk w1.heap.size (.cells #[.int .i64 p.epoch, .int .i64 p.number, .bool p.bare, .int .i64 p.ack, .int .i64 p.f.kind, .int .i64 p.f.heard, .int .i64 p.f.epoch, .slice oa p.f.op.length oc, .string p.f.text] 45 (0, 0)) W ∧ Below base w W ∧ w2.heap.size ≤ W.heap.size ∧ RdS (· < W.heap.size) W p.f.op oa p.f.op.length oc := ⟨vs3, hM3, XP.out.touch hT (by omega), ((Touch.of_below (S := fun _ => False) B2.out).toBelow (by omega) (fun k hk => hk.elim)).trans (hT.toBelow (by omega) (fun z hz => by omega)), hz3, Hopg.out B2.out hT⟩
        have HG' := Lib.hid G
        clear hI hL hM3 hT G
        go_wp2_with fail
        go_meet
        case rel => exact HG'.out
  case rest =>
    obtain ⟨vs3, m3, xp3, b3, hz23, op3⟩ := hcut
    obtain ⟨w3, rfl⟩ : ∃ x : World, x = wc := ⟨_, rfl⟩
    have M3 := Lib.hid m3
    have XP3 := Lib.hid xp3
    have B3 := Lib.hid b3
    have OP3 := Lib.hid op3
    have hg3 := m3.lt
    have hzp3 := xp3.lt
    have hrow3 : ∀ q, q < 6 → ∀ z, (vs3 q).ownBlock = some z → base ≤ z ∧ z < w3.heap.size := fun q hq z hz => by
      match q, hq with
      | 0, _ => exact m3.o0.rowlt z hz
      | 1, _ => exact m3.o1.rowlt z hz
      | 2, _ => exact m3.o2.rowlt z hz
      | 3, _ => exact m3.o3.rowlt z hz
      | 4, _ => exact m3.o4.rowlt z hz
      | 5, _ => exact m3.o5.rowlt z hz
      | q + 6, h => omega
    have Hrow3 := Lib.hid hrow3
    obtain ⟨a0, c0, b0, d0, a1, c1, b1, d1, bx, r0, r1, r2, r3⟩ := m3.box
    have RS := Lib.hid (r0.mono fun z hz => ⟨hz.2.1, rfl⟩ : RdS (· < w3.heap.size) w3 c.e0.sent a0 c.e0.sent.length c0)
    have RQ := Lib.hid (r1.mono fun z hz => ⟨hz.2.1, rfl⟩ : RdS (· < w3.heap.size) w3 c.e0.queue b0 c.e0.queue.length d0)
    have BX := Lib.hid bx
    clear m3 xp3 b3 op3 hrow3 bx r0 r1 r2 r3 HM M2 Hop Hopg XP B2 Hqv HE6
    go_wp2_with fail
    obtain ⟨Vp, HV⟩ : ∃ Vp : Nat → Value → World → Prop, Hid (Vp = fun i v W => match i with
        | 0 => v = .pointer (some ⟨g, 0, none⟩)
        | 1 => v = .int .i64 0
        | 2 => v = .pointer (some ⟨g, 0, none⟩)
        | 3 => v = .pointer (some ⟨g, 0, none⟩)
        | 4 => v = .pointer (some ⟨g, 0, none⟩)
        | 5 => v = .agg #[.int .i64 c.e0.epoch, .int .i64 c.e0.next, .slice a0 c.e0.sent.length c0, .slice b0 c.e0.queue.length d0, .int .i64 c.e0.heard]
        | 6 => v = .agg #[.int .i64 p.epoch, .int .i64 p.number, .bool p.bare, .int .i64 p.ack, .int .i64 p.f.kind, .int .i64 p.f.heard, .int .i64 p.f.epoch, .slice oa p.f.op.length oc, .string p.f.text]
        | 7 => ∃ y q z, v = .tuple #[y, q, .bool TB, z, .int .i64 0] ∧ LkVal w3.heap.size l' y W ∧ FrV w3.heap.size f' q W ∧ PsVal w3.heap.size ps z W
        | 8 => ∃ y q z, v = .tuple #[y, q, .bool TB, z, .int .i64 0] ∧ LkVal w3.heap.size l' y W ∧ FrV w3.heap.size f' q W ∧ PsVal w3.heap.size ps z W
        | 9 => ∃ y, v = y ∧ LkVal w3.heap.size l' y W
        | 10 => ∃ y, v = y ∧ FrV w3.heap.size f' y W
        | 11 => v = .bool TB
        | 12 => ∃ y, v = y ∧ PsVal w3.heap.size ps y W
        | 13 => v = .int .i64 0
        | 14 => ∃ gL, v = .pointer (some ⟨gL, 0, none⟩) ∧ w3.heap.size ≤ gL ∧ Blk gL (.cells #[.int .i64 0, .int .i64 0, .slice none 0 0, .slice none 0 0, .int .i64 0] 33 (0, 0)) W
        | 15 => ∃ gF, v = .pointer (some ⟨gF, 0, none⟩) ∧ w3.heap.size ≤ gF ∧ ZFr gF W
        | 16 => v = undef
        | 17 => v = undef
        | 18 => v = .bool TB
        | 19 => ∃ y, v = y ∧ PsVal w3.heap.size ps y W
        | _ => v = .int .i64 0) := ⟨_, rfl⟩
    obtain ⟨Ip, HIp⟩ : ∃ Ip : (Nat → Bool) → (Nat → Value) → World → Prop, Hid (Ip = fun L x W => (Below w3.heap.size w3 W ∧ (L 16 = true → ∃ gL, x 14 = .pointer (some ⟨gL, 0, none⟩) ∧ w3.heap.size ≤ gL ∧ LkBox w3.heap.size gL l' W) ∧ (L 17 = true → ∃ gF, x 15 = .pointer (some ⟨gF, 0, none⟩) ∧ w3.heap.size ≤ gF ∧ FrBox w3.heap.size gF f' W))) := ⟨_, rfl⟩
    refine region_lit3 (by kernel_rfl) (by kernel_rfl) (by kernel_rfl) [[], [], [0], [0, 2], [0, 1, 2, 3], [0, 1, 2, 3, 4], [], [0, 1, 2, 3, 4, 5, 6], [0, 1, 2, 3, 4, 5, 6, 7], [0, 1, 2, 3, 4, 5, 6, 7, 8], [0, 1, 2, 3, 4, 5, 6, 7, 8], [0, 1, 2, 3, 4, 5, 6, 7, 8], [0, 1, 2, 3, 4, 5, 6, 7, 8], [0, 1, 2, 3, 4, 5, 6, 7, 8], [], [], [0, 1, 2, 3, 4, 5, 6, 7, 8, 9, 14], [0, 1, 2, 3, 4, 5, 6, 7, 8, 10, 15], [0, 1, 2, 3, 4, 5, 6, 7, 8, 11], [0, 1, 2, 3, 4, 5, 6, 7, 8, 12], [0, 1, 2, 3, 4, 5, 6, 7, 8, 13]] (by kernel_rfl) [some 51, some 52, some 53, some 54, some 55, some 56, some 57, some 58, some 50, some 59, some 60, some 61, some 62, some 63, some 12, some 13, none, none, some 14, some 15, some 16] (by kernel_rfl) [[0, 2, 3, 4, 5, 7, 8, 9, 10, 11, 12, 13, 16, 17, 18, 19, 20], [1, 4, 5, 7, 8, 9, 10, 11, 12, 13, 16, 17, 18, 19, 20], [2, 3, 4, 5, 7, 8, 9, 10, 11, 12, 13, 16, 17, 18, 19, 20], [3, 4, 5, 7, 8, 9, 10, 11, 12, 13, 16, 17, 18, 19, 20], [4, 5, 7, 8, 9, 10, 11, 12, 13, 16, 17, 18, 19, 20], [5, 7, 8, 9, 10, 11, 12, 13, 16, 17, 18, 19, 20], [6, 7, 8, 9, 10, 11, 12, 13, 16, 17, 18, 19, 20], [7, 8, 9, 10, 11, 12, 13, 16, 17, 18, 19, 20], [8, 9, 10, 11, 12, 13, 16, 17, 18, 19, 20], [9, 16], [10, 17], [11, 18], [12, 19], [13, 20], [14, 16], [15, 17], [16], [17], [18], [19], [20]] (by kernel_rfl) [[], [], [], [], [], [], [], [], [], [16], [17], [], [], [], [16], [17], [], [], [], [], []] [[], [], [0], [2], [1, 3], [4], [], [5, 6], [7], [8], [8], [8], [8], [8], [], [], [9, 14], [10, 15], [11], [12], [13]] (by kernel_rfl)
      Ip
      Vp
      (fun j W W' => match j with
        | 16 => ∃ gL, Blk gL (.cells #[.int .i64 0, .int .i64 0, .slice none 0 0, .slice none 0 0, .int .i64 0] 33 (0, 0)) W ∧ Touch (fun z => z = gL) W W' ∧ w3.heap.size ≤ gL
        | 17 => ∃ gF, ZFr gF W ∧ Touch (fun z => z = gF) W W' ∧ w3.heap.size ≤ gF
        | _ => Below W.heap.size W W')
      [fun x => ⟨(fZm 0 (.pointer (some ⟨g, 0, none⟩)) (fEm 51)).toArray, []⟩,
   fun x => ⟨(fZm 1 (.int .i64 0) (fEm 51)).toArray, []⟩,
   fun x => ⟨(fZm 51 (x 0) (fEm 2)).toArray, []⟩,
   fun x => ⟨(fZm 53 (x 2) (fEm 1)).toArray, []⟩,
   fun x => ⟨(fZm 52 (x 1) (fZm 1 (x 3) (fEm 1))).toArray, []⟩,
   fun x => ⟨(fZm 55 (x 4) (fEm 1)).toArray, []⟩,
   fun x => ⟨(fZm 11 (.pointer (some ⟨w1.heap.size, 0, none⟩)) (fEm 46)).toArray, []⟩,
   fun x => ⟨(fZm 56 (x 5) (fZm 0 (x 6) (fEm 1))).toArray, []⟩,
   fun x => ⟨(fZm 58 (x 7) []).toArray, []⟩,
   fun x => ⟨(fZm 50 (x 8) (fEm 9)).toArray, []⟩,
   fun x => ⟨(fZm 50 (x 8) (fEm 10)).toArray, []⟩,
   fun x => ⟨(fZm 50 (x 8) (fEm 11)).toArray, []⟩,
   fun x => ⟨(fZm 50 (x 8) (fEm 12)).toArray, []⟩,
   fun x => ⟨(fZm 50 (x 8) (fEm 13)).toArray, []⟩,
   fun x => ⟨(fEm 13).toArray, []⟩,
   fun x => ⟨(fEm 14).toArray, []⟩,
   fun x => ⟨(fZm 12 (x 14) (fZm 46 (x 9) [])).toArray, []⟩,
   fun x => ⟨(fZm 13 (x 15) (fZm 46 (x 10) [])).toArray, []⟩,
   fun x => ⟨(fZm 61 (x 11) []).toArray, []⟩,
   fun x => ⟨(fZm 62 (x 12) []).toArray, []⟩,
   fun x => ⟨(fZm 63 (x 13) []).toArray, []⟩]
      ?hF ?mono ?h0 ?step [0, 1, 2, 3, 4, 5, 6, 7, 8, 11, 12, 13, 16, 17, 18, 19, 20] (by kernel_rfl) ?fin
    case hF =>
      iterate 21 refine ⟨fun x => ⟨by kernel_rfl, by kernel_rfl⟩, ?_⟩
      trivial
    case mono =>
      intro i j hi hj hne hna hnk v W W' hE hv
      rw [HV.out] at hv ⊢
      simp only [List.length_cons, List.length_nil] at hi hj
      match i, hi with
      | 0, _ | 1, _ | 2, _ | 3, _ | 4, _ | 5, _ | 6, _ | 11, _ | 13, _ | 16, _ | 17, _ | 18, _ | 20, _ => exact hv
      | 7, _ =>
        match j, hj with
        | 7, _ => exact absurd rfl hne
        | 0, _ | 1, _ | 2, _ | 3, _ | 4, _ | 5, _ | 6, _ => exact absurd (by simp) hna
        | 8, _ | 9, _ | 10, _ | 11, _ | 12, _ | 13, _ | 14, _ | 15, _ | 18, _ | 19, _ | 20, _ => exact (by obtain ⟨y, q, z, e, h, f, k⟩ := hv; exact ⟨y, q, z, e, h.go hE, f.go hE, k.go hE⟩)
        | 16, _ => exact (by obtain ⟨y, q, z, e, h, f, k⟩ := hv; obtain ⟨q', hz, ht, -⟩ := hE; exact ⟨y, q, z, e, h.off hz ht, f.off hz ht, k.off hz ht⟩)
        | 17, _ => exact (by obtain ⟨y, q, z, e, h, f, k⟩ := hv; obtain ⟨q', hz, ht, -⟩ := hE; exact ⟨y, q, z, e, h.offF hz ht ks kq, f.offF hz ht, k.offF hz ht⟩)
        | m + 21, h => exact absurd h (by omega)
      | 8, _ =>
        match j, hj with
        | 8, _ => exact absurd rfl hne
        | 0, _ | 1, _ | 2, _ | 3, _ | 4, _ | 5, _ | 6, _ | 7, _ => exact absurd (by simp) hna
        | 9, _ | 10, _ | 11, _ | 12, _ | 13, _ | 14, _ | 15, _ | 18, _ | 19, _ | 20, _ => exact (by obtain ⟨y, q, z, e, h, f, k⟩ := hv; exact ⟨y, q, z, e, h.go hE, f.go hE, k.go hE⟩)
        | 16, _ => exact (by obtain ⟨y, q, z, e, h, f, k⟩ := hv; obtain ⟨q', hz, ht, -⟩ := hE; exact ⟨y, q, z, e, h.off hz ht, f.off hz ht, k.off hz ht⟩)
        | 17, _ => exact (by obtain ⟨y, q, z, e, h, f, k⟩ := hv; obtain ⟨q', hz, ht, -⟩ := hE; exact ⟨y, q, z, e, h.offF hz ht ks kq, f.offF hz ht, k.offF hz ht⟩)
        | m + 21, h => exact absurd h (by omega)
      | 9, _ =>
        match j, hj with
        | 9, _ => exact absurd rfl hne
        | 0, _ | 1, _ | 2, _ | 3, _ | 4, _ | 5, _ | 6, _ | 7, _ | 8, _ => exact absurd (by simp) hna
        | 16, _ => exact absurd (by simp) hnk
        | 10, _ | 11, _ | 12, _ | 13, _ | 14, _ | 15, _ | 18, _ | 19, _ | 20, _ => exact (by obtain ⟨y, e, h⟩ := hv; exact ⟨y, e, h.go hE⟩)
        | 17, _ => exact (by obtain ⟨y, e, h⟩ := hv; obtain ⟨q', hz, ht, -⟩ := hE; exact ⟨y, e, h.offF hz ht ks kq⟩)
        | m + 21, h => exact absurd h (by omega)
      | 10, _ =>
        match j, hj with
        | 10, _ => exact absurd rfl hne
        | 0, _ | 1, _ | 2, _ | 3, _ | 4, _ | 5, _ | 6, _ | 7, _ | 8, _ => exact absurd (by simp) hna
        | 17, _ => exact absurd (by simp) hnk
        | 9, _ | 11, _ | 12, _ | 13, _ | 14, _ | 15, _ | 18, _ | 19, _ | 20, _ => exact (by obtain ⟨y, e, h⟩ := hv; exact ⟨y, e, h.go hE⟩)
        | 16, _ => exact (by obtain ⟨y, e, h⟩ := hv; obtain ⟨q', hz, ht, -⟩ := hE; exact ⟨y, e, h.off hz ht⟩)
        | m + 21, h => exact absurd h (by omega)
      | 12, _ =>
        match j, hj with
        | 12, _ => exact absurd rfl hne
        | 0, _ | 1, _ | 2, _ | 3, _ | 4, _ | 5, _ | 6, _ | 7, _ | 8, _ => exact absurd (by simp) hna
        | 9, _ | 10, _ | 11, _ | 13, _ | 14, _ | 15, _ | 18, _ | 19, _ | 20, _ => exact (by obtain ⟨y, e, h⟩ := hv; exact ⟨y, e, h.go hE⟩)
        | 16, _ => exact (by obtain ⟨y, e, h⟩ := hv; obtain ⟨q', hz, ht, -⟩ := hE; exact ⟨y, e, h.off hz ht⟩)
        | 17, _ => exact (by obtain ⟨y, e, h⟩ := hv; obtain ⟨q', hz, ht, -⟩ := hE; exact ⟨y, e, h.offF hz ht⟩)
        | m + 21, h => exact absurd h (by omega)
      | 14, _ =>
        match j, hj with
        | 14, _ => exact absurd rfl hne
        | 16, _ => exact absurd (by simp) hnk
        | 0, _ | 1, _ | 2, _ | 3, _ | 4, _ | 5, _ | 6, _ | 7, _ | 8, _ | 9, _ | 10, _ | 11, _ | 12, _ | 13, _ | 15, _ | 18, _ | 19, _ | 20, _ => exact (by obtain ⟨q, h1, h2, h3⟩ := hv; exact ⟨q, h1, h2, h3.go hE⟩)
        | 17, _ => exact (by obtain ⟨q, h1, h2, h3⟩ := hv; obtain ⟨q', hz, ht, -⟩ := hE; exact ⟨q, h1, h2, h3.touch ht (fun e => blk_types h3 hz (by decide) e)⟩)
        | m + 21, h => exact absurd h (by omega)
      | 15, _ =>
        match j, hj with
        | 15, _ => exact absurd rfl hne
        | 17, _ => exact absurd (by simp) hnk
        | 0, _ | 1, _ | 2, _ | 3, _ | 4, _ | 5, _ | 6, _ | 7, _ | 8, _ | 9, _ | 10, _ | 11, _ | 12, _ | 13, _ | 14, _ | 18, _ | 19, _ | 20, _ => exact (by obtain ⟨q, h1, h2, h3⟩ := hv; exact ⟨q, h1, h2, Blk.go h3 hE⟩)
        | 16, _ => exact (by obtain ⟨q, h1, h2, h3⟩ := hv; obtain ⟨q', hz, ht, -⟩ := hE; exact ⟨q, h1, h2, Blk.touch h3 ht (fun e => blk_types h3 hz (by decide) e)⟩)
        | m + 21, h => exact absurd h (by omega)
      | 19, _ =>
        match j, hj with
        | 19, _ => exact absurd rfl hne
        | 0, _ | 1, _ | 2, _ | 3, _ | 4, _ | 5, _ | 6, _ | 7, _ | 8, _ | 12, _ => exact absurd (by simp) hna
        | 9, _ | 10, _ | 11, _ | 13, _ | 14, _ | 15, _ | 18, _ | 20, _ => exact (by obtain ⟨y, e, h⟩ := hv; exact ⟨y, e, h.go hE⟩)
        | 16, _ => exact (by obtain ⟨y, e, h⟩ := hv; obtain ⟨q', hz, ht, -⟩ := hE; exact ⟨y, e, h.off hz ht⟩)
        | 17, _ => exact (by obtain ⟨y, e, h⟩ := hv; obtain ⟨q', hz, ht, -⟩ := hE; exact ⟨y, e, h.offF hz ht⟩)
        | m + 21, h => exact absurd h (by omega)
      | m + 21, h => exact absurd h (by omega)
    case h0 => intro x; exact toI HIp ⟨(Below.refl _ _).drew, (fun h => by cases h), (fun h => by cases h)⟩
    case step =>
      refine ⟨?_, ?_, ?_, ?_, ?_, ?_, ?_, ?_, ?_, ?_, ?_, ?_, ?_, ?_, ?_, ?_, ?_, ?_, ?_, ?_, ?_, trivial⟩
      all_goals
        intro x W L hI hL hV
        replace hI : (Below w3.heap.size w3 W ∧ (L 16 = true → ∃ gL, x 14 = .pointer (some ⟨gL, 0, none⟩) ∧ w3.heap.size ≤ gL ∧ LkBox w3.heap.size gL l' W) ∧ (L 17 = true → ∃ gF, x 15 = .pointer (some ⟨gF, 0, none⟩) ∧ w3.heap.size ≤ gF ∧ FrBox w3.heap.size gF f' W)) := ofI HIp hI
        rw [HV.out] at hV
        simp only [AllV, and_true] at hV
        dsimp only [fZm, fEm, List.reduceReplicate, List.cons_append, List.nil_append]
      · clear hV
        have HI := Lib.hid hI
        clear hI
        go_wp2_with fail
        refine step3_done rfl ?_ ?_ ?_
        · exact (toI HIp HI.out)
        · exact (Below.refl _ _)
        · exact (toV HV rfl)
      · clear hV
        have HI := Lib.hid hI
        clear hI
        go_wp2_with fail
        refine step3_done rfl ?_ ?_ ?_
        · exact (toI HIp HI.out)
        · exact (Below.refl _ _)
        · exact (toV HV rfl)
      · have u0 := hV
        clear hV
        simp only [u0]
        clear u0
        have HI := Lib.hid hI
        clear hI
        go_wp2_with fail
        refine step3_done rfl ?_ ?_ ?_
        · exact (toI HIp HI.out)
        · exact (Below.refl _ _)
        · exact (toV HV rfl)
      · have u2 := hV
        clear hV
        simp only [u2]
        clear u2
        have HI := Lib.hid hI
        clear hI
        go_wp2_with fail
        refine step3_done rfl ?_ ?_ ?_
        · exact (toI HIp HI.out)
        · exact (Below.refl _ _)
        · exact (toV HV rfl)
      · obtain ⟨u1, u3⟩ := hV
        simp only [u1, u3]
        clear u1 u3
        have HI := Lib.hid hI
        clear hI
        go_wp2_with fail
        refine step3_done rfl ?_ ?_ ?_
        · exact (toI HIp HI.out)
        · exact (Below.refl _ _)
        · exact (toV HV rfl)
      · have u4 := hV
        clear hV
        simp only [u4]
        clear u4
        obtain ⟨⟨p0, p1, p2, p3, p4⟩, ⟨p5, p6, p7, p8, p9⟩, -⟩ := blk16_cells (BX.out.go hI.1)
        have HI := Lib.hid hI
        clear hI
        go_wp2_with fail
        refine step3_done rfl ?_ ?_ ?_
        · exact (toI HIp HI.out)
        · exact (Below.refl _ _)
        · exact (toV HV rfl)
      · clear hV
        obtain ⟨p0, p1, p2, p3, p4, p5, p6, p7, p8⟩ := blk9_cells (XP3.out.go hI.1)
        have HI := Lib.hid hI
        clear hI
        go_wp2_with fail
        refine step3_done rfl ?_ ?_ ?_
        · exact (toI HIp HI.out)
        · exact (Below.refl _ _)
        · exact (toV HV rfl)
      · obtain ⟨u5, u6⟩ := hV
        simp only [u5, u6]
        clear u5 u6
        have HL := Lib.hid hL
        have HI := Lib.hid hI
        have hzW := hI.1.size
        clear hI hL
        go_wp2_with fail
        refine (HH.out _ _ _ _ _ _ _ (HG.out _ (B3.out.trans ((Touch.of_below (S := fun _ => False) HI.out.1).toBelow (by have := B3.out.size; omega) (fun k hk => hk.elim)))) (RS.out.go HI.out.1) (RQ.out.go HI.out.1) (OP3.out.go HI.out.1)).mono ?_
        rintro e W' ⟨y, q, z, rfl, t1, t2, t3, hb⟩
        go_wp2_with fail
        refine step3_done rfl ?_ ?_ ?_
        · exact (toI HIp ⟨up HI.out.1 hb, (fun h => absurd ((HL.out.2 16 (by simp)).symm.trans h) (by simp)), (fun h => absurd ((HL.out.2 17 (by simp)).symm.trans h) (by simp))⟩)
        · exact hb
        · exact (toV HV ⟨_, _, _, rfl, t1.deep hzW, t2.deep hzW, t3.deep hzW⟩)
      · obtain ⟨y7, q7, z7, u7, h7, f7, k7⟩ := hV
        simp only [u7]
        have U7 := Lib.hid u7
        clear u7
        have HI := Lib.hid hI
        clear hI
        go_wp2_with fail
        refine step3_done rfl ?_ ?_ ?_
        · exact (toI HIp HI.out)
        · exact (Below.refl _ _)
        · exact (toV HV ⟨_, _, _, rfl, h7, f7, k7⟩)
      · obtain ⟨y8, q8, z8, u8, h8, f8, k8⟩ := hV
        simp only [u8]
        have U8 := Lib.hid u8
        clear u8
        have HI := Lib.hid hI
        clear hI
        go_wp2_with fail
        refine step3_done rfl ?_ ?_ ?_
        · exact (toI HIp HI.out)
        · exact (Below.refl _ _)
        · exact (toV HV ⟨_, rfl, h8⟩)
      · obtain ⟨y8, q8, z8, u8, h8, f8, k8⟩ := hV
        simp only [u8]
        have U8 := Lib.hid u8
        clear u8
        have HI := Lib.hid hI
        clear hI
        go_wp2_with fail
        refine step3_done rfl ?_ ?_ ?_
        · exact (toI HIp HI.out)
        · exact (Below.refl _ _)
        · exact (toV HV ⟨_, rfl, f8⟩)
      · obtain ⟨y8, q8, z8, u8, h8, f8, k8⟩ := hV
        simp only [u8]
        have U8 := Lib.hid u8
        clear u8
        have HI := Lib.hid hI
        clear hI
        go_wp2_with fail
        refine step3_done rfl ?_ ?_ ?_
        · exact (toI HIp HI.out)
        · exact (Below.refl _ _)
        · exact (toV HV rfl)
      · obtain ⟨y8, q8, z8, u8, h8, f8, k8⟩ := hV
        simp only [u8]
        have U8 := Lib.hid u8
        clear u8
        have HI := Lib.hid hI
        clear hI
        go_wp2_with fail
        refine step3_done rfl ?_ ?_ ?_
        · exact (toI HIp HI.out)
        · exact (Below.refl _ _)
        · exact (toV HV ⟨_, rfl, k8⟩)
      · obtain ⟨y8, q8, z8, u8, h8, f8, k8⟩ := hV
        simp only [u8]
        have U8 := Lib.hid u8
        clear u8
        have HI := Lib.hid hI
        clear hI
        go_wp2_with fail
        refine step3_done rfl ?_ ?_ ?_
        · exact (toI HIp HI.out)
        · exact (Below.refl _ _)
        · exact (toV HV rfl)
      · clear hV
        have HL := Lib.hid hL
        have HI := Lib.hid hI
        have hzW := hI.1.size
        clear hI hL
        go_wp2_with fail
        have uW : ∀ o, Below W.heap.size W (W.alloc o) := fun o => (Below.refl _ _).alloc (Nat.le_refl _) o
        refine step3_done rfl ?_ ?_ ?_
        · exact (toI HIp ⟨up HI.out.1 (uW _), (fun h => absurd ((HL.out.2 16 (by simp)).symm.trans h) (by simp)), (fun h => by obtain ⟨q, h1, h2, h3⟩ := HI.out.2.2 h; exact ⟨q, h1, h2, h3.go (uW _)⟩)⟩)
        · exact (uW _)
        · exact (toV HV ⟨_, rfl, hzW, Blk.new _ _⟩)
      · clear hV
        have HL := Lib.hid hL
        have HI := Lib.hid hI
        have hzW := hI.1.size
        clear hI hL
        go_wp2_with fail
        have uW : ∀ o, Below W.heap.size W (W.alloc o) := fun o => (Below.refl _ _).alloc (Nat.le_refl _) o
        refine step3_done rfl ?_ ?_ ?_
        · exact (toI HIp ⟨up HI.out.1 (uW _), (fun h => by obtain ⟨q, h1, h2, h3⟩ := HI.out.2.1 h; exact ⟨q, h1, h2, h3.go (uW _)⟩), (fun h => absurd ((HL.out.2 17 (by simp)).symm.trans h) (by simp))⟩)
        · exact (uW _)
        · exact (toV HV ⟨_, rfl, hzW, Blk.new _ _⟩)
      · obtain ⟨⟨y9, u9, h9⟩, ⟨g14, u14, l14, b14⟩⟩ := hV
        simp only [u14, u9]
        have U9 := Lib.hid u9
        have U14 := Lib.hid u14
        clear u9 u14
        have hoff := fun W' (ht : Touch (fun z => z = g14) W W') => h9.off b14 ht
        obtain ⟨sb, sd, qb, qd, rfl, -, -⟩ := h9
        obtain ⟨q0, q1, q2, q3, q4⟩ := blk_cells5 b14
        have fW := b14.frozen
        have hg9 := b14.lt
        have B7 := Lib.hid (blk_set5 b14 (.int .i64 l'.epoch) (.int .i64 l'.next) (.slice sb l'.sent.length sd) (.slice qb l'.queue.length qd) (.int .i64 l'.heard))
        have HT := Lib.hid (touch5 W g14 (.int .i64 l'.epoch) (.int .i64 l'.next) (.slice sb l'.sent.length sd) (.slice qb l'.queue.length qd) (.int .i64 l'.heard))
        have HLV := Lib.hid (hoff _ HT.out)
        have HI := Lib.hid hI
        have HB9 := Lib.hid b14
        clear hI b14 hoff
        go_wp2_with fail
        refine step3_done rfl (toI HIp ⟨HI.out.1.trans (HT.out.toBelow HI.out.1.size (fun k hk => by omega)), (fun _ => ⟨g14, U14.out, l14, ?_⟩), (fun h => by obtain ⟨q, h1, h2, h3⟩ := HI.out.2.2 h; exact ⟨q, h1, h2, h3.offL HB9.out HT.out⟩)⟩) ⟨g14, HB9.out, HT.out, l14⟩ (toV HV rfl)
        obtain ⟨sb', sd', qb', qd', e', t1, t2⟩ := HLV.out
        simp only [Value.agg.injEq, Array.mk.injEq, List.cons.injEq, Value.slice.injEq, true_and, and_true] at e'
        obtain ⟨⟨rfl, rfl⟩, rfl, rfl⟩ := e'
        exact ⟨sb, sd, qb, qd, B7.out, t1, t2⟩
      · obtain ⟨⟨y10, u10, h10⟩, ⟨g15, u15, l15, b15⟩⟩ := hV
        simp only [u15, u10]
        have U10 := Lib.hid u10
        have U15 := Lib.hid u15
        clear u10 u15
        have hoff := fun W' (ht : Touch (fun z => z = g15) W W') => h10.offF b15 ht
        obtain ⟨xa, xc, rfl, -⟩ := h10
        obtain ⟨q0, q1, q2, q3, q4⟩ := blk_cells5 b15
        have fW := Blk.frozen b15
        have hg9 := Blk.lt b15
        have B7 := Lib.hid (blk_set5 b15 (.int .i64 f'.kind) (.int .i64 f'.heard) (.int .i64 f'.epoch) (.slice xa f'.op.length xc) (.string f'.text))
        have HT := Lib.hid (touch5 W g15 (.int .i64 f'.kind) (.int .i64 f'.heard) (.int .i64 f'.epoch) (.slice xa f'.op.length xc) (.string f'.text))
        have HFV := Lib.hid (hoff _ HT.out)
        have HI := Lib.hid hI
        have HB9 := Lib.hid b15
        clear hI b15 hoff
        go_wp2_with fail
        refine step3_done rfl (toI HIp ⟨HI.out.1.trans (HT.out.toBelow HI.out.1.size (fun k hk => by omega)), (fun h => by obtain ⟨q, h1, h2, h3⟩ := HI.out.2.1 h; exact ⟨q, h1, h2, h3.offF HB9.out HT.out ks kq⟩), (fun _ => ⟨g15, U15.out, l15, ?_⟩)⟩) ⟨g15, HB9.out, HT.out, l15⟩ (toV HV rfl)
        obtain ⟨xa', xc', e', t1⟩ := HFV.out
        simp only [Value.agg.injEq, Array.mk.injEq, List.cons.injEq, Value.slice.injEq, true_and, and_true] at e'
        obtain ⟨rfl, rfl⟩ := e'
        exact ⟨xa, xc, B7.out, t1⟩
      · have u11 := hV
        clear hV
        simp only [u11]
        clear u11
        have HI := Lib.hid hI
        clear hI
        go_wp2_with fail
        refine step3_done rfl ?_ ?_ ?_
        · exact (toI HIp HI.out)
        · exact (Below.refl _ _)
        · exact (toV HV rfl)
      · obtain ⟨y12, u12, h12⟩ := hV
        simp only [u12]
        have U12 := Lib.hid u12
        clear u12
        have HI := Lib.hid hI
        clear hI
        go_wp2_with fail
        refine step3_done rfl ?_ ?_ ?_
        · exact (toI HIp HI.out)
        · exact (Below.refl _ _)
        · exact (toV HV ⟨_, rfl, h12⟩)
      · have u13 := hV
        clear hV
        simp only [u13]
        clear u13
        have HI := Lib.hid hI
        clear hI
        go_wp2_with fail
        refine step3_done rfl ?_ ?_ ?_
        · exact (toI HIp HI.out)
        · exact (Below.refl _ _)
        · exact (toV HV rfl)
    case fin =>
      intro x W L hL hI hV
      replace hI : (Below w3.heap.size w3 W ∧ (L 16 = true → ∃ gL, x 14 = .pointer (some ⟨gL, 0, none⟩) ∧ w3.heap.size ≤ gL ∧ LkBox w3.heap.size gL l' W) ∧ (L 17 = true → ∃ gF, x 15 = .pointer (some ⟨gF, 0, none⟩) ∧ w3.heap.size ≤ gF ∧ FrBox w3.heap.size gF f' W)) := ofI HIp hI
      rw [HV.out] at hV
      simp only [AllV, and_true] at hV
      obtain ⟨u0, u1, u2, u3, u4, u5, u6, ⟨y7, q7, z7, u7, h7, f7, k7⟩, ⟨y8, q8, z8, u8, h8, f8, k8⟩, u11, ⟨y12, u12, h12⟩, u13, u16, u17, u18, ⟨y19, u19, h19⟩, u20⟩ := hV
      simp only [getsD, List.getD_cons_succ, List.getD_cons_zero, List.length_cons, List.length_nil, List.range, List.range.loop, u0, u1, u2, u3, u4, u5, u6, u7, u8, u11, u12, u13, u16, u17, u18, u19, u20, Act.put, List.setIfInBounds_toArray, List.set_cons_succ, List.set_cons_zero]
      clear u0 u1 u2 u3 u4 u5 u6 u7 u8 u11 u12 u13 u16 u17 u18 u19 u20
      obtain ⟨gL, hxL, hlL, bL⟩ := hI.2.1 (hL 16 (by simp))
      obtain ⟨gF, hxF, hlF, bF⟩ := hI.2.2 (hL 17 (by simp))
      have hb := hI.1
      simp only [hxL, hxF]
      obtain ⟨w4, rfl⟩ : ∃ x : World, x = W := ⟨_, rfl⟩
      have B4 : Hid (Below base w w4) := B3.out.trans ((Touch.of_below (S := fun _ => False) hb).toBelow (by have := B3.out.size; omega) (fun k hk => hk.elim))
      have hz34 := hb.size
      obtain ⟨sb, sd, qb, qd, bL2, rl1, rl2⟩ := bL
      have hzgL := bL2.lt
      have XL := Lib.hid bL2
      have RL := Lib.hid (And.intro rl1 rl2)
      obtain ⟨fa, fc, bF2, rf⟩ := bF
      have hzgF := bF2.lt
      have XF := Lib.hid bF2
      have RF := Lib.hid rf
      obtain ⟨pa, pc, rfl, rp⟩ := h19
      have RP := Lib.hid rp
      have M4 := Lib.hid (M3.out.go hb)
      have BX4 := Lib.hid (BX.out.go hb)
      clear hI hL hb bL2 rl1 rl2 bF2 rf rp HH RS RQ BX B3 M3 XP3 OP3 hxL hxF
      go_wp2_with fail
      obtain ⟨Vp, HV⟩ : ∃ Vp : Nat → Value → World → Prop, Hid (Vp = fun i v W => match i with
          | 0 => v = .pointer (some ⟨g, 0, none⟩)
          | 1 => v = .int .i64 0
          | 2 => v = .agg #[.int .i64 l'.epoch, .int .i64 l'.next, .slice sb l'.sent.length sd, .slice qb l'.queue.length qd, .int .i64 l'.heard]
          | 3 => v = .pointer (some ⟨g, 0, none⟩)
          | 4 => v = .pointer (some ⟨g, 0, none⟩)
          | 5 => v = .pointer (some ⟨g, 0, none⟩)
          | _ => v = undef) := ⟨_, rfl⟩
      obtain ⟨Ip, HIp⟩ : ∃ Ip : (Nat → Bool) → (Nat → Value) → World → Prop, Hid (Ip = fun L x W => (Touch (fun z => z = g) w4 W ∧ (L 6 = false → Blk g (.cells #[.int .i64 c.e0.epoch, .int .i64 c.e0.next, .slice a0 c.e0.sent.length c0, .slice b0 c.e0.queue.length d0, .int .i64 c.e0.heard, .int .i64 c.e1.epoch, .int .i64 c.e1.next, .slice a1 c.e1.sent.length c1, .slice b1 c.e1.queue.length d1, .int .i64 c.e1.heard, vs3 0, vs3 1, vs3 2, vs3 3, vs3 4, vs3 5] 39 (0, 0)) W) ∧ (L 6 = true → Blk g (.cells #[.int .i64 l'.epoch, .int .i64 l'.next, .slice sb l'.sent.length sd, .slice qb l'.queue.length qd, .int .i64 l'.heard, .int .i64 c.e1.epoch, .int .i64 c.e1.next, .slice a1 c.e1.sent.length c1, .slice b1 c.e1.queue.length d1, .int .i64 c.e1.heard, vs3 0, vs3 1, vs3 2, vs3 3, vs3 4, vs3 5] 39 (0, 0)) W))) := ⟨_, rfl⟩
      refine region_lit3 (by kernel_rfl) (by kernel_rfl) (by kernel_rfl) [[], [], [], [0], [0, 3], [0, 1, 3, 4], [0, 1, 2, 3, 4, 5]] (by kernel_rfl) [some 64, some 65, some 66, some 67, some 68, some 69, none] (by kernel_rfl) [[0, 3, 4, 5, 6], [1, 5, 6], [2, 6], [3, 4, 5, 6], [4, 5, 6], [5, 6], [6]] (by kernel_rfl) [[], [], [], [], [], [], []] [[], [], [], [0], [3], [1, 4], [2, 5]] (by kernel_rfl)
        Ip
        Vp
        (fun j W W' => match j with
          | 6 => Touch (fun z => z = g) W W'
          | _ => Below W.heap.size W W')
        [fun x => ⟨(fZm 0 (.pointer (some ⟨g, 0, none⟩)) (fEm 64)).toArray, []⟩,
   fun x => ⟨(fZm 1 (.int .i64 0) (fEm 64)).toArray, []⟩,
   fun x => ⟨(fZm 12 (.pointer (some ⟨gL, 0, none⟩)) (fEm 54)).toArray, []⟩,
   fun x => ⟨(fZm 64 (x 0) (fEm 3)).toArray, []⟩,
   fun x => ⟨(fZm 67 (x 3) (fEm 1)).toArray, []⟩,
   fun x => ⟨(fZm 65 (x 1) (fZm 2 (x 4) (fEm 1))).toArray, []⟩,
   fun x => ⟨(fZm 66 (x 2) (fZm 2 (x 5) [])).toArray, []⟩]
        ?hF ?mono ?h0 ?step [0, 1, 2, 3, 4, 5, 6] (by kernel_rfl) ?fin
      case hF =>
        iterate 7 refine ⟨fun x => ⟨by kernel_rfl, by kernel_rfl⟩, ?_⟩
        trivial
      case mono =>
        intro i j hi hj hne hna hnk v W W' hE hv
        rw [HV.out] at hv ⊢
        simp only [List.length_cons, List.length_nil] at hi hj
        match i, hi with
        | 0, _ | 1, _ | 2, _ | 3, _ | 4, _ | 5, _ | 6, _ => exact hv
        | m + 7, h => exact absurd h (by omega)
      case h0 => intro x; exact toI HIp ⟨(Touch.refl _ _).drew, (fun _ => BX4.out), (fun h => by cases h)⟩
      case step =>
        refine ⟨?_, ?_, ?_, ?_, ?_, ?_, ?_, trivial⟩
        all_goals
          intro x W L hI hL hV
          replace hI : (Touch (fun z => z = g) w4 W ∧ (L 6 = false → Blk g (.cells #[.int .i64 c.e0.epoch, .int .i64 c.e0.next, .slice a0 c.e0.sent.length c0, .slice b0 c.e0.queue.length d0, .int .i64 c.e0.heard, .int .i64 c.e1.epoch, .int .i64 c.e1.next, .slice a1 c.e1.sent.length c1, .slice b1 c.e1.queue.length d1, .int .i64 c.e1.heard, vs3 0, vs3 1, vs3 2, vs3 3, vs3 4, vs3 5] 39 (0, 0)) W) ∧ (L 6 = true → Blk g (.cells #[.int .i64 l'.epoch, .int .i64 l'.next, .slice sb l'.sent.length sd, .slice qb l'.queue.length qd, .int .i64 l'.heard, .int .i64 c.e1.epoch, .int .i64 c.e1.next, .slice a1 c.e1.sent.length c1, .slice b1 c.e1.queue.length d1, .int .i64 c.e1.heard, vs3 0, vs3 1, vs3 2, vs3 3, vs3 4, vs3 5] 39 (0, 0)) W)) := ofI HIp hI
          rw [HV.out] at hV
          simp only [AllV, and_true] at hV
          dsimp only [fZm, fEm, List.reduceReplicate, List.cons_append, List.nil_append]
        · clear hV
          have HI := Lib.hid hI
          clear hI
          go_wp2_with fail
          refine step3_done rfl ?_ ?_ ?_
          · exact (toI HIp HI.out)
          · exact (Below.refl _ _)
          · exact (toV HV rfl)
        · clear hV
          have HI := Lib.hid hI
          clear hI
          go_wp2_with fail
          refine step3_done rfl ?_ ?_ ?_
          · exact (toI HIp HI.out)
          · exact (Below.refl _ _)
          · exact (toV HV rfl)
        · clear hV
          obtain ⟨q0, q1, q2, q3, q4⟩ := blk_cells5 (XL.out.touch hI.1 (by omega))
          have HI := Lib.hid hI
          clear hI
          go_wp2_with fail
          refine step3_done rfl ?_ ?_ ?_
          · exact (toI HIp HI.out)
          · exact (Below.refl _ _)
          · exact (toV HV rfl)
        · have u0 := hV
          clear hV
          simp only [u0]
          clear u0
          have HI := Lib.hid hI
          clear hI
          go_wp2_with fail
          refine step3_done rfl ?_ ?_ ?_
          · exact (toI HIp HI.out)
          · exact (Below.refl _ _)
          · exact (toV HV rfl)
        · have u3 := hV
          clear hV
          simp only [u3]
          clear u3
          have HI := Lib.hid hI
          clear hI
          go_wp2_with fail
          refine step3_done rfl ?_ ?_ ?_
          · exact (toI HIp HI.out)
          · exact (Below.refl _ _)
          · exact (toV HV rfl)
        · obtain ⟨u1, u4⟩ := hV
          simp only [u1, u4]
          clear u1 u4
          have HI := Lib.hid hI
          clear hI
          go_wp2_with fail
          refine step3_done rfl ?_ ?_ ?_
          · exact (toI HIp HI.out)
          · exact (Below.refl _ _)
          · exact (toV HV rfl)
        · obtain ⟨u2, u5⟩ := hV
          simp only [u2, u5]
          clear u2 u5
          have bM := hI.2.1 (hL.2 6 (by simp))
          obtain ⟨⟨p0, p1, p2, p3, p4⟩, ⟨p5, p6, p7, p8, p9⟩, -⟩ := blk16_cells bM
          have fW := bM.frozen
          have hlt := bM.lt
          have HL := Lib.hid hL
          have HI := Lib.hid hI
          clear hI hL bM
          go_wp2_with fail
          have ht := ((((touch1 (w := W) (g := g) (i := 0) (.int .i64 l'.epoch)).trans (touch1 (g := g) (i := 1) (.int .i64 l'.next))).trans (touch1 (g := g) (i := 2) (.slice sb l'.sent.length sd))).trans (touch1 (g := g) (i := 3) (.slice qb l'.queue.length qd))).trans (touch1 (g := g) (i := 4) (.int .i64 l'.heard))
          refine step3_done (v := undef) rfl ?_ ?_ ?_
          · exact (toI HIp ⟨HI.out.1.trans ht, (fun h => absurd h (by simp [setB])), (fun _ => ((((((HI.out.2.1 (HL.out.2 6 (by simp))).set 0 (.int .i64 l'.epoch)).set 1 (.int .i64 l'.next)).set 2 (.slice sb l'.sent.length sd)).set 3 (.slice qb l'.queue.length qd)).set 4 (.int .i64 l'.heard)))⟩)
          · exact ht
          · exact (toV HV rfl)
      case fin =>
        intro x W L hL hI hV
        replace hI : (Touch (fun z => z = g) w4 W ∧ (L 6 = false → Blk g (.cells #[.int .i64 c.e0.epoch, .int .i64 c.e0.next, .slice a0 c.e0.sent.length c0, .slice b0 c.e0.queue.length d0, .int .i64 c.e0.heard, .int .i64 c.e1.epoch, .int .i64 c.e1.next, .slice a1 c.e1.sent.length c1, .slice b1 c.e1.queue.length d1, .int .i64 c.e1.heard, vs3 0, vs3 1, vs3 2, vs3 3, vs3 4, vs3 5] 39 (0, 0)) W) ∧ (L 6 = true → Blk g (.cells #[.int .i64 l'.epoch, .int .i64 l'.next, .slice sb l'.sent.length sd, .slice qb l'.queue.length qd, .int .i64 l'.heard, .int .i64 c.e1.epoch, .int .i64 c.e1.next, .slice a1 c.e1.sent.length c1, .slice b1 c.e1.queue.length d1, .int .i64 c.e1.heard, vs3 0, vs3 1, vs3 2, vs3 3, vs3 4, vs3 5] 39 (0, 0)) W)) := ofI HIp hI
        rw [HV.out] at hV
        simp only [AllV, and_true] at hV
        obtain ⟨u0, u1, u2, u3, u4, u5, u6⟩ := hV
        simp only [getsD, List.getD_cons_succ, List.getD_cons_zero, List.length_cons, List.length_nil, List.range, List.range.loop, u0, u1, u2, u3, u4, u5, u6, Act.put, List.setIfInBounds_toArray, List.set_cons_succ, List.set_cons_zero]
        clear u0 u1 u2 u3 u4 u5 u6
        have hT := hI.1
        have hB := hI.2.2 (hL 6 (by simp))
        obtain ⟨w5, rfl⟩ : ∃ x : World, x = W := ⟨_, rfl⟩
        have hz45 := hT.size
        obtain ⟨⟨a0', c0', b0', d0', a1', c1', b1', d1', bo, r0, r1, r2, r3⟩, o0, o1, o2, o3, o4, o5⟩ := M4.out.rest hT
        have hfree : ∀ z, Fresh w3.heap.size w4 z → Free base g vs3 w5 z ∧ w5.heap[z]? = w4.heap[z]? := fun z hz => by
          obtain ⟨z1, z2⟩ := hz
          exact ⟨⟨by omega, by omega, by omega, fun q hq e => by have := (Hrow3.out q hq z e).2; omega⟩, hT.block z z2 (by omega)⟩
        have g1 := Option.some.inj ((bo.cell 7).symm.trans (BX4.out.cell 7))
        have g2 := Option.some.inj ((bo.cell 8).symm.trans (BX4.out.cell 8))
        have g1' : Value.slice a1' c.e1.sent.length c1' = .slice a1 c.e1.sent.length c1 := g1
        have g2' : Value.slice b1' c.e1.queue.length d1' = .slice b1 c.e1.queue.length d1 := g2
        injection g1' with g3 g4 g5
        injection g2' with g6 g7 g8
        subst g3 g5 g6 g8
        have M5 : Hid (CabM base g { c with e0 := l', f0 := LL } vs3 w5) := ⟨⟨sb, sd, qb, qd, a1', c1', b1', d1', hB, RL.out.1.mono hfree, RL.out.2.mono hfree, r2, r3⟩, o0, o1, o2, o3, o4, o5, M4.out.gb, M4.out.ne, M4.out.di⟩
        have RP5 := Lib.hid (RP.out.mono hfree)
        have RF5 := Lib.hid (RF.out.mono hfree)
        have XF5 := Lib.hid (XF.out.touch hT (by omega))
        have B5 : Hid (Below base w w5) := B4.out.trans (hT.toBelow (by have := B4.out.size; omega) (fun k hk => by omega))
        have hz05 := B5.out.size
        clear hI hL hT hB bo r0 r1 r2 r3 o0 o1 o2 o3 o4 o5 hfree M4 XL RL RP RF XF BX4 B4
        go_upto_if 70 with fail
        go_cut [] from 71 to 84 (fun W => ∃ vs5, CabM base g { c with e0 := l', f0 := LL, t0 := TT } vs5 W ∧ RdS (Free base g vs5 W) W ps pa ps.length pc ∧ Below base w W)
        case first =>
          cases TB with
          | false =>
            have G : ∃ vs5, CabM base g ({ c with e0 := l', f0 := LL, t0 := TT } : Cb) vs5 w5 ∧ RdS (Free base g vs5 w5) w5 ps pa ps.length pc ∧ Below base w w5 := ⟨vs3, (by rw [show TT = c.t0 from HTT.out]; exact M5.out), RP5.out, B5.out⟩
            have HG' := Lib.hid G
            clear G
            go_wp2_with fail
            go_meet
            case rel => exact HG'.out
          | true =>
            go_wp2_with fail
            obtain ⟨i0, hi, hz0, hz1', hz2'⟩ := info_parts infoF
            have Hi := Lib.hid hi
            have Hz0 := Lib.hid hz0
            have Hz1 := Lib.hid hz1'
            have Hz2 := Lib.hid hz2'
            clear hi hz0 hz1' hz2'
            have hfF : gF ≠ g := by omega
            have hrowF : ∀ q, q < 6 → (vs3 q).ownBlock ≠ some gF := fun q hq e => by have := (Hrow3.out q hq gF e).2; omega
            have HrowF := Lib.hid hrowF
            clear hrowF
            obtain ⟨Vp, HV⟩ : ∃ Vp : Nat → Value → World → Prop, Hid (Vp = fun i v W => match i with
                | 0 => v = .pointer (some ⟨g, 0, none⟩)
                | 1 => v = .int .i64 0
                | 2 => v = .pointer (some ⟨g, 0, none⟩)
                | 3 => v = .int .i64 0
                | 4 => v = .pointer (some ⟨g, 0, none⟩)
                | 5 => v = .pointer (some ⟨g, 14, none⟩)
                | 6 => v = .pointer (some ⟨g, 14, none⟩)
                | 7 => v = vs3 4
                | 8 => v = .agg #[.int .i64 f'.kind, .int .i64 f'.heard, .int .i64 f'.epoch, .slice fa f'.op.length fc, .string f'.text]
                | 9 => ∃ b, v = .slice (some ⟨b, 0, none⟩) 1 1 ∧ Blk b (.cells #[.int .i64 f'.kind, .int .i64 f'.heard, .int .i64 f'.epoch, .slice fa f'.op.length fc, .string f'.text] 30 (0, 0)) W ∧ w5.heap.size ≤ b
                | 10 => ∃ q o n, v = .slice (some ⟨q, o, none⟩) (c.t0.length + 1) n
                | 11 => v = .pointer (some ⟨g, 0, none⟩)
                | 12 => v = .pointer (some ⟨g, 14, none⟩)
                | 13 => v = .pointer (some ⟨g, 14, none⟩)
                | _ => v = undef) := ⟨_, rfl⟩
            obtain ⟨Ip, HIp⟩ : ∃ Ip : (Nat → Bool) → (Nat → Value) → World → Prop, Hid (Ip = fun L x W => (Touch (fun z => z = g ∨ (vs3 4).ownBlock = some z) w5 W ∧ (L 10 = false → CabM base g { c with e0 := l', f0 := LL } vs3 W) ∧ (L 10 = true → L 14 = false → CabG base g { c with e0 := l', f0 := LL, t0 := c.t0 ++ [f'] } vs3 (fun q => if q = 4 then x 10 else vs3 q) W) ∧ (L 10 = true → ∀ z, (x 10).ownBlock = some z → (vs3 4).ownBlock = some z ∨ w5.heap.size ≤ z) ∧ (L 14 = true → CabM base g { c with e0 := l', f0 := LL, t0 := c.t0 ++ [f'] } (fun q => if q = 4 then x 10 else vs3 q) W))) := ⟨_, rfl⟩
            refine region_lit3 (by kernel_rfl) (by kernel_rfl) (by kernel_rfl) [[], [], [], [], [2], [2, 4], [2, 3, 4, 5], [2, 3, 4, 5, 6], [], [8], [2, 3, 4, 5, 6, 7, 8, 9], [0], [0, 11], [0, 1, 11, 12], [0, 1, 2, 3, 4, 5, 6, 7, 8, 9, 10, 11, 12, 13]] (by kernel_rfl) [some 71, some 72, some 73, some 74, some 75, some 76, some 77, some 78, some 79, some 80, some 81, some 82, some 83, some 84, none] (by kernel_rfl) [[0, 11, 12, 13, 14], [1, 13, 14], [2, 4, 5, 6, 7, 10, 14], [3, 6, 7, 10, 14], [4, 5, 6, 7, 10, 14], [5, 6, 7, 10, 14], [6, 7, 10, 14], [7, 10, 14], [8, 9, 10, 14], [9, 10, 14], [10, 14], [11, 12, 13, 14], [12, 13, 14], [13, 14], [14]] (by kernel_rfl) [[], [], [], [], [], [], [], [], [], [10, 14], [], [], [], [], []] [[], [], [], [], [2], [4], [3, 5], [6], [], [8], [7, 9], [0], [11], [1, 12], [10, 13]] (by kernel_rfl)
              Ip
              Vp
              (fun j W W' => match j with
                | 10 => W.grownBy W' (vs3 4).ownBlock
                | 14 => Touch (fun z => z = g) W W'
                | _ => Below W.heap.size W W')
              [fun x => ⟨(fZm 0 (.pointer (some ⟨g, 0, none⟩)) (fEm 71)).toArray, []⟩,
   fun x => ⟨(fZm 1 (.int .i64 0) (fEm 71)).toArray, []⟩,
   fun x => ⟨(fZm 0 (.pointer (some ⟨g, 0, none⟩)) (fEm 73)).toArray, []⟩,
   fun x => ⟨(fZm 1 (.int .i64 0) (fEm 73)).toArray, []⟩,
   fun x => ⟨(fZm 73 (x 2) (fEm 2)).toArray, []⟩,
   fun x => ⟨(fZm 75 (x 4) (fEm 1)).toArray, []⟩,
   fun x => ⟨(fZm 74 (x 3) (fZm 1 (x 5) (fEm 1))).toArray, []⟩,
   fun x => ⟨(fZm 77 (x 6) (fEm 1)).toArray, []⟩,
   fun x => ⟨(fZm 13 (.pointer (some ⟨gF, 0, none⟩)) (fEm 66)).toArray, []⟩,
   fun x => ⟨(fZm 79 (x 8) (fEm 1)).toArray, []⟩,
   fun x => ⟨(fZm 78 (x 7) (fZm 1 (x 9) (fEm 1))).toArray, []⟩,
   fun x => ⟨(fZm 71 (x 0) (fEm 11)).toArray, []⟩,
   fun x => ⟨(fZm 82 (x 11) (fEm 1)).toArray, []⟩,
   fun x => ⟨(fZm 72 (x 1) (fZm 10 (x 12) (fEm 1))).toArray, []⟩,
   fun x => ⟨(fZm 81 (x 10) (fZm 2 (x 13) [])).toArray, []⟩]
              ?hF ?mono ?h0 ?step [0, 1, 2, 3, 4, 5, 6, 7, 8, 10, 11, 12, 13, 14] (by kernel_rfl) ?fin
            case hF =>
              iterate 15 refine ⟨fun x => ⟨by kernel_rfl, by kernel_rfl⟩, ?_⟩
              trivial
            case mono =>
              intro i j hi hj hne hna hnk v W W' hE hv
              rw [HV.out] at hv ⊢
              simp only [List.length_cons, List.length_nil] at hi hj
              match i, hi with
              | 0, _ | 1, _ | 2, _ | 3, _ | 4, _ | 5, _ | 6, _ | 7, _ | 8, _ | 11, _ | 12, _ | 13, _ | 14, _ => exact hv
              | 9, _ =>
                match j, hj with
                | 9, _ => exact absurd rfl hne
                | 8, _ => exact absurd (by simp) hna
                | 10, _ | 14, _ => exact absurd (by simp) hnk
                | 0, _ | 1, _ | 2, _ | 3, _ | 4, _ | 5, _ | 6, _ | 7, _ | 11, _ | 12, _ | 13, _ => exact (by obtain ⟨b, h1, h2, h3⟩ := hv; exact ⟨b, h1, h2.go hE, h3⟩)
                | m + 15, h => exact absurd h (by omega)
              | 10, _ =>
                match j, hj with
                | 10, _ => exact absurd rfl hne
                | 2, _ | 3, _ | 4, _ | 5, _ | 6, _ | 7, _ | 8, _ | 9, _ => exact absurd (by simp) hna
                | 0, _ | 1, _ | 11, _ | 12, _ | 13, _ | 14, _ => exact (id hv)
                | m + 15, h => exact absurd h (by omega)
              | m + 15, h => exact absurd h (by omega)
            case h0 => intro x; exact toI HIp ⟨(Touch.refl _ _).drew, (fun _ => M5.out.go (Below.refl _ _).drew), (fun h => by cases h), (fun h => by cases h), (fun h => by cases h)⟩
            case step =>
              refine ⟨?_, ?_, ?_, ?_, ?_, ?_, ?_, ?_, ?_, ?_, ?_, ?_, ?_, ?_, ?_, trivial⟩
              all_goals
                intro x W L hI hL hV
                replace hI : (Touch (fun z => z = g ∨ (vs3 4).ownBlock = some z) w5 W ∧ (L 10 = false → CabM base g { c with e0 := l', f0 := LL } vs3 W) ∧ (L 10 = true → L 14 = false → CabG base g { c with e0 := l', f0 := LL, t0 := c.t0 ++ [f'] } vs3 (fun q => if q = 4 then x 10 else vs3 q) W) ∧ (L 10 = true → ∀ z, (x 10).ownBlock = some z → (vs3 4).ownBlock = some z ∨ w5.heap.size ≤ z) ∧ (L 14 = true → CabM base g { c with e0 := l', f0 := LL, t0 := c.t0 ++ [f'] } (fun q => if q = 4 then x 10 else vs3 q) W)) := ofI HIp hI
                rw [HV.out] at hV
                simp only [AllV, and_true] at hV
                dsimp only [fZm, fEm, List.reduceReplicate, List.cons_append, List.nil_append]
              iterate 4
                · clear hV
                  have HI := Lib.hid hI
                  clear hI
                  go_wp2_with fail
                  refine step3_done rfl ?_ ?_ ?_
                  · exact (toI HIp HI.out)
                  · exact (Below.refl _ _)
                  · exact (toV HV rfl)
              · have u2 := hV
                clear hV
                simp only [u2]
                clear u2
                have HI := Lib.hid hI
                clear hI
                go_wp2_with fail
                refine step3_done rfl ?_ ?_ ?_
                · exact (toI HIp HI.out)
                · exact (Below.refl _ _)
                · exact (toV HV rfl)
              · have u4 := hV
                clear hV
                simp only [u4]
                clear u4
                have HI := Lib.hid hI
                clear hI
                go_wp2_with fail
                refine step3_done rfl ?_ ?_ ?_
                · exact (toI HIp HI.out)
                · exact (Below.refl _ _)
                · exact (toV HV rfl)
              · obtain ⟨u3, u5⟩ := hV
                simp only [u3, u5]
                clear u3 u5
                have HI := Lib.hid hI
                clear hI
                go_wp2_with fail
                refine step3_done rfl ?_ ?_ ?_
                · exact (toI HIp HI.out)
                · exact (Below.refl _ _)
                · exact (toV HV rfl)
              · have u6 := hV
                clear hV
                simp only [u6]
                clear u6
                obtain ⟨_, _, _, _, _, _, _, _, bM, -⟩ := (hI.2.1 (hL.2 10 (by simp))).box
                obtain ⟨-, -, p10, p11, p12, p13, p14, p15⟩ := blk16_cells bM
                have HI := Lib.hid hI
                clear hI bM
                go_wp2_with fail
                refine step3_done rfl ?_ ?_ ?_
                · exact (toI HIp HI.out)
                · exact (Below.refl _ _)
                · exact (toV HV rfl)
              · clear hV
                obtain ⟨q0, q1, q2, q3, q4⟩ := blk_cells5 (XF5.out.touch hI.1 (fun h => by
                  rcases h with h | h
                  · exact hfF h
                  · exact HrowF.out 4 (by omega) h))
                have HI := Lib.hid hI
                clear hI
                go_wp2_with fail
                refine step3_done rfl ?_ ?_ ?_
                · exact (toI HIp HI.out)
                · exact (Below.refl _ _)
                · exact (toV HV rfl)
              · have u8 := hV
                clear hV
                simp only [u8]
                clear u8
                have HL := Lib.hid hL
                have HI := Lib.hid hI
                have hzW := hI.1.size
                clear hI hL
                go_wp2_with fail
                have uW : ∀ o, Below W.heap.size W (W.alloc o) := fun o => (Below.refl _ _).alloc (Nat.le_refl _) o
                refine step3_done rfl ?_ ?_ ?_
                · exact (toI HIp ⟨HI.out.1.below (uW _) hzW, (fun h => (HI.out.2.1 h).go (uW _)), (fun h => absurd ((HL.out.2 10 (by simp)).symm.trans h) (by simp)), (fun h => absurd ((HL.out.2 10 (by simp)).symm.trans h) (by simp)), (fun h => absurd ((HL.out.2 14 (by simp)).symm.trans h) (by simp))⟩)
                · exact (uW _)
                · exact (toV HV ⟨_, rfl, Blk.new _ _, hzW⟩)
              · obtain ⟨u7, ⟨g9, u9, b9, l9⟩⟩ := hV
                simp only [u7, u9]
                have U9 := Lib.hid u9
                clear u7 u9
                have hM := hI.2.1 (hL.2 10 (by simp))
                have HL := Lib.hid hL
                have HI := Lib.hid hI
                have HM10 := Lib.hid hM
                have B9 := Lib.hid b9
                have hz6 := hI.1.size
                have hbW : base ≤ W.heap.size := by omega
                have Hy : Hid (Rep.rd (fun z => z < W.heap.size ∧ ¬ OX base g vs3 4 z ∧ (vs3 4).ownBlock ≠ some z) W f' [.int .i64 f'.kind, .int .i64 f'.heard, .int .i64 f'.epoch, .slice fa f'.op.length fc, .string f'.text]) := by
                  refine ⟨fa, f'.op.length, fc, rfl, RF5.out.mono fun z hz => ?_, Hff.out⟩
                  obtain ⟨z1, z2, z3, z4⟩ := hz
                  refine ⟨⟨by omega, ?_, z4 4 (by omega)⟩, (hI.1.block z (by omega) (fun h => by
                    rcases h with h | h
                    · exact z3 h
                    · exact z4 4 (by omega) h))⟩
                  rintro (h | h | ⟨q, hq, -, h⟩)
                  · omega
                  · exact z3 h
                  · exact z4 q hq h
                clear hI hL b9 hM
                go_wp2_with (at_builtin; refine wpList_append_oneO rfl _ _ _ (by rfl) base 30 i0 _ 64 Tryd.underlying31 Hi.out Hz0.out Hz1.out Hz2.out rfl (vs3 4) c.t0 (by rfl) HM10.out.o4 g9 1 _ [.int .i64 f'.kind, .int .i64 f'.heard, .int .i64 f'.epoch, .slice fa f'.op.length fc, .string f'.text] f' (by rfl) B9.out Hy.out (by unfold maxLen; omega) (by omega) hbW ?_)
                intro g2 o2 cap w7 hown7 hgrow hat hlt7
                have HG2 := Lib.hid hgrow
                have hv7 : ∀ k, (Value.slice (some ⟨g2, o2, none⟩) (c.t0.length + 1) cap).ownBlock = some k → (vs3 4).ownBlock = some k ∨ W.heap.size ≤ k := fun k hk => by
                  have e : g2 = k := by simpa [Value.ownBlock] using hk
                  subst e
                  exact hat
                have HP := Lib.hid (HM10.out.grow4 hgrow hown7 hv7)
                have HV7 : Hid (∀ k, (Value.slice (some ⟨g2, o2, none⟩) (c.t0.length + 1) cap).ownBlock = some k → (vs3 4).ownBlock = some k ∨ w5.heap.size ≤ k) := fun k hk => by
                  rcases hv7 k hk with h | h
                  · exact .inl h
                  · exact .inr (by omega)
                have HT := Lib.hid (HI.out.1.grown hgrow (fun k hk => .inl (.inr hk)))
                clear hgrow hown7 hat HI HM10 B9 Hy hv7
                go_wp2_with fail
                refine step3_done rfl ?_ ?_ ?_
                · exact (toI HIp ⟨HT.out, (fun h => absurd h (by simp [setB])), (fun _ _ => HP.out), (fun _ => HV7.out), (fun h : L 14 = true => absurd ((HL.out.2 14 (by simp)).symm.trans h) (by simp))⟩)
                · exact HG2.out
                · exact (toV HV ⟨_, _, _, rfl⟩)
              · have u0 := hV
                clear hV
                simp only [u0]
                clear u0
                have HI := Lib.hid hI
                clear hI
                go_wp2_with fail
                refine step3_done rfl ?_ ?_ ?_
                · exact (toI HIp HI.out)
                · exact (Below.refl _ _)
                · exact (toV HV rfl)
              · have u11 := hV
                clear hV
                simp only [u11]
                clear u11
                have HI := Lib.hid hI
                clear hI
                go_wp2_with fail
                refine step3_done rfl ?_ ?_ ?_
                · exact (toI HIp HI.out)
                · exact (Below.refl _ _)
                · exact (toV HV rfl)
              · obtain ⟨u1, u12⟩ := hV
                simp only [u1, u12]
                clear u1 u12
                have HI := Lib.hid hI
                clear hI
                go_wp2_with fail
                refine step3_done rfl ?_ ?_ ?_
                · exact (toI HIp HI.out)
                · exact (Below.refl _ _)
                · exact (toV HV rfl)
              · obtain ⟨⟨g10, o10, c10, u10⟩, u13⟩ := hV
                simp only [u10, u13]
                have U10 := Lib.hid u10
                clear u10 u13
                have hM := hI.2.2.1 (hL.1 10 (by simp)) (hL.2 14 (by simp))
                have hV := hI.2.2.2.1 (hL.1 10 (by simp))
                rw [U10.out] at hM hV
                obtain ⟨_, _, _, _, _, _, _, _, bM, -⟩ := hM.box
                obtain ⟨-, -, p10, p11, p12, p13, p14, p15⟩ := blk16_cells bM
                have fW := bM.frozen
                have hlt := bM.lt
                have HL := Lib.hid hL
                have HI := Lib.hid hI
                have HM15 := Lib.hid hM
                have HV15 := Lib.hid hV
                clear hI hL hM bM hV
                go_wp2_with fail
                have ht := touch1 (w := W) (g := g) (i := 14) (.slice (some ⟨g10, o10, none⟩) (c.t0.length + 1) c10)
                have hq15 : CabM base g { c with e0 := l', f0 := LL, t0 := c.t0 ++ [f'] } (fun q => if q = 4 then x 10 else vs3 q) (W.setCell ⟨g, 14, none⟩ (.slice (some ⟨g10, o10, none⟩) (c.t0.length + 1) c10)) := by
                  rw [U10.out]
                  exact HM15.out.put ht (fun _ _ _ _ _ _ _ _ b => b.set 14 _)
                refine step3_done (v := undef) rfl ?_ ?_ ?_
                · exact (toI HIp ⟨HI.out.1.trans (ht.mono fun k _ hk => .inl hk), (fun h : L 10 = false => absurd ((HL.out.1 10 (by simp)).symm.trans h) (by simp)), (fun _ h => absurd h (by simp [setB])), (fun _ z hz => HV15.out z (by have hz' : (x 10).ownBlock = some z := hz; rw [U10.out] at hz'; exact hz')), (fun _ => hq15)⟩)
                · exact ht
                · exact (toV HV rfl)
            case fin =>
              intro x W L hL hI hV
              replace hI : (Touch (fun z => z = g ∨ (vs3 4).ownBlock = some z) w5 W ∧ (L 10 = false → CabM base g { c with e0 := l', f0 := LL } vs3 W) ∧ (L 10 = true → L 14 = false → CabG base g { c with e0 := l', f0 := LL, t0 := c.t0 ++ [f'] } vs3 (fun q => if q = 4 then x 10 else vs3 q) W) ∧ (L 10 = true → ∀ z, (x 10).ownBlock = some z → (vs3 4).ownBlock = some z ∨ w5.heap.size ≤ z) ∧ (L 14 = true → CabM base g { c with e0 := l', f0 := LL, t0 := c.t0 ++ [f'] } (fun q => if q = 4 then x 10 else vs3 q) W)) := ofI HIp hI
              rw [HV.out] at hV
              simp only [AllV, and_true] at hV
              obtain ⟨u0, u1, u2, u3, u4, u5, u6, u7, u8, ⟨g10, o10, c10, u10⟩, u11, u12, u13, u14⟩ := hV
              simp only [getsD, List.getD_cons_succ, List.getD_cons_zero, List.length_cons, List.length_nil, List.range, List.range.loop, u0, u1, u2, u3, u4, u5, u6, u7, u8, u10, u11, u12, u13, u14, Act.put, List.setIfInBounds_toArray, List.set_cons_succ, List.set_cons_zero]
              clear u0 u1 u2 u3 u4 u5 u6 u7 u8 u10 u11 u12 u13 u14
              have hM6 := hI.2.2.2.2 (hL 14 (by simp))
              have hV6 := hI.2.2.2.1 (hL 10 (by simp))
              have hT := hI.1
              obtain ⟨vs5, hvs5⟩ : ∃ vs5, vs5 = (fun q => if q = 4 then x 10 else vs3 q) := ⟨_, rfl⟩
              rw [← hvs5] at hM6
              have M6 := Lib.hid hM6
              have hm6 : ∀ z, Free base g vs3 w5 z → Free base g vs5 W z ∧ W.heap[z]? = w5.heap[z]? := fun z hz => by
                obtain ⟨z1, z2, z3, z4⟩ := hz
                refine ⟨⟨z1, Nat.lt_of_lt_of_le z2 hT.size, z3, fun q hq e => ?_⟩, hT.block z z2 (fun h => by
                  rcases h with h | h
                  · exact z3 h
                  · exact z4 4 (by omega) h)⟩
                rw [hvs5] at e
                by_cases e' : q = 4
                · simp only [if_pos e'] at e
                  rcases hV6 z e with h | h
                  · exact z4 4 (by omega) h
                  · omega
                · simp only [if_neg e'] at e
                  exact z4 q hq e
              have RP6 := Lib.hid (RP5.out.mono hm6)
              have B6 : Hid (Below base w W) := B5.out.trans (hT.toBelow (by omega) (fun k hk => by
                rcases hk with hk | hk
                · omega
                · exact (Hrow3.out 4 (by omega) k hk).1))
              clear hI hL hT hM6 hV6 hm6 hvs5 M5 RP5 RF5 XF5 B5
              have G : ∃ vs5, CabM base g ({ c with e0 := l', f0 := LL, t0 := TT } : Cb) vs5 W ∧ RdS (Free base g vs5 W) W ps pa ps.length pc ∧ Below base w W := ⟨vs5, (by rw [show TT = c.t0 ++ [f'] from HTT.out]; exact M6.out), RP6.out, B6.out⟩
              have HG' := Lib.hid G
              clear G M6 RP6 B6
              go_wp2_with fail
              go_meet
              case rel => exact HG'.out
        case rest =>
          obtain ⟨vs5, m6, rp6, b6⟩ := hcut
          obtain ⟨w6, rfl⟩ : ∃ x : World, x = wc := ⟨_, rfl⟩
          have M6 := Lib.hid m6
          have RP6 := Lib.hid rp6
          have B6 := Lib.hid b6
          have hg6 := m6.lt
          have hbw6 : base ≤ w6.heap.size := by have := m6.gb; omega
          have hrb : ∀ z, (vs5 1).ownBlock = some z → base ≤ z := fun z hz => (m6.o1.rowlt z hz).1
          have Hrb := Lib.hid hrb
          obtain ⟨va, vn, hvj, hvc, hvm, -⟩ := m6.o1.form
          have Hvj := Lib.hid hvj
          have hvn : va = none → vn = 0 := by
            intro e
            rcases m6.o1.row with ⟨a', hv, -, -⟩ | ⟨q, o, cap, hv, -⟩
            · rw [hvj] at hv; injection hv
            · rw [hvj] at hv; injection hv with e1; rw [e] at e1; cases e1
          clear hvj hrb m6 rp6 b6 M5 RP5 RF5 XF5 B5
          go_wp2_with fail
          obtain ⟨Vp, HV⟩ : ∃ Vp : Nat → Value → World → Prop, Hid (Vp = fun i v W => match i with
              | 0 => v = .pointer (some ⟨g, 0, none⟩)
              | 1 => v = .int .i64 0
              | 2 => v = .int .i64 1
              | 3 => v = .pointer (some ⟨g, 0, none⟩)
              | 4 => v = .int .i64 0
              | 5 => v = .int .i64 1
              | 6 => v = .pointer (some ⟨g, 0, none⟩)
              | 7 => v = .pointer (some ⟨g, 10, none⟩)
              | 8 => v = .pointer (some ⟨g, 11, none⟩)
              | 9 => v = vs5 1
              | 10 => v = .slice pa ps.length pc
              | 11 => ∃ a n c, v = .slice a n c
              | 12 => v = .pointer (some ⟨g, 0, none⟩)
              | 13 => v = .pointer (some ⟨g, 10, none⟩)
              | 14 => v = .pointer (some ⟨g, 11, none⟩)
              | _ => v = undef) := ⟨_, rfl⟩
          obtain ⟨Ip, HIp⟩ : ∃ Ip : (Nat → Bool) → (Nat → Value) → World → Prop, Hid (Ip = fun L x W => (Touch (fun z => z = g ∨ (vs5 1).ownBlock = some z) w6 W ∧ (L 11 = false → CabM base g { c with e0 := l', f0 := LL, t0 := TT } vs5 W) ∧ (L 11 = true → L 15 = false → CabG base g { c with e0 := l', f0 := LL, f1 := c.f1 ++ ps, t0 := TT } vs5 (fun q => if q = 1 then x 11 else vs5 q) W) ∧ (L 15 = true → ∃ vs', CabM base g { c with e0 := l', f0 := LL, f1 := c.f1 ++ ps, t0 := TT } vs' W))) := ⟨_, rfl⟩
          refine region_lit3 (by kernel_rfl) (by kernel_rfl) (by kernel_rfl) [[], [], [1], [], [], [4], [3], [3, 6], [3, 4, 5, 6, 7], [3, 4, 5, 6, 7, 8], [], [3, 4, 5, 6, 7, 8, 9, 10], [0], [0, 12], [0, 1, 2, 12, 13], [0, 1, 2, 3, 4, 5, 6, 7, 8, 9, 10, 11, 12, 13, 14]] (by kernel_rfl) [some 85, some 86, some 87, some 88, some 89, some 90, some 91, some 92, some 93, some 94, some 95, some 96, some 97, some 98, some 99, none] (by kernel_rfl) [[0, 12, 13, 14, 15], [1, 2, 14, 15], [2, 14, 15], [3, 6, 7, 8, 9, 11, 15], [4, 5, 8, 9, 11, 15], [5, 8, 9, 11, 15], [6, 7, 8, 9, 11, 15], [7, 8, 9, 11, 15], [8, 9, 11, 15], [9, 11, 15], [10, 11, 15], [11, 15], [12, 13, 14, 15], [13, 14, 15], [14, 15], [15]] (by kernel_rfl) [[], [], [], [], [], [], [], [], [], [], [], [], [], [], [], []] [[], [], [1], [], [], [4], [3], [6], [5, 7], [8], [], [9, 10], [0], [12], [2, 13], [11, 14]] (by kernel_rfl)
            Ip
            Vp
            (fun j W W' => match j with
              | 11 => W.grownBy W' (vs5 1).ownBlock
              | 15 => Touch (fun z => z = g) W W'
              | _ => Below W.heap.size W W')
            [fun x => ⟨(fZm 0 (.pointer (some ⟨g, 0, none⟩)) (fEm 85)).toArray, []⟩,
   fun x => ⟨(fZm 1 (.int .i64 0) (fEm 85)).toArray, []⟩,
   fun x => ⟨(fZm 86 (x 1) (fEm 1)).toArray, []⟩,
   fun x => ⟨(fZm 0 (.pointer (some ⟨g, 0, none⟩)) (fEm 88)).toArray, []⟩,
   fun x => ⟨(fZm 1 (.int .i64 0) (fEm 88)).toArray, []⟩,
   fun x => ⟨(fZm 89 (x 4) (fEm 1)).toArray, []⟩,
   fun x => ⟨(fZm 88 (x 3) (fEm 3)).toArray, []⟩,
   fun x => ⟨(fZm 91 (x 6) (fEm 1)).toArray, []⟩,
   fun x => ⟨(fZm 90 (x 5) (fZm 1 (x 7) (fEm 1))).toArray, []⟩,
   fun x => ⟨(fZm 93 (x 8) (fEm 1)).toArray, []⟩,
   fun x => ⟨(fZm 15 (.slice pa ps.length pc) (fEm 80)).toArray, []⟩,
   fun x => ⟨(fZm 94 (x 9) (fZm 0 (x 10) (fEm 1))).toArray, []⟩,
   fun x => ⟨(fZm 85 (x 0) (fEm 12)).toArray, []⟩,
   fun x => ⟨(fZm 97 (x 12) (fEm 1)).toArray, []⟩,
   fun x => ⟨(fZm 87 (x 2) (fZm 10 (x 13) (fEm 1))).toArray, []⟩,
   fun x => ⟨(fZm 96 (x 11) (fZm 2 (x 14) [])).toArray, []⟩]
            ?hF ?mono ?h0 ?step [0, 1, 2, 3, 4, 5, 6, 7, 8, 9, 10, 11, 12, 13, 14, 15] (by kernel_rfl) ?fin
          case hF =>
            iterate 16 refine ⟨fun x => ⟨by kernel_rfl, by kernel_rfl⟩, ?_⟩
            trivial
          case mono =>
            intro i j hi hj hne hna hnk v W W' hE hv
            rw [HV.out] at hv ⊢
            simp only [List.length_cons, List.length_nil] at hi hj
            match i, hi with
            | 0, _ | 1, _ | 2, _ | 3, _ | 4, _ | 5, _ | 6, _ | 7, _ | 8, _ | 9, _ | 10, _ | 12, _ | 13, _ | 14, _ | 15, _ => exact hv
            | 11, _ =>
              match j, hj with
              | 11, _ => exact absurd rfl hne
              | 3, _ | 4, _ | 5, _ | 6, _ | 7, _ | 8, _ | 9, _ | 10, _ => exact absurd (by simp) hna
              | 0, _ | 1, _ | 2, _ | 12, _ | 13, _ | 14, _ | 15, _ => exact (id hv)
              | m + 16, h => exact absurd h (by omega)
            | m + 16, h => exact absurd h (by omega)
          case h0 => intro x; exact toI HIp ⟨(Touch.refl _ _).drew, (fun _ => M6.out.go (Below.refl _ _).drew), (fun h => by cases h), (fun h => by cases h)⟩
          case step =>
            refine ⟨?_, ?_, ?_, ?_, ?_, ?_, ?_, ?_, ?_, ?_, ?_, ?_, ?_, ?_, ?_, ?_, trivial⟩
            all_goals
              intro x W L hI hL hV
              replace hI : (Touch (fun z => z = g ∨ (vs5 1).ownBlock = some z) w6 W ∧ (L 11 = false → CabM base g { c with e0 := l', f0 := LL, t0 := TT } vs5 W) ∧ (L 11 = true → L 15 = false → CabG base g { c with e0 := l', f0 := LL, f1 := c.f1 ++ ps, t0 := TT } vs5 (fun q => if q = 1 then x 11 else vs5 q) W) ∧ (L 15 = true → ∃ vs', CabM base g { c with e0 := l', f0 := LL, f1 := c.f1 ++ ps, t0 := TT } vs' W)) := ofI HIp hI
              rw [HV.out] at hV
              simp only [AllV, and_true] at hV
              dsimp only [fZm, fEm, List.reduceReplicate, List.cons_append, List.nil_append]
            · clear hV
              have HI := Lib.hid hI
              clear hI
              go_wp2_with fail
              refine step3_done rfl ?_ ?_ ?_
              · exact (toI HIp HI.out)
              · exact (Below.refl _ _)
              · exact (toV HV rfl)
            · clear hV
              have HI := Lib.hid hI
              clear hI
              go_wp2_with fail
              refine step3_done rfl ?_ ?_ ?_
              · exact (toI HIp HI.out)
              · exact (Below.refl _ _)
              · exact (toV HV rfl)
            · have u1 := hV
              clear hV
              simp only [u1]
              clear u1
              have HI := Lib.hid hI
              clear hI
              go_wp2_with fail
              refine step3_done rfl ?_ ?_ ?_
              · exact (toI HIp HI.out)
              · exact (Below.refl _ _)
              · exact (toV HV rfl)
            · clear hV
              have HI := Lib.hid hI
              clear hI
              go_wp2_with fail
              refine step3_done rfl ?_ ?_ ?_
              · exact (toI HIp HI.out)
              · exact (Below.refl _ _)
              · exact (toV HV rfl)
            · clear hV
              have HI := Lib.hid hI
              clear hI
              go_wp2_with fail
              refine step3_done rfl ?_ ?_ ?_
              · exact (toI HIp HI.out)
              · exact (Below.refl _ _)
              · exact (toV HV rfl)
            · have u4 := hV
              clear hV
              simp only [u4]
              clear u4
              have HI := Lib.hid hI
              clear hI
              go_wp2_with fail
              refine step3_done rfl ?_ ?_ ?_
              · exact (toI HIp HI.out)
              · exact (Below.refl _ _)
              · exact (toV HV rfl)
            · have u3 := hV
              clear hV
              simp only [u3]
              clear u3
              have HI := Lib.hid hI
              clear hI
              go_wp2_with fail
              refine step3_done rfl ?_ ?_ ?_
              · exact (toI HIp HI.out)
              · exact (Below.refl _ _)
              · exact (toV HV rfl)
            · have u6 := hV
              clear hV
              simp only [u6]
              clear u6
              have HI := Lib.hid hI
              clear hI
              go_wp2_with fail
              refine step3_done rfl ?_ ?_ ?_
              · exact (toI HIp HI.out)
              · exact (Below.refl _ _)
              · exact (toV HV rfl)
            · obtain ⟨u5, u7⟩ := hV
              simp only [u5, u7]
              clear u5 u7
              have HI := Lib.hid hI
              clear hI
              go_wp2_with fail
              refine step3_done rfl ?_ ?_ ?_
              · exact (toI HIp HI.out)
              · exact (Below.refl _ _)
              · exact (toV HV rfl)
            · have u8 := hV
              clear hV
              simp only [u8]
              clear u8
              obtain ⟨_, _, _, _, _, _, _, _, bM, -⟩ := (hI.2.1 (hL.2 11 (by simp))).box
              obtain ⟨-, -, p10, p11, p12, p13, p14, p15⟩ := blk16_cells bM
              have HI := Lib.hid hI
              clear hI bM
              go_wp2_with fail
              refine step3_done rfl ?_ ?_ ?_
              · exact (toI HIp HI.out)
              · exact (Below.refl _ _)
              · exact (toV HV rfl)
            · clear hV
              have HI := Lib.hid hI
              clear hI
              go_wp2_with fail
              refine step3_done rfl ?_ ?_ ?_
              · exact (toI HIp HI.out)
              · exact (Below.refl _ _)
              · exact (toV HV rfl)
            · obtain ⟨u9, u10⟩ := hV
              simp only [u9, u10]
              clear u9 u10
              have hM := hI.2.1 (hL.2 11 (by simp))
              have HL := Lib.hid hL
              have HI := Lib.hid hI
              have HM11 := Lib.hid hM
              have hz6 := hI.1.size
              have hbW : base ≤ W.heap.size := by omega
              by_cases hps0 : ps.length = 0
              · have Hps := Lib.hid hps0
                rw [hps0]
                clear hI hL hM hps0
                go_wp2_with (at_builtin; refine wpList_append_zero rfl _ _ _ (by rfl) 45 k0 Tryd.underlying35 Gi.out va c.f1.length vn (by exact Hvj.out) hvc hvn pa pc (by rfl) ?_)
                have HP : CabG base g { c with e0 := l', f0 := LL, f1 := c.f1 ++ ps, t0 := TT } vs5 (fun q => if q = 1 then vs5 1 else vs5 q) W := by
                  have e1 : ps = [] := List.eq_nil_of_length_eq_zero Hps.out
                  rw [e1, List.append_nil, upd_same]
                  exact HM11.out
                rw [Hvj.out] at HP
                have HP' := Lib.hid HP
                clear HP
                go_wp2_with fail
                refine step3_done rfl ?_ ?_ ?_
                · exact (toI HIp ⟨HI.out.1, (fun h => absurd h (by simp [setB])), (fun _ _ => HP'.out), (fun h : L 15 = true => absurd ((HL.out.2 15 (by simp)).symm.trans h) (by simp))⟩)
                · exact ⟨rfl, rfl, rfl, Nat.le_refl _, fun _ _ _ => rfl⟩
                · exact (toV HV ⟨_, _, _, rfl⟩)
              · obtain ⟨pg, po, hpa, hpA, hpb, hpe⟩ := RP6.out.2.2.2.2 (by omega)
                subst hpa
                have hE : Elems (fun b => b < W.heap.size ∧ ¬ OX base g vs5 1 b ∧ (vs5 1).ownBlock ≠ some b) W pg po ps := hpe.imp (hI.1.block pg hpb (fun h => by
                  rcases h with h | h
                  · exact hpA.2.2.1 h
                  · exact hpA.2.2.2 1 (by omega) h)) (fun b hb => by
                  obtain ⟨hb1, hb2, hb3, hb4⟩ := hb
                  refine ⟨⟨by omega, ?_, hb4 1 (by omega)⟩, hI.1.block b hb2 (fun h => by
                    rcases h with h | h
                    · exact hb3 h
                    · exact hb4 1 (by omega) h)⟩
                  rintro (h | h | ⟨q, hq, -, h⟩)
                  · omega
                  · exact hb3 h
                  · exact hb4 q hq h)
                have HE := Lib.hid hE
                clear hI hL hM hE hpe
                go_wp2_with (at_builtin; refine wpList_append_manyO rfl _ _ _ (by rfl) base 45 k0 _ 96 Tryd.underlying35 Gi.out Gz0.out Gz1.out Gz2.out rfl (vs5 1) c.f1 ps (by rfl) HM11.out.o1 pg po pc (by rfl) HE.out (by omega) (by unfold maxLen; omega) (by omega) hbW ?_)
                intro g2 o2 cap w7 hown7 hgrow hat hlt7
                have hv7 : ∀ k, (Value.slice (some ⟨g2, o2, none⟩) (c.f1.length + ps.length) cap).ownBlock = some k → (vs5 1).ownBlock = some k ∨ W.heap.size ≤ k := fun k hk => by
                  have e : g2 = k := by simpa [Value.ownBlock] using hk
                  subst e
                  exact hat
                have HG := Lib.hid hgrow
                have HP := Lib.hid (HM11.out.grow1 hgrow hown7 hv7)
                have HT := Lib.hid (HI.out.1.grown hgrow (fun k hk => .inl (.inr hk)))
                clear hgrow hown7 hat HI HM11 HE hv7
                go_wp2_with fail
                refine step3_done rfl ?_ ?_ ?_
                · exact (toI HIp ⟨HT.out, (fun h => absurd h (by simp [setB])), (fun _ _ => HP.out), (fun h : L 15 = true => absurd ((HL.out.2 15 (by simp)).symm.trans h) (by simp))⟩)
                · exact HG.out
                · exact (toV HV ⟨_, _, _, rfl⟩)
            · have u0 := hV
              clear hV
              simp only [u0]
              clear u0
              have HI := Lib.hid hI
              clear hI
              go_wp2_with fail
              refine step3_done rfl ?_ ?_ ?_
              · exact (toI HIp HI.out)
              · exact (Below.refl _ _)
              · exact (toV HV rfl)
            · have u12 := hV
              clear hV
              simp only [u12]
              clear u12
              have HI := Lib.hid hI
              clear hI
              go_wp2_with fail
              refine step3_done rfl ?_ ?_ ?_
              · exact (toI HIp HI.out)
              · exact (Below.refl _ _)
              · exact (toV HV rfl)
            · obtain ⟨u2, u13⟩ := hV
              simp only [u2, u13]
              clear u2 u13
              have HI := Lib.hid hI
              clear hI
              go_wp2_with fail
              refine step3_done rfl ?_ ?_ ?_
              · exact (toI HIp HI.out)
              · exact (Below.refl _ _)
              · exact (toV HV rfl)
            · obtain ⟨⟨a11, n11, c11, u11⟩, u14⟩ := hV
              simp only [u11, u14]
              have U11 := Lib.hid u11
              clear u11 u14
              have hM := hI.2.2.1 (hL.1 11 (by simp)) (hL.2 15 (by simp))
              rw [U11.out] at hM
              obtain ⟨_, _, _, _, _, _, _, _, bM, -⟩ := hM.box
              obtain ⟨-, -, p10, p11, p12, p13, p14, p15⟩ := blk16_cells bM
              have fW := bM.frozen
              have hlt := bM.lt
              have HL := Lib.hid hL
              have HI := Lib.hid hI
              have HM15 := Lib.hid hM
              clear hI hL hM bM
              go_wp2_with fail
              have ht := touch1 (w := W) (g := g) (i := 11) (.slice a11 n11 c11)
              refine step3_done (v := undef) rfl ?_ ?_ ?_
              · exact (toI HIp ⟨HI.out.1.trans (ht.mono fun k _ hk => .inl hk), (fun h : L 11 = false => absurd ((HL.out.1 11 (by simp)).symm.trans h) (by simp)), (fun _ h => absurd h (by simp [setB])), (fun _ => ⟨_, HM15.out.put ht (fun _ _ _ _ _ _ _ _ b => b.set 11 _)⟩)⟩)
              · exact ht
              · exact (toV HV rfl)
          case fin =>
            intro x W L hL hI hV
            replace hI : (Touch (fun z => z = g ∨ (vs5 1).ownBlock = some z) w6 W ∧ (L 11 = false → CabM base g { c with e0 := l', f0 := LL, t0 := TT } vs5 W) ∧ (L 11 = true → L 15 = false → CabG base g { c with e0 := l', f0 := LL, f1 := c.f1 ++ ps, t0 := TT } vs5 (fun q => if q = 1 then x 11 else vs5 q) W) ∧ (L 15 = true → ∃ vs', CabM base g { c with e0 := l', f0 := LL, f1 := c.f1 ++ ps, t0 := TT } vs' W)) := ofI HIp hI
            rw [HV.out] at hV
            simp only [AllV, and_true] at hV
            obtain ⟨u0, u1, u2, u3, u4, u5, u6, u7, u8, u9, u10, ⟨a11, n11, c11, u11⟩, u12, u13, u14, u15⟩ := hV
            simp only [getsD, List.getD_cons_succ, List.getD_cons_zero, List.length_cons, List.length_nil, List.range, List.range.loop, u0, u1, u2, u3, u4, u5, u6, u7, u8, u9, u10, u11, u12, u13, u14, u15, Act.put, List.setIfInBounds_toArray, List.set_cons_succ, List.set_cons_zero]
            clear u0 u1 u2 u3 u4 u5 u6 u7 u8 u9 u10 u11 u12 u13 u14 u15
            obtain ⟨vs7, hM7⟩ := hI.2.2.2 (hL 15 (by simp))
            have hT := hI.1
            have M7 := Lib.hid hM7
            have B7 : Hid (Below base w W) := B6.out.trans (hT.toBelow hbw6 (fun k hk => by
              rcases hk with hk | hk
              · omega
              · exact Hrb.out k hk))
            clear hI hL hT hM7 M6 B6 RP6
            go_wp2_with fail
            go_ret
            exact ⟨rfl, ⟨vs7, M7.out⟩, B7.out⟩
end Go.Proofs.YtkhacogeffidoaaDoor
