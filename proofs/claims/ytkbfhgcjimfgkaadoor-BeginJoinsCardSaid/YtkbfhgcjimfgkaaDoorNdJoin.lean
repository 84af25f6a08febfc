/- The walk of (*node.work).join. -/
import Derived.Test.YtkbfhgcjimfgkaaDoorNdSend
set_option linter.unusedVariables false
set_option linter.unusedSimpArgs false
namespace Go.Proofs.YtkbfhgcjimfgkaaDoor
open Go.RowKit

def Tn.joinFr (t : Tn) : Fr := ⟨2, t.node.up, t.node.epoch, [], noText⟩
def Tn.relink (t : Tn) : Tn := t.setSide 0 { t.side 0 with l := openLk t.node.epoch }
def Tn.join (t : Tn) : Tn := t.relink.send 0 t.joinFr
theorem openLk_fits (ep : Int) : (openLk ep).fits := by
  unfold openLk
  split
  · exact ⟨by unfold I64; decide, by unfold I64; decide, by unfold I64; decide⟩
  · exact ⟨by unfold I64; simp only; omega, by unfold I64; simp, by unfold I64; simp⟩
theorem openLk_nil (ep : Int) : (openLk ep).sent = [] ∧ (openLk ep).queue = [] ∧ (openLk ep).heard = 0 := by
  unfold openLk; split <;> exact ⟨rfl, rfl, rfl⟩
theorem side_setSide {t : Tn} {s : Nat} {y : Sd} (hs : s < t.node.sides.length) : (t.setSide s y).side s = y := by
  unfold Tn.side Tn.setSide
  simp only [List.getD_eq_getElem?_getD]
  rw [List.getElem?_set_self hs]
  rfl
set_option maxRecDepth 100000 in
set_option maxHeartbeats 8000000 in
theorem ndJoin_any (base g : Nat) (t : Tn) (vs : Nat → Value) (w : World) (hg : Good w) (h : WkM base g t vs w) (hs : 0 < t.node.sides.length) (hn : t.posts.length ≤ 1000000) :
    Calls Tryd.prog 28 #[.pointer (some ⟨g, 0, none⟩)] w fun e w' => e = .returned (.tuple #[]) ∧ WkS base g t.join vs w w' := by
  have HM := Lib.hid h
  have Hg := Lib.hid hg
  obtain ⟨sr, so, sc, sxs, hv0, hsr1, hsr2, hsr3, hsr4, hsr5, hsr6, hsr7, hsr8⟩ := h.side 0 hs
  have hft := h.fit
  have HO := Lib.hid (fun W => open_any t.node.epoch W hft.2.1)
  obtain ⟨on1, on2, on3⟩ := openLk_nil t.node.epoch
  have hof := openLk_fits t.node.epoch
  have HNP := Lib.hid (fun W => node_ptr g W)
  have HV0 := Lib.hid hv0
  have Hmine := Lib.hid h.mine
  have hsI2 : (0 : Int) < (t.node.sides.length : Int) := by omega
  have hsI : (0 : Int) < (sc : Int) := by omega
  have hsc : (sc : Int) ≤ 9223372036854775807 := by unfold maxLen at hsr5; omega
  have hRel : t.relink = t.setSide 0 { t.side 0 with l := openLk t.node.epoch } := rfl
  have HSd := Lib.hid (fun (W : World) (vs' : Nat → Value) (hW : Good W) (hM : WkM base g t.relink vs' W) => ndSend_any base g t.relink vs' 0 t.joinFr none 0 W hW hM (by rw [hRel, len_setSide]; exact hs) (RdS.nil _ _) ⟨by show I64 2; unfold I64; decide, hft.2.2.1, hft.2.1, by show noText.size ≤ strMax; rw [noText_size]; unfold strMax; omega⟩ hn (by rw [hRel, side_setSide hs]; simp only; rw [on2]; simp))
  generalize hlk : openLk t.node.epoch = lk at *
  have Hof := Lib.hid hof
  have Hon := Lib.hid (And.intro on1 (And.intro on2 on3))
  have HRel := Lib.hid hRel
  have hxs : ∀ j v, sxs[j]? = some v → w.cell? ⟨sr, so + j, none⟩ = some v := fun j v hj => by have := hsr7 j v hj; simpa using this
  have hlen := Rep.len hsr6
  have Hcl : Hid (∀ j, j < 10 → (w.cell? ⟨sr, so + j, none⟩).isSome = true) := fun j hj => by
    have h10 : j < sxs.length := by rw [hlen]; exact hj
    rw [hxs j sxs[j] (List.getElem?_eq_getElem h10)]; rfl
  have HFr := Lib.hid (fun j (hj : j < sc * 10) => hsr8 j hj)
  have bx := h.box
  obtain ⟨-, p1, p2, -, -, p5, -⟩ := blk10_cells bx
  rw [HV0.out] at p5
  have Hepo := Lib.hid hft
  clear hsr6 hsr7 hsr8 hxs hlen hof on1 on2 on3 hRel hft hv0 h hg hn bx hlk
  generalize hNS : t.node.sides.length = NS at *
  have HNS := Lib.hid hNS
  clear hNS
  go_enter Tryd.func28, Tryd.ntmps28
  go_wp2_with fail
  refine (HNP.out w).mono ?_
  rintro e W' ⟨rfl, rfl⟩
  go_wp2_with fail
  refine (HO.out w).mono ?_
  rintro e w1 ⟨rfl, b1⟩
  have B1 := Lib.hid b1
  clear b1
  go_wp2_with fail
  refine abs_w (fun W => Below w1.heap.size w1 W ∧ Blk w1.heap.size (.cells #[.int .i64 lk.epoch, .int .i64 lk.next, .slice none 0 0, .slice none 0 0, .int .i64 0] 70 (0, 0)) W) ⟨(Below.refl _ _).alloc (Nat.le_refl _) _, Blk.new w1 _⟩ ?_
  rintro w2 ⟨b2, x2⟩
  have B2 := Lib.hid (up B1.out b2)
  have X2 := Lib.hid x2
  have M2 := Lib.hid (HM.out.go B2.out)
  have hz1 := B1.out.size
  have hz2 := B2.out.size
  clear b2 x2 p1 p2 p5
  obtain ⟨Vp, HV⟩ : ∃ Vp : Nat → Value → World → Prop, Hid (Vp = fun i v W => match i with
      | 0 => v = .pointer (some ⟨g, 0, none⟩)
      | 1 => v = .pointer (some ⟨g, 0, none⟩)
      | 2 => v = .pointer (some ⟨g, 5, none⟩)
      | 3 => v = .slice (some ⟨sr, so, none⟩) NS sc
      | 4 => v = .agg #[.int .i64 lk.epoch, .int .i64 lk.next, .slice none 0 0, .slice none 0 0, .int .i64 0]
      | 5 => v = .pointer (some ⟨sr, so, none⟩)
      | 6 => v = .pointer (some ⟨sr, so + 5, none⟩)
      | _ => v = undef) := ⟨_, rfl⟩
  obtain ⟨Ip, HIp⟩ : ∃ Ip : (Nat → Bool) → (Nat → Value) → World → Prop, Hid (Ip = fun L x W => (Touch (Mine g vs) w2 W ∧ (L 7 = false → WkM base g t vs W ∧ W.heap[sr]? = w2.heap[sr]?) ∧ (L 7 = true → WkM base g t.relink vs W))) := ⟨_, rfl⟩
  refine region_lit3 (by kernel_rfl) (by kernel_rfl) (by kernel_rfl) [[], [0], [0, 1], [0, 1, 2], [], [0, 1, 2, 3], [0, 1, 2, 3, 5], [0, 1, 2, 3, 4, 5, 6]] (by kernel_rfl) [some 15, some 16, some 17, some 18, some 19, some 20, some 21, none] (by kernel_rfl) [[0, 1, 2, 3, 5, 6, 7], [1, 2, 3, 5, 6, 7], [2, 3, 5, 6, 7], [3, 5, 6, 7], [4, 7], [5, 6, 7], [6, 7], [7]] (by kernel_rfl) [[], [], [], [], [], [], [], []] [[], [0], [1], [2], [], [3], [5], [4, 6]] (by kernel_rfl)
    Ip
    Vp
    (fun j W W' => match j with
      | 7 => Touch (Mine g vs) W W'
      | _ => Below W.heap.size W W')
    [fun x => ⟨(fZm 2 (.pointer (some ⟨g, 0, none⟩)) (fEm 13)).toArray, []⟩,
   fun x => ⟨(fZm 15 (x 0) (fEm 1)).toArray, []⟩,
   fun x => ⟨(fZm 16 (x 1) (fEm 1)).toArray, []⟩,
   fun x => ⟨(fZm 17 (x 2) (fEm 1)).toArray, []⟩,
   fun x => ⟨(fZm 3 (.pointer (some ⟨w1.heap.size, 0, none⟩)) (fEm 16)).toArray, []⟩,
   fun x => ⟨(fZm 18 (x 3) (fEm 2)).toArray, []⟩,
   fun x => ⟨(fZm 20 (x 5) (fEm 1)).toArray, []⟩,
   fun x => ⟨(fZm 19 (x 4) (fZm 1 (x 6) [])).toArray, []⟩]
    ?hF ?mono ?h0 ?step [0, 1, 2, 3, 4, 5, 6, 7] (by kernel_rfl) ?fin
  case hF =>
    iterate 8 refine ⟨fun x => ⟨by kernel_rfl, by kernel_rfl⟩, ?_⟩
    trivial
  case mono =>
    intro i j hi hj hne hna hnk v W W' hE hv
    rw [HV.out] at hv ⊢
    simp only [List.length_cons, List.length_nil] at hi hj
    match i, hi with
    | 0, _ | 1, _ | 2, _ | 3, _ | 4, _ | 5, _ | 6, _ | 7, _ => exact hv
    | m + 8, h => exact absurd h (by omega)
  case h0 => intro x; exact toI HIp ⟨(Touch.refl _ _).drew, (fun _ => ⟨M2.out.go (Below.refl _ _).drew, rfl⟩), (fun h => by cases h)⟩
  case step =>
    refine ⟨?_, ?_, ?_, ?_, ?_, ?_, ?_, ?_, trivial⟩
    all_goals
      intro x W L hI hL hV
      replace hI : (Touch (Mine g vs) w2 W ∧ (L 7 = false → WkM base g t vs W ∧ W.heap[sr]? = w2.heap[sr]?) ∧ (L 7 = true → WkM base g t.relink vs W)) := ofI HIp hI
      rw [HV.out] at hV
      simp only [AllV, and_true] at hV
      dsimp only [fZm, fEm, List.reduceReplicate, List.cons_append, List.nil_append]
    · clear hV
      have HI := Lib.hid hI
      clear hI
      go_wp2_with fail
      refine step3_done rfl ?_ ?_ ?_
      · exact (toI HIp HI.out)
      · exact (Below.refl _ _)
      · exact (toV HV rfl)
    · have u0 := hV
      clear hV
      simp only [u0]
      clear u0
      have HI := Lib.hid hI
      clear hI
      go_wp2_with fail
      refine step3_done rfl ?_ ?_ ?_
      · exact (toI HIp HI.out)
      · exact (Below.refl _ _)
      · exact (toV HV rfl)
    · have u1 := hV
      clear hV
      simp only [u1]
      clear u1
      have HI := Lib.hid hI
      clear hI
      go_wp2_with fail
      refine step3_done rfl ?_ ?_ ?_
      · exact (toI HIp HI.out)
      · exact (Below.refl _ _)
      · exact (toV HV rfl)
    · have u2 := hV
      clear hV
      simp only [u2]
      clear u2
      obtain ⟨-, -, -, -, -, p5, -⟩ := blk10_cells (hI.2.1 (hL.2 7 (by simp))).1.box
      rw [HV0.out] at p5
      have HI := Lib.hid hI
      clear hI
      go_wp2_with fail
      refine step3_done rfl ?_ ?_ ?_
      · exact (toI HIp HI.out)
      · exact (Below.refl _ _)
      · exact (toV HV rfl)
    · clear hV
      obtain ⟨q0, q1, q2, q3, q4⟩ := blk_cells5 (X2.out.touch hI.1 (fun h => by have := (Hmine.out _ h).2; omega))
      have HI := Lib.hid hI
      clear hI
      go_wp2_with fail
      refine step3_done rfl ?_ ?_ ?_
      · exact (toI HIp HI.out)
      · exact (Below.refl _ _)
      · exact (toV HV rfl)
    · have u3 := hV
      clear hV
      simp only [u3]
      clear u3
      have HI := Lib.hid hI
      clear hI
      go_wp2_with fail
      refine step3_done rfl ?_ ?_ ?_
      · exact (toI HIp HI.out)
      · exact (Below.refl _ _)
      · exact (toV HV rfl)
    · have u5 := hV
      clear hV
      simp only [u5]
      clear u5
      have HI := Lib.hid hI
      clear hI
      go_wp2_with fail
      refine step3_done rfl ?_ ?_ ?_
      · exact (toI HIp HI.out)
      · exact (Below.refl _ _)
      · exact (toV HV rfl)
    · obtain ⟨u4, u6⟩ := hV
      simp only [u4, u6]
      clear u4 u6
      have hM := (hI.2.1 (hL.2 7 (by simp))).1
      have hrw : W.heap[sr]? = w.heap[sr]? := (hI.2.1 (hL.2 7 (by simp))).2.trans (B2.out.block sr hsr2)
      have hq : ∀ j, j < 10 → ∃ v, W.cell? ⟨sr, so + j, none⟩ = some v := fun j hj => by
        rw [cell_keep hrw]
        exact Option.isSome_iff_exists.1 (Hcl.out j hj)
      have hfr : ∀ j, j < sc * 10 → W.frozen? ⟨sr, so + j, none⟩ = false := fun j hj => (World.frozen?_of_block (a := ⟨sr, so + j, none⟩) hrw).trans (HFr.out j hj)
      obtain ⟨c5, k5⟩ := hq 5 (by omega)
      obtain ⟨c6, k6⟩ := hq 6 (by omega)
      obtain ⟨c7, k7⟩ := hq 7 (by omega)
      obtain ⟨c8, k8⟩ := hq 8 (by omega)
      obtain ⟨c9, k9⟩ := hq 9 (by omega)
      have f5 := hfr 5 (by omega)
      have f6 := hfr 6 (by omega)
      have f7 := hfr 7 (by omega)
      have f8 := hfr 8 (by omega)
      have f9 := hfr 9 (by omega)
      have hup := hM.updLink (r := sr) (o := so) (c := sc) 0 (by rw [HNS.out]; exact hs) (by rw [HNS.out]; exact HV0.out) lk Hof.out none 0 none 0 (by rw [Hon.out.1]; exact RdS.nil _ _) (by rw [Hon.out.2.1]; exact RdS.nil _ _)
      rw [← HRel.out, Hon.out.1, Hon.out.2.1, Hon.out.2.2] at hup
      simp only [Nat.zero_mul, Nat.add_zero, List.length_nil] at hup
      have HU := Lib.hid hup
      have HL := Lib.hid hL
      have HI := Lib.hid hI
      clear hI hL hM hrw hq hfr hup
      go_wp2_with fail
      refine step3_done (v := undef) rfl ?_ ?_ ?_
      · exact (toI HIp ⟨HI.out.1.trans HU.out.2, (fun h => absurd h (by simp [setB])), (fun _ => HU.out.1)⟩)
      · exact HU.out.2
      · exact (toV HV rfl)
  case fin =>
    intro x W L hL hI hV
    replace hI : (Touch (Mine g vs) w2 W ∧ (L 7 = false → WkM base g t vs W ∧ W.heap[sr]? = w2.heap[sr]?) ∧ (L 7 = true → WkM base g t.relink vs W)) := ofI HIp hI
    rw [HV.out] at hV
    simp only [AllV, and_true] at hV
    obtain ⟨u0, u1, u2, u3, u4, u5, u6, u7⟩ := hV
    simp only [getsD, List.getD_cons_succ, List.getD_cons_zero, List.length_cons, List.length_nil, List.range, List.range.loop, u0, u1, u2, u3, u4, u5, u6, u7, Act.put, List.setIfInBounds_toArray, List.set_cons_succ, List.set_cons_zero]
    clear u0 u1 u2 u3 u4 u5 u6 u7
    have hM := hI.2.2 (hL 7 (by simp))
    have hT := hI.1
    have M3 := Lib.hid hM
    have T3 : Hid (Touch (Mine g vs) w W) := (Touch.of_below B2.out).trans hT
    obtain ⟨w3, rfl⟩ : ∃ x : World, x = W := ⟨_, rfl⟩
    have G3 := Lib.hid (Hg.out.wk HM.out T3.out)
    clear hI hL hM hT M2 X2 B2 B1
    go_wp2_with fail
    obtain ⟨Vp, HV⟩ : ∃ Vp : Nat → Value → World → Prop, Hid (Vp = fun i v W => match i with
        | 0 => v = .pointer (some ⟨g, 0, none⟩)
        | 1 => v = .pointer (some ⟨g, 0, none⟩)
        | 2 => v = .pointer (some ⟨g, 0, none⟩)
        | 3 => v = .pointer (some ⟨g, 1, none⟩)
        | 4 => v = .int .i64 t.node.epoch
        | 5 => v = .pointer (some ⟨g, 0, none⟩)
        | 6 => v = .pointer (some ⟨g, 0, none⟩)
        | 7 => v = .pointer (some ⟨g, 2, none⟩)
        | 8 => v = .int .i64 t.node.up
        | 9 => v = .agg #[.int .i64 2, .int .i64 t.node.up, .int .i64 t.node.epoch, .slice none 0 0, .string ⟨#[]⟩]
        | _ => v = .tuple #[]) := ⟨_, rfl⟩
    obtain ⟨Ip, HIp⟩ : ∃ Ip : (Nat → Bool) → (Nat → Value) → World → Prop, Hid (Ip = fun L x W => ((L 10 = false → Below w3.heap.size w3 W) ∧ (L 10 = true → WkS base g t.join vs w3 W))) := ⟨_, rfl⟩
    refine region_lit3 (by kernel_rfl) (by kernel_rfl) (by kernel_rfl) [[], [], [1], [1, 2], [1, 2, 3], [], [5], [5, 6], [5, 6, 7], [1, 2, 3, 4, 5, 6, 7, 8], [0, 1, 2, 3, 4, 5, 6, 7, 8, 9]] (by kernel_rfl) [some 22, some 23, some 24, some 25, some 26, some 27, some 28, some 29, some 30, some 31, some 32] (by kernel_rfl) [[0, 10], [1, 2, 3, 4, 9, 10], [2, 3, 4, 9, 10], [3, 4, 9, 10], [4, 9, 10], [5, 6, 7, 8, 9, 10], [6, 7, 8, 9, 10], [7, 8, 9, 10], [8, 9, 10], [9, 10], [10]] (by kernel_rfl) [[], [], [], [], [], [], [], [], [], [], []] [[], [], [1], [2], [3], [], [5], [6], [7], [4, 8], [0, 9]] (by kernel_rfl)
      Ip
      Vp
      (fun j W W' => match j with
        | 10 => True
        | _ => Below W.heap.size W W')
      [fun x => ⟨(fZm 0 (.pointer (some ⟨g, 0, none⟩)) (fEm 22)).toArray, []⟩,
   fun x => ⟨(fZm 2 (.pointer (some ⟨g, 0, none⟩)) (fEm 21)).toArray, []⟩,
   fun x => ⟨(fZm 23 (x 1) (fEm 1)).toArray, []⟩,
   fun x => ⟨(fZm 24 (x 2) (fEm 1)).toArray, []⟩,
   fun x => ⟨(fZm 25 (x 3) (fEm 1)).toArray, []⟩,
   fun x => ⟨(fZm 2 (.pointer (some ⟨g, 0, none⟩)) (fEm 25)).toArray, []⟩,
   fun x => ⟨(fZm 27 (x 5) (fEm 1)).toArray, []⟩,
   fun x => ⟨(fZm 28 (x 6) (fEm 1)).toArray, []⟩,
   fun x => ⟨(fZm 29 (x 7) (fEm 1)).toArray, []⟩,
   fun x => ⟨(fZm 26 (x 4) (fZm 3 (x 8) (fEm 1))).toArray, []⟩,
   fun x => ⟨(fZm 22 (x 0) (fZm 8 (x 9) (fEm 1))).toArray, []⟩]
      ?hF ?mono ?h0 ?step [0, 1, 2, 3, 4, 5, 6, 7, 8, 9, 10] (by kernel_rfl) ?fin
    case hF =>
      iterate 11 refine ⟨fun x => ⟨by kernel_rfl, by kernel_rfl⟩, ?_⟩
      trivial
    case mono =>
      intro i j hi hj hne hna hnk v W W' hE hv
      rw [HV.out] at hv ⊢
      simp only [List.length_cons, List.length_nil] at hi hj
      match i, hi with
      | 0, _ | 1, _ | 2, _ | 3, _ | 4, _ | 5, _ | 6, _ | 7, _ | 8, _ | 9, _ | 10, _ => exact hv
      | m + 11, h => exact absurd h (by omega)
    case h0 => intro x; exact toI HIp ⟨(fun _ => (Below.refl _ _).drew), (fun h => by cases h)⟩
    case step =>
      refine ⟨?_, ?_, ?_, ?_, ?_, ?_, ?_, ?_, ?_, ?_, ?_, trivial⟩
      all_goals
        intro x W L hI hL hV
        replace hI : ((L 10 = false → Below w3.heap.size w3 W) ∧ (L 10 = true → WkS base g t.join vs w3 W)) := ofI HIp hI
        rw [HV.out] at hV
        simp only [AllV, and_true] at hV
        dsimp only [fZm, fEm, List.reduceReplicate, List.cons_append, List.nil_append]
      · clear hV
        have HI := Lib.hid hI
        clear hI
        go_wp2_with fail
        refine step3_done rfl ?_ ?_ ?_
        · exact (toI HIp HI.out)
        · exact (Below.refl _ _)
        · exact (toV HV rfl)
      · clear hV
        have HI := Lib.hid hI
        clear hI
        go_wp2_with fail
        refine step3_done rfl ?_ ?_ ?_
        · exact (toI HIp HI.out)
        · exact (Below.refl _ _)
        · exact (toV HV rfl)
      · have u1 := hV
        clear hV
        simp only [u1]
        clear u1
        have HI := Lib.hid hI
        clear hI
        go_wp2_with fail
        refine step3_done rfl ?_ ?_ ?_
        · exact (toI HIp HI.out)
        · exact (Below.refl _ _)
        · exact (toV HV rfl)
      · have u2 := hV
        clear hV
        simp only [u2]
        clear u2
        have HI := Lib.hid hI
        clear hI
        go_wp2_with fail
        refine step3_done rfl ?_ ?_ ?_
        · exact (toI HIp HI.out)
        · exact (Below.refl _ _)
        · exact (toV HV rfl)
      · have u3 := hV
        clear hV
        simp only [u3]
        clear u3
        have hMW := M3.out.go (hI.1 (hL.2 10 (by simp)))
        obtain ⟨-, p1, -⟩ := blk10_cells hMW.box
        have HI := Lib.hid hI
        clear hI hMW
        have hp1 : W.cell? ⟨g, 1, none⟩ = some (.int .i64 t.node.epoch) := p1
        clear p1
        go_wp2_with fail
        refine step3_done rfl ?_ ?_ ?_
        · exact (toI HIp HI.out)
        · exact (Below.refl _ _)
        · exact (toV HV rfl)
      · clear hV
        have HI := Lib.hid hI
        clear hI
        go_wp2_with fail
        refine step3_done rfl ?_ ?_ ?_
        · exact (toI HIp HI.out)
        · exact (Below.refl _ _)
        · exact (toV HV rfl)
      · have u5 := hV
        clear hV
        simp only [u5]
        clear u5
        have HI := Lib.hid hI
        clear hI
        go_wp2_with fail
        refine step3_done rfl ?_ ?_ ?_
        · exact (toI HIp HI.out)
        · exact (Below.refl _ _)
        · exact (toV HV rfl)
      · have u6 := hV
        clear hV
        simp only [u6]
        clear u6
        have HI := Lib.hid hI
        clear hI
        go_wp2_with fail
        refine step3_done rfl ?_ ?_ ?_
        · exact (toI HIp HI.out)
        · exact (Below.refl _ _)
        · exact (toV HV rfl)
      · have u7 := hV
        clear hV
        simp only [u7]
        clear u7
        have hMW := M3.out.go (hI.1 (hL.2 10 (by simp)))
        obtain ⟨-, -, p2, -⟩ := blk10_cells hMW.box
        have HI := Lib.hid hI
        clear hI hMW
        have hp2 : W.cell? ⟨g, 2, none⟩ = some (.int .i64 t.node.up) := p2
        clear p2
        go_wp2_with fail
        refine step3_done rfl ?_ ?_ ?_
        · exact (toI HIp HI.out)
        · exact (Below.refl _ _)
        · exact (toV HV rfl)
      · obtain ⟨u4, u8⟩ := hV
        simp only [u4, u8]
        clear u4 u8
        have HI := Lib.hid hI
        clear hI
        go_wp2_with fail
        refine step3_done rfl ?_ ?_ ?_
        · exact (toI HIp HI.out)
        · exact (Below.refl _ _)
        · exact (toV HV rfl)
      · obtain ⟨u0, u9⟩ := hV
        simp only [u0, u9]
        clear u0 u9
        have hb := hI.1 (hL.2 10 (by simp))
        have HB := Lib.hid hb
        clear hI hL hb
        go_wp2_with fail
        refine (HSd.out W vs (G3.out.go HB.out) (M3.out.go HB.out)).mono ?_
        rintro e W' ⟨rfl, hs'⟩
        have HW : Hid (WkS base g t.join vs w3 W') := WkS.trans (Touch.of_below HB.out) (fun z h => .inl h) hs'
        clear hs'
        go_wp2_with fail
        refine step3_done rfl ?_ ?_ ?_
        · exact (toI HIp ⟨(fun h => absurd h (by simp [setB])), (fun _ => HW.out)⟩)
        · exact trivial
        · exact (toV HV rfl)
    case fin =>
      intro x W L hL hI hV
      replace hI : ((L 10 = false → Below w3.heap.size w3 W) ∧ (L 10 = true → WkS base g t.join vs w3 W)) := ofI HIp hI
      rw [HV.out] at hV
      simp only [AllV, and_true] at hV
      obtain ⟨u0, u1, u2, u3, u4, u5, u6, u7, u8, u9, u10⟩ := hV
      simp only [getsD, List.getD_cons_succ, List.getD_cons_zero, List.length_cons, List.length_nil, List.range, List.range.loop, u0, u1, u2, u3, u4, u5, u6, u7, u8, u9, u10, Act.put, List.setIfInBounds_toArray, List.set_cons_succ, List.set_cons_zero]
      clear u0 u1 u2 u3 u4 u5 u6 u7 u8 u9 u10
      have hW := hI.2 (hL 10 (by simp))
      have HW : Hid (WkS base g t.join vs w W) := WkS.trans T3.out (fun z h => .inl h) hW
      clear hI hL hW
      go_wp2_with fail
      go_end0
      exact ⟨rfl, HW.out⟩
end Go.Proofs.YtkbfhgcjimfgkaaDoor
