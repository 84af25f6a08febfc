/- The walk of tape.Recover at what is left of a tape of fine records. -/
import Derived.Test.YtdbdhpjjndhjiaaDoorRecovP
import Derived.Test.YtdbdhpjjndhjiaaDoorTapeCrash
import Derived.Test.YtdbdhpjjndhjiaaDoorTapeRecs
import Derived.BigQuiet
set_option linter.unusedSimpArgs false
namespace Go.Proofs.YtdbdhpjjndhjiaaDoor
open Go.RowKit

/-- what a call of Recover leaves: the records that are whole, and their bytes -/
def RecovP (rs : List Rec) (m : Nat) (s : Int) (w : World) (e : Ending) (w' : World) : Prop :=
  ∃ (j : Nat) (ao au : Option Addr) (co cu : Nat), j ≤ rs.length ∧ offR rs j ≤ m ∧ (j < rs.length → m < offR rs (j + 1)) ∧
    e = .returned (.tuple #[.slice ao j co, .agg #[.slice au (offR rs j) cu, .int .i64 (min s (offR rs j : Nat))], .int .i64 0]) ∧
    RdS (· < w'.heap.size) w' (rs.take j) ao j co ∧ RdS (· < w'.heap.size) w' (tapeB (rs.take j)) au (offR rs j) cu ∧ Below w.heap.size w w'
set_option maxRecDepth 100000 in
set_option maxHeartbeats 8000000 in
theorem recover_ok (rs : List Rec) (hrs : ∀ r ∈ rs, checkRecord r = 0 ∧ I64 r.epoch) (hlen : rs.length ≤ 100) (m : Nat) (hm : m ≤ (tapeB rs).length) (s : Int) (h0 : 0 ≤ s) (h1 : s ≤ m) (a : Option Addr) (c : Nat) (w : World) (hg : Good w) (hr : RdS (· < w.heap.size) w ((tapeB rs).take m) a m c) :
    Calls Tryd.prog 28 #[.agg #[.slice a m c, .int .i64 s]] w (RecovP rs m s w) := by
  have htl := tapeB_len rs (fun r h => (hrs r h).1)
  have hm8 : m ≤ 4001300 := by omega
  have HH := Lib.hid (fun k (h : k < rs.length) (hm : offR rs k + 3 ≤ m) i (hi : i < 3) => tape_hdr rs k m i h hi hm)
  have HT := Lib.hid (fun k h hm => tape_rec rs k m h hm)
  have HU := Lib.hid (fun k hm => tape_upto rs k m hm)
  have Hrs := Lib.hid hrs
  have Hnx := Lib.hid (offR_next rs)
  have Hall := Lib.hid (offR_all rs)
  have Hm := Lib.hid hm
  obtain ⟨i0, hi, hz0, hz1, hz2⟩ := info_parts infoRec
  have Hi := Lib.hid hi
  have Hz0 := Lib.hid hz0
  have Hz1 := Lib.hid hz1
  have Hz2 := Lib.hid hz2
  clear hi hz0 hz1 hz2 htl hm hrs
  have hlm : ((tapeB rs).take m).length = m := by rw [List.length_take]; have := Hm.out; omega
  generalize (tapeB rs).take m = l at *
  have HO : Hid (∀ a c W, RdS (· < W.heap.size) W l a m c → Calls Tryd.prog 38 #[.agg #[.slice a m c, .int .i64 s]] W fun e w' => ∃ a' c', e = .returned (.tuple #[.agg #[.slice a' m c', .int .i64 s], .bool true]) ∧ Flat a' ∧ RdS (fun b => W.heap.size ≤ b ∧ b < w'.heap.size) w' l a' m c' ∧ Below W.heap.size W w') := by
    subst hlm
    exact fun a c W h => open_flat l s a c W h h0 h1 (by omega)
  have Hlm := Lib.hid hlm
  have HG := Lib.hid hg
  have Hr := Lib.hid hr
  clear hlm hg hr
  go_enter Tryd.func28, Tryd.ntmps28
  go_wp2_with fail
  refine abs_run (fun W => Below w.heap.size w W ∧ Blk (w.heap.size + 1) (.cells #[.slice none 0 0, .int .i64 0] 27 (0, 0)) W) ⟨by (repeat (first | exact Below.refl _ _ | assumption | (refine Below.drew ?_) | (refine below_drewN ?_ _) | (refine Below.alloc ?_ (by first | (simp; done) | (simp; omega) | omega) _) | (refine Below.setCell ?_ (by first | (simp; done) | (simp; omega) | omega) _) | (refine Below.trans ?_ (Below.mono (by assumption) (by first | (simp; done) | (simp; omega) | omega))))), Blk.at (w.alloc _) _ (w.heap.size + 1) (by simp)⟩ ?_
  rintro W ⟨hb, bo⟩
  refine (HO.out _ _ _ (Hr.out.go hb)).mono ?_
  rintro e W2 ⟨ax, cx, rfl, fx, rx, hb2⟩
  have z0 := bo.lt
  have z2 := hb2.size
  have zw := hb.size
  have rx : RdS (fun b => b ≠ w.heap.size + 1 ∧ b < W2.heap.size) W2 l ax m cx := rx.mono fun b hb => ⟨⟨by have := hb.1; omega, hb.2⟩, rfl⟩
  have hcx := rx.2.1
  have bo2 := bo.go hb2
  have HB := Lib.hid (up hb hb2)
  have HBo := Lib.hid bo2
  have HX := Lib.hid rx
  clear hb hb2 bo bo2 rx HO Hr
  go_wp2_with fail
  refine abs_w (fun W => Below w.heap.size w W ∧ Blk (w.heap.size + 1) (.cells #[.slice none 0 0, .int .i64 0] 27 (0, 0)) W ∧ Blk W2.heap.size (.cells #[.slice ax m cx, .int .i64 s] 27 (0, 0)) W ∧ RdS (fun b => b ≠ w.heap.size + 1 ∧ b < W2.heap.size) W l ax m cx ∧ W2.heap.size + 1 ≤ W.heap.size)
    ⟨by have := HB.out; (repeat (first | exact Below.refl _ _ | assumption | (refine Below.drew ?_) | (refine below_drewN ?_ _) | (refine Below.alloc ?_ (by first | (simp; done) | (simp; omega) | omega) _) | (refine Below.setCell ?_ (by first | (simp; done) | (simp; omega) | omega) _) | (refine Below.trans ?_ (Below.mono (by assumption) (by first | (simp; done) | (simp; omega) | omega))))), HBo.out.alloc _, Blk.new _ _, HX.out.mono fun b hb => ⟨hb, ((Below.refl _ _).alloc (Nat.le_refl _) _).block b hb.2⟩, by simp⟩ ?_
  rintro w1 H1
  have hw1 := H1.2.2.2.2
  have H1 := Lib.hid H1
  clear HB HBo HX
  go_loopw [7, 8] (fun v i wr => ∃ k : Nat, k ≤ rs.length ∧ offR rs k ≤ m ∧ i = .int .i64 (offR rs k : Nat) ∧ Own (fun b => b < W2.heap.size + 1) (W2.heap.size + 1) 33 v (rs.take k) wr ∧ Below w.heap.size w wr ∧ Blk (w.heap.size + 1) (.cells #[.slice none 0 0, .int .i64 0] 27 (0, 0)) wr ∧ Blk W2.heap.size (.cells #[.slice ax m cx, .int .i64 s] 27 (0, 0)) wr ∧ RdS (fun b => b ≠ w.heap.size + 1 ∧ b < W2.heap.size) wr l ax m cx ∧ W2.heap.size + 1 ≤ wr.heap.size) (fun _ i _ => m - (intOf i).toNat)
  case atStart => exact ⟨0, by omega, by rw [offR_zero]; omega, by rw [offR_zero]; rfl, Own.nil, H1.out.1, H1.out.2.1, H1.out.2.2.1, H1.out.2.2.2.1, hw1⟩
  case round =>
    obtain ⟨k, hk, hkm, rfl, own, hb, bo, bt, rx, hz⟩ := hrel
    clear H1
    have q0 : wr.cell? ⟨W2.heap.size, 0, none⟩ = some (.slice ax m cx) := bt.cell 0
    have q1 : wr.cell? ⟨W2.heap.size, 1, none⟩ = some (.int .i64 s) := bt.cell 1
    have qz := bt.lt
    by_cases hgo : ∃ h : k < rs.length, offR rs k + 3 + (recB rs[k]).length ≤ m
    · obtain ⟨hkl, hnm⟩ := hgo
      obtain ⟨b, off, rfl, hAb, hbs, hcs⟩ := rx.byte (by omega)
      have x0 := Hrs.out rs[k] (List.getElem_mem hkl)
      have hnx := Hnx.out k hkl
      have hnl := (rec_len x0.1).1
      have hh := HH.out k hkl (by omega)
      have htr := HT.out k hkl hnm
      have HRo := Lib.hid own
      have HB := Lib.hid hb
      have HBo := Lib.hid bo
      have HBt := Lib.hid bt
      have HX := Lib.hid rx
      have Hnext := Lib.hid (take_next rs k hkl)
      have HD : Hid (∀ a c W, Good W → RdS (· < W.heap.size) W (recB rs[k]) a (recB rs[k]).length c → Calls Tryd.prog 21 #[.slice a (recB rs[k]).length c] W fun e w' => ∃ a' c', e = .returned (.tuple #[.agg #[.int .i64 rs[k].epoch, .slice a' rs[k].op.length c'], .int .i64 0]) ∧ RdS (fun b => W.heap.size ≤ b ∧ b < w'.heap.size) w' rs[k].op a' rs[k].op.length c' ∧ Below W.heap.size W w') := by
        intro a c W hg hr
        have h := decRecord_any (recB rs[k]) a (recB rs[k]).length c W hg hr
        rw [dec_enc x0.1] at h
        exact h.mono fun e w' ⟨a', c', h1, h2, h3, _⟩ => ⟨a', c', h1, h2, h3⟩
      have n1 := (rec_len x0.1).2
      have HI := Lib.hid x0.2
      have HTr : Hid (∀ W c', Below wr.heap.size wr W → (recB rs[k]).length ≤ c' → c' ≤ maxLen → RdS (· < W.heap.size) W (recB rs[k]) (some ⟨b, off + (offR rs k + 3), none⟩) (recB rs[k]).length c') := by
        intro W c' hW h1 h2
        have h3 := (rx.mono (w' := W) (A' := (· < W.heap.size)) fun b hb => ⟨by have := hb.2; have := hW.size; omega, hW.block b (by have := hb.2; omega)⟩).sub (offR rs k + 3) (recB rs[k]).length (by omega) h1 h2
        rw [htr] at h3
        rw [show off + (offR rs k + 3) * Rep.n UInt8 = off + (offR rs k + 3) from by show off + (offR rs k + 3) * 1 = _; omega] at h3
        exact h3
      have hcm : cx ≤ maxLen := rx.2.2.1
      unfold maxLen at hcm
      clear htr x0
      generalize rs[k] = x at *
      generalize hno : x.op.length = no at *
      generalize hN : (recB x).length = N at *
      clear own hb bo bt rx
      have Hat := Lib.hid (p := (offR rs k = offR rs k)) rfl
      generalize offR rs k = at_ at *
      obtain ⟨c0, c1, c2⟩ := hdr_read hnl hh hcs
      have j0 : at_ + 2 < m := by omega
      have j1 : at_ + 3 + N ≤ m := by omega
      have t1 : ((at_ : Int) + 1).toNat = at_ + 1 := by omega
      have t2 : ((at_ : Int) + 2).toNat = at_ + 2 := by omega
      clear hcs hh
      go_wp2_with fail
      have hbt := shl_or N hnl
      go_quiet (fail)
      have t3 : ((at_ : Int) + 3).toNat = at_ + 3 := by omega
      have t4 : ((at_ : Int) + 3 + (N : Int)).toNat = at_ + 3 + N := by omega
      clear hbt c0 c1 c2
      go_wp2_with fail
      refine abs_run (fun W => Below wr.heap.size wr W) (below_drewN (Below.refl _ _) _) ?_
      intro W3 hb3
      refine (HD.out _ _ _ (HG.out.go (up HB.out hb3)) (HTr.out W3 _ hb3 (by omega) (by unfold maxLen; omega))).mono ?_
      rintro e W4 ⟨ay, cy, rfl, ry, hb4⟩
      have z3 := hb3.size
      have z4 := hb4.size
      have hb5 := up hb3 hb4
      have HB5 := Lib.hid (up HB.out hb5)
      have HBo5 := Lib.hid (HBo.out.go hb5)
      have HBt5 := Lib.hid (HBt.out.go hb5)
      have HX5 := Lib.hid (HX.out.mono (w' := W4) fun b hb => ⟨hb, hb5.block b (by have := hb.2; omega)⟩)
      have HO5 := Lib.hid (HRo.out.go hb5)
      have HY := Lib.hid ry
      have Hro := Lib.hid HRo.out.rowlt
      obtain ⟨a5, c5, hv5⟩ := HRo.out.form
      have hlk : (rs.take k).length = k := by rw [List.length_take]; omega
      have Hlk := Lib.hid hlk
      rw [hlk] at hv5
      subst hv5
      clear HB HBo HBt HX HRo hb3 hb4 hb5 ry q0 q1 qz hlk HD HTr
      have Hrd : Hid (∀ W', Below W4.heap.size W4 W' → Rep.rd (fun b => b < W'.heap.size ∧ ¬ b < W2.heap.size + 1 ∧ (Value.slice a5 k c5).ownBlock ≠ some b) W' x [.int .i64 x.epoch, .slice ay no cy]) := fun W' hW => ⟨ay, no, cy, rfl, HI.out, HY.out.mono fun b hb => ⟨⟨Nat.lt_of_lt_of_le hb.2 hW.size, by have := hb.1; omega, fun e => by have := (Hro.out b e).2; have := hb.1; omega⟩, hW.block b hb.2⟩⟩
      have Hu : Hid (∀ o o', Below W4.heap.size W4 ((W4.alloc o).alloc o')) := fun o o' => ((Below.refl _ _).alloc (Nat.le_refl _) o).alloc (by simp) o'
      have HB4 : Hid (∀ o, Blk (W4.heap.size + 1) o ((W4.alloc (.cells #[.int .i64 x.epoch, .slice ay no cy] 33)).alloc o)) := fun o => Blk.at (W4.alloc _) o (W4.heap.size + 1) (by simp)
      have Hkl : Hid (k < 100) := (by omega : k < 100)
      go_wp2_with (at_builtin; refine wpList_append_one rfl _ _ _ (by rfl) (W2.heap.size + 1) 33 i0 _ 32 Tryd.underlying23 Hi.out Hz0.out Hz1.out Hz2.out rfl (.slice a5 k c5) (rs.take k) (by rfl) (HO5.out.go (Hu.out _ _)) (W4.heap.size + 1) 1 _ [.int .i64 x.epoch, .slice ay no cy] x (by rfl) (HB4.out _) (Hrd.out _ (Hu.out _ _)) (by rw [Hlk.out]; have := Hkl.out; unfold maxLen; omega) (by rw [Hlk.out]; have := Hkl.out; omega) (by simp; omega) ?_)
      intro g2 cap w5 hown5 hgrow hat hlt5
      have hu := Hu.out (.cells #[.int .i64 x.epoch, .slice ay no cy] 33) (.cells #[.int .i64 x.epoch, .slice ay no cy] 33)
      have hob : ∀ b, b < W2.heap.size + 1 → some b ≠ (Value.slice a5 k c5).ownBlock := fun b hb e => by have := (Hro.out b e.symm).1; omega
      have HB6 := Lib.hid ((upper HB5.out hu (by omega)).grown hgrow (by simp; omega) (fun g hg => by have := (Hro.out g hg).1; omega))
      have HBo6 := Lib.hid ((HBo5.out.go hu).grown hgrow (hob _ (by omega)))
      have HBt6 := Lib.hid ((HBt5.out.go hu).grown hgrow (hob _ (by omega)))
      have HX6 := Lib.hid (HX5.out.mono (w' := w5) fun b hb => ⟨hb, (hgrow.block b (by simp; omega) (hob b (by omega))).trans (hu.block b (by omega))⟩)
      have hzz := hgrow.size
      simp at hzz
      rw [← Hnext.out] at hown5
      have HO6 := Lib.hid hown5
      clear hown5 hgrow hat hlt5 hu hob HB5 HBo5 HBt5 HX5 HO5 Hrd HY Hro HB4 Hu
      go_wp2_with fail
      go_roundw
      case rel => exact ⟨k + 1, by omega, by omega, by rw [hnx]; go_num, HO6.out, HB6.out, HBo6.out, HBt6.out, HX6.out, by omega⟩
      case measure => simp [intOf]; omega
    · have hj : k < rs.length → m < offR rs (k + 1) := fun h => by
        have h1 := Hnx.out k h
        have h2 : ¬ offR rs k + 3 + (recB rs[k]).length ≤ m := fun h3 => hgo ⟨h, h3⟩
        omega
      have hcut : m < offR rs k + 3 ∨ (∃ (h : k < rs.length), offR rs k + 3 ≤ m ∧ m < offR rs k + 3 + (recB rs[k]).length) := by
        by_cases h : k < rs.length
        · by_cases h2 : m < offR rs k + 3
          · exact .inl h2
          · exact .inr ⟨h, by omega, by have h3 : ¬ offR rs k + 3 + (recB rs[k]).length ≤ m := fun h3 => hgo ⟨h, h3⟩; omega⟩
        · left
          have h1 : k = rs.length := by omega
          have h2 := Hall.out
          have h3 := Hm.out
          rw [h1]; omega
      have hau := HU.out k hkm
      obtain ⟨a5, c5, rfl, rd5⟩ := own.rd (fun j hj hx => by have := (own.rowlt j hj).1; omega)
      have hlk : (rs.take k).length = k := by rw [List.length_take]; omega
      rw [hlk] at rd5 ⊢
      have HRt := Lib.hid (And.intro rd5 (And.intro rx (And.intro bo (And.intro bt hb))))
      have Hj := Lib.hid hj
      have Hkm := Lib.hid hkm
      have Hau := Lib.hid hau
      clear own rd5 rx bo bt hb hj hau hgo hlk Hi Hz0 Hz1 Hz2
      generalize hat : offR rs k = at_ at *
      have Hat := Lib.hid hat
      have i1 : (0 : Int) ≤ (at_ : Int) := by omega
      have i2 : (at_ : Int) ≤ (cx : Int) := by omega
      clear hat
      rcases hcut with hcut | ⟨hkl, hcut1, hcut2⟩
      case' neg.inl =>
        go_wp2_with fail
        refine abs_w (fun W => Below wr.heap.size wr W) (Below.refl _ _) ?_
      case' neg.inr =>
        obtain ⟨b, off, rfl, hAb, hbs, hcs⟩ := HRt.out.2.1.byte (by omega)
        have hnl := (rec_len (Hrs.out rs[k] (List.getElem_mem hkl)).1).1
        have hh := HH.out k hkl (by rw [Hat.out]; exact hcut1)
        rw [Hat.out] at hh
        generalize (recB rs[k]).length = N at *
        obtain ⟨c0, c1, c2⟩ := hdr_read hnl hh hcs
        have j0 : at_ + 2 < m := by omega
        have t1 : ((at_ : Int) + 1).toNat = at_ + 1 := by omega
        have t2 : ((at_ : Int) + 2).toNat = at_ + 2 := by omega
        have hbt := shl_or N hnl
        clear hcs hh
        go_wp2_with fail
        go_quiet (fail)
        clear hbt c0 c1 c2 t1 t2
        go_wp2_with fail
        generalize (some (⟨b, off, none⟩ : Addr)) = ax at *
        refine abs_w (fun W => Below wr.heap.size wr W) (below_drewN (Below.refl _ _) _) ?_
      all_goals
        intro wz hwz
        have hal : Option.map (fun x : Addr => x.add 0) ax = ax := by cases ax <;> simp [Addr.add]
        have HZ : Hid (RdS (fun b => b < wz.heap.size ∧ ¬ b < W2.heap.size + 1) wz (rs.take k) a5 k c5 ∧ RdS (fun b => b ≠ w.heap.size + 1 ∧ b < W2.heap.size) wz l ax m cx ∧ Blk (w.heap.size + 1) (.cells #[.slice none 0 0, .int .i64 0] 27 (0, 0)) wz ∧ Blk W2.heap.size (.cells #[.slice ax m cx, .int .i64 s] 27 (0, 0)) wz ∧ Below w.heap.size w wz) :=
          ⟨HRt.out.1.mono fun b hb => ⟨⟨Nat.lt_of_lt_of_le hb.1 hwz.size, hb.2⟩, hwz.block b hb.1⟩, HRt.out.2.1.mono fun b hb => ⟨hb, hwz.block b (by have := hb.2; omega)⟩, HRt.out.2.2.1.go hwz, HRt.out.2.2.2.1.go hwz, up HRt.out.2.2.2.2 hwz⟩
        have hsz := hwz.size
        clear HRt hwz HH HT HU Hnx HG Hrs Hm Hall
        obtain ⟨Vp, HV⟩ : ∃ Vp : Nat → Value → World → Prop, Hid (Vp = fun i v W => match i with
            | 0 => v = .slice a5 k c5
            | 1 => v = .pointer (some ⟨W2.heap.size, 0, none⟩)
            | 2 => v = .slice ax m cx
            | 3 => v = .int .i64 (at_ : Int)
            | 4 => v = .int .i64 (at_ : Int)
            | 5 => v = .slice ax at_ at_
            | 6 => v = .pointer (some ⟨W2.heap.size, 1, none⟩)
            | 7 => v = .int .i64 s
            | 8 => v = .int .i64 (at_ : Int)
            | 9 => v = .int .i64 (min s (at_ : Int))
            | 10 => v = .agg #[.slice ax at_ at_, .int .i64 (min s (at_ : Int))]
            | 11 => v = .slice a5 k c5
            | 12 => v = undef
            | _ => v = .int .i64 0) := ⟨_, rfl⟩
        obtain ⟨Ip, HIp⟩ : ∃ Ip : (Nat → Bool) → (Nat → Value) → World → Prop, Hid (Ip = fun L x W => (Below w.heap.size w W ∧ Blk W2.heap.size (.cells #[.slice ax m cx, .int .i64 s] 27 (0, 0)) W ∧ (∃ v s', Blk (w.heap.size + 1) (.cells #[v, .int .i64 s'] 27 (0, 0)) W ∧ (L 12 = true → v = .slice ax at_ at_ ∧ s' = min s (at_ : Int))) ∧ RdS (fun b => b < wz.heap.size ∧ ¬ b < W2.heap.size + 1) W (rs.take k) a5 k c5 ∧ RdS (fun b => b ≠ w.heap.size + 1 ∧ b < W2.heap.size) W l ax m cx ∧ wz.heap.size ≤ W.heap.size)) := ⟨_, rfl⟩
        refine region_lit3 (by kernel_rfl) (by kernel_rfl) (by kernel_rfl) [[], [], [1], [], [], [1, 2, 3, 4], [], [6], [], [6, 7, 8], [1, 2, 3, 4, 5, 6, 7, 8, 9], [0], [1, 2, 3, 4, 5, 6, 7, 8, 9, 10], []] (by kernel_rfl) [some 81, some 82, some 83, some 84, some 85, some 86, some 87, some 88, some 89, some 90, some 91, some 2, none, some 4] (by kernel_rfl) [[0, 11], [1, 2, 5, 10, 12], [2, 5, 10, 12], [3, 5, 10, 12], [4, 5, 10, 12], [5, 10, 12], [6, 7, 9, 10, 12], [7, 9, 10, 12], [8, 9, 10, 12], [9, 10, 12], [10, 12], [11], [12], [13]] (by kernel_rfl) [[], [], [], [], [], [], [], [], [], [], [], [], [], []] [[], [], [1], [], [], [2, 3, 4], [], [6], [], [7, 8], [5, 9], [0], [10], []] (by kernel_rfl)
          Ip
          Vp
          (fun j W W' => match j with
            | 12 => Touch (fun z => z = w.heap.size + 1) W W'
            | _ => Below W.heap.size W W')
          [fun x => ⟨#[undef, undef, undef, undef, undef, undef, undef, .slice a5 k c5, undef, undef, undef, undef, undef, undef, undef, undef, undef, undef, undef, undef, undef, undef, undef, undef, undef, undef, undef, undef, undef, undef, undef, undef, undef, undef, undef, undef, undef, undef, undef, undef, undef, undef, undef, undef, undef, undef, undef, undef, undef, undef, undef, undef, undef, undef, undef, undef, undef, undef, undef, undef, undef, undef, undef, undef, undef, undef, undef, undef, undef, undef, undef, undef, undef, undef, undef, undef, undef, undef, undef, undef, undef, undef], []⟩,
   fun x => ⟨#[undef, undef, undef, undef, undef, .pointer (some ⟨W2.heap.size, 0, none⟩), undef, undef, undef, undef, undef, undef, undef, undef, undef, undef, undef, undef, undef, undef, undef, undef, undef, undef, undef, undef, undef, undef, undef, undef, undef, undef, undef, undef, undef, undef, undef, undef, undef, undef, undef, undef, undef, undef, undef, undef, undef, undef, undef, undef, undef, undef, undef, undef, undef, undef, undef, undef, undef, undef, undef, undef, undef, undef, undef, undef, undef, undef, undef, undef, undef, undef, undef, undef, undef, undef, undef, undef, undef, undef, undef, undef, undef], []⟩,
   fun x => ⟨#[undef, undef, undef, undef, undef, undef, undef, undef, undef, undef, undef, undef, undef, undef, undef, undef, undef, undef, undef, undef, undef, undef, undef, undef, undef, undef, undef, undef, undef, undef, undef, undef, undef, undef, undef, undef, undef, undef, undef, undef, undef, undef, undef, undef, undef, undef, undef, undef, undef, undef, undef, undef, undef, undef, undef, undef, undef, undef, undef, undef, undef, undef, undef, undef, undef, undef, undef, undef, undef, undef, undef, undef, undef, undef, undef, undef, undef, undef, undef, undef, undef, undef, x 1, undef], []⟩,
   fun x => ⟨#[undef, undef, undef, undef, undef, undef, undef, undef, .int .i64 (at_ : Int), undef, undef, undef, undef, undef, undef, undef, undef, undef, undef, undef, undef, undef, undef, undef, undef, undef, undef, undef, undef, undef, undef, undef, undef, undef, undef, undef, undef, undef, undef, undef, undef, undef, undef, undef, undef, undef, undef, undef, undef, undef, undef, undef, undef, undef, undef, undef, undef, undef, undef, undef, undef, undef, undef, undef, undef, undef, undef, undef, undef, undef, undef, undef, undef, undef, undef, undef, undef, undef, undef, undef, undef, undef, undef, undef, undef], []⟩,
   fun x => ⟨#[undef, undef, undef, undef, undef, undef, undef, undef, .int .i64 (at_ : Int), undef, undef, undef, undef, undef, undef, undef, undef, undef, undef, undef, undef, undef, undef, undef, undef, undef, undef, undef, undef, undef, undef, undef, undef, undef, undef, undef, undef, undef, undef, undef, undef, undef, undef, undef, undef, undef, undef, undef, undef, undef, undef, undef, undef, undef, undef, undef, undef, undef, undef, undef, undef, undef, undef, undef, undef, undef, undef, undef, undef, undef, undef, undef, undef, undef, undef, undef, undef, undef, undef, undef, undef, undef, undef, undef, undef, undef], []⟩,
   fun x => ⟨#[undef, undef, undef, undef, undef, undef, undef, undef, undef, undef, undef, undef, undef, undef, undef, undef, undef, undef, undef, undef, undef, undef, undef, undef, undef, undef, undef, undef, undef, undef, undef, undef, undef, undef, undef, undef, undef, undef, undef, undef, undef, undef, undef, undef, undef, undef, undef, undef, undef, undef, undef, undef, undef, undef, undef, undef, undef, undef, undef, undef, undef, undef, undef, undef, undef, undef, undef, undef, undef, undef, undef, undef, undef, undef, undef, undef, undef, undef, undef, undef, undef, undef, undef, x 2, x 3, x 4, undef], []⟩,
   fun x => ⟨#[undef, undef, undef, undef, undef, .pointer (some ⟨W2.heap.size, 0, none⟩), undef, undef, undef, undef, undef, undef, undef, undef, undef, undef, undef, undef, undef, undef, undef, undef, undef, undef, undef, undef, undef, undef, undef, undef, undef, undef, undef, undef, undef, undef, undef, undef, undef, undef, undef, undef, undef, undef, undef, undef, undef, undef, undef, undef, undef, undef, undef, undef, undef, undef, undef, undef, undef, undef, undef, undef, undef, undef, undef, undef, undef, undef, undef, undef, undef, undef, undef, undef, undef, undef, undef, undef, undef, undef, undef, undef, undef, undef, undef, undef, undef, undef], []⟩,
   fun x => ⟨#[undef, undef, undef, undef, undef, undef, undef, undef, undef, undef, undef, undef, undef, undef, undef, undef, undef, undef, undef, undef, undef, undef, undef, undef, undef, undef, undef, undef, undef, undef, undef, undef, undef, undef, undef, undef, undef, undef, undef, undef, undef, undef, undef, undef, undef, undef, undef, undef, undef, undef, undef, undef, undef, undef, undef, undef, undef, undef, undef, undef, undef, undef, undef, undef, undef, undef, undef, undef, undef, undef, undef, undef, undef, undef, undef, undef, undef, undef, undef, undef, undef, undef, undef, undef, undef, undef, undef, x 6, undef], []⟩,
   fun x => ⟨#[undef, undef, undef, undef, undef, undef, undef, undef, .int .i64 (at_ : Int), undef, undef, undef, undef, undef, undef, undef, undef, undef, undef, undef, undef, undef, undef, undef, undef, undef, undef, undef, undef, undef, undef, undef, undef, undef, undef, undef, undef, undef, undef, undef, undef, undef, undef, undef, undef, undef, undef, undef, undef, undef, undef, undef, undef, undef, undef, undef, undef, undef, undef, undef, undef, undef, undef, undef, undef, undef, undef, undef, undef, undef, undef, undef, undef, undef, undef, undef, undef, undef, undef, undef, undef, undef, undef, undef, undef, undef, undef, undef, undef, undef], []⟩,
   fun x => ⟨#[undef, undef, undef, undef, undef, undef, undef, undef, undef, undef, undef, undef, undef, undef, undef, undef, undef, undef, undef, undef, undef, undef, undef, undef, undef, undef, undef, undef, undef, undef, undef, undef, undef, undef, undef, undef, undef, undef, undef, undef, undef, undef, undef, undef, undef, undef, undef, undef, undef, undef, undef, undef, undef, undef, undef, undef, undef, undef, undef, undef, undef, undef, undef, undef, undef, undef, undef, undef, undef, undef, undef, undef, undef, undef, undef, undef, undef, undef, undef, undef, undef, undef, undef, undef, undef, undef, undef, undef, x 7, x 8, undef], []⟩,
   fun x => ⟨#[undef, undef, undef, undef, undef, undef, undef, undef, undef, undef, undef, undef, undef, undef, undef, undef, undef, undef, undef, undef, undef, undef, undef, undef, undef, undef, undef, undef, undef, undef, undef, undef, undef, undef, undef, undef, undef, undef, undef, undef, undef, undef, undef, undef, undef, undef, undef, undef, undef, undef, undef, undef, undef, undef, undef, undef, undef, undef, undef, undef, undef, undef, undef, undef, undef, undef, undef, undef, undef, undef, undef, undef, undef, undef, undef, undef, undef, undef, undef, undef, undef, undef, undef, undef, undef, undef, x 5, undef, undef, undef, x 9, undef], []⟩,
   fun x => ⟨#[undef, undef, undef, undef, undef, undef, undef, undef, undef, undef, undef, undef, undef, undef, undef, undef, undef, undef, undef, undef, undef, undef, undef, undef, undef, undef, undef, undef, undef, undef, undef, undef, undef, undef, undef, undef, undef, undef, undef, undef, undef, undef, undef, undef, undef, undef, undef, undef, undef, undef, undef, undef, undef, undef, undef, undef, undef, undef, undef, undef, undef, undef, undef, undef, undef, undef, undef, undef, undef, undef, undef, undef, undef, undef, undef, undef, undef, undef, undef, undef, undef, x 0], []⟩,
   fun x => ⟨#[undef, undef, undef, .pointer (some ⟨w.heap.size + 1, 0, none⟩), undef, undef, undef, undef, undef, undef, undef, undef, undef, undef, undef, undef, undef, undef, undef, undef, undef, undef, undef, undef, undef, undef, undef, undef, undef, undef, undef, undef, undef, undef, undef, undef, undef, undef, undef, undef, undef, undef, undef, undef, undef, undef, undef, undef, undef, undef, undef, undef, undef, undef, undef, undef, undef, undef, undef, undef, undef, undef, undef, undef, undef, undef, undef, undef, undef, undef, undef, undef, undef, undef, undef, undef, undef, undef, undef, undef, undef, undef, undef, undef, undef, undef, undef, undef, undef, undef, undef, x 10], []⟩,
   fun x => ⟨#[undef, undef, undef, undef, undef], []⟩]
          ?hF ?mono ?h0 ?step [0, 1, 2, 3, 4, 5, 6, 7, 8, 9, 10, 11, 12, 13] (by kernel_rfl) ?fin
        case hF =>
          exact ⟨fun x => ⟨by kernel_rfl, by kernel_rfl⟩, fun x => ⟨by kernel_rfl, by kernel_rfl⟩, fun x => ⟨by kernel_rfl, by kernel_rfl⟩, fun x => ⟨by kernel_rfl, by kernel_rfl⟩, fun x => ⟨by kernel_rfl, by kernel_rfl⟩, fun x => ⟨by kernel_rfl, by kernel_rfl⟩, fun x => ⟨by kernel_rfl, by kernel_rfl⟩, fun x => ⟨by kernel_rfl, by kernel_rfl⟩, fun x => ⟨by kernel_rfl, by kernel_rfl⟩, fun x => ⟨by kernel_rfl, by kernel_rfl⟩, fun x => ⟨by kernel_rfl, by kernel_rfl⟩, fun x => ⟨by kernel_rfl, by kernel_rfl⟩, fun x => ⟨by kernel_rfl, by kernel_rfl⟩, fun x => ⟨by kernel_rfl, by kernel_rfl⟩, trivial⟩
        case mono =>
          intro i j hi hj hne hna hnk v W W' hE hv
          rw [HV.out] at hv ⊢
          simp only [List.length_cons, List.length_nil] at hi hj
          match i, hi with
          | 0, _ | 1, _ | 2, _ | 3, _ | 4, _ | 5, _ | 6, _ | 7, _ | 8, _ | 9, _ | 10, _ | 11, _ | 12, _ | 13, _ => exact hv
          | m + 14, h => exact absurd h (by omega)
        case h0 => intro x; exact toI HIp ⟨HZ.out.2.2.2.2.drew, HZ.out.2.2.2.1, ⟨_, _, HZ.out.2.2.1, fun h => by cases h⟩, HZ.out.1, HZ.out.2.1, Nat.le_refl _⟩
        case step =>
          refine ⟨?_, ?_, ?_, ?_, ?_, ?_, ?_, ?_, ?_, ?_, ?_, ?_, ?_, ?_, trivial⟩
          all_goals
            intro x W L hI hL hV
            replace hI : (Below w.heap.size w W ∧ Blk W2.heap.size (.cells #[.slice ax m cx, .int .i64 s] 27 (0, 0)) W ∧ (∃ v s', Blk (w.heap.size + 1) (.cells #[v, .int .i64 s'] 27 (0, 0)) W ∧ (L 12 = true → v = .slice ax at_ at_ ∧ s' = min s (at_ : Int))) ∧ RdS (fun b => b < wz.heap.size ∧ ¬ b < W2.heap.size + 1) W (rs.take k) a5 k c5 ∧ RdS (fun b => b ≠ w.heap.size + 1 ∧ b < W2.heap.size) W l ax m cx ∧ wz.heap.size ≤ W.heap.size) := ofI HIp hI
            rw [HV.out] at hV
            simp only [AllV, and_true] at hV
          · clear hV
            (try dsimp only)
            have HI := Lib.hid hI
            clear hI
            go_wp2_with fail
            refine step3_done rfl ?_ ?_ ?_
            · exact (toI HIp HI.out)
            · exact (Below.refl _ _)
            · exact (toV HV rfl)
          · clear hV
            (try dsimp only)
            have HI := Lib.hid hI
            clear hI
            go_wp2_with fail
            refine step3_done rfl ?_ ?_ ?_
            · exact (toI HIp HI.out)
            · exact (Below.refl _ _)
            · exact (toV HV rfl)
          · have u1 := hV
            clear hV
            simp only [u1]
            clear u1
            have e1 : W.cell? ⟨W2.heap.size, 0, none⟩ = some (.slice ax m cx) := hI.2.1.cell 0
            have e2 : W.cell? ⟨W2.heap.size, 1, none⟩ = some (.int .i64 s) := hI.2.1.cell 1
            have HI := Lib.hid hI
            clear hI
            go_wp2_with fail
            refine step3_done rfl ?_ ?_ ?_
            · exact (toI HIp HI.out)
            · exact (Below.refl _ _)
            · exact (toV HV rfl)
          · clear hV
            (try dsimp only)
            have HI := Lib.hid hI
            clear hI
            go_wp2_with fail
            refine step3_done rfl ?_ ?_ ?_
            · exact (toI HIp HI.out)
            · exact (Below.refl _ _)
            · exact (toV HV rfl)
          · clear hV
            (try dsimp only)
            have HI := Lib.hid hI
            clear hI
            go_wp2_with fail
            refine step3_done rfl ?_ ?_ ?_
            · exact (toI HIp HI.out)
            · exact (Below.refl _ _)
            · exact (toV HV rfl)
          · obtain ⟨u2, u3, u4⟩ := hV
            simp only [u2, u3, u4]
            clear u2 u3 u4
            have HI := Lib.hid hI
            clear hI
            go_wp2_with fail
            refine step3_done rfl ?_ ?_ ?_
            · exact (toI HIp HI.out)
            · exact (Below.refl _ _)
            · exact (toV HV rfl)
          · clear hV
            (try dsimp only)
            have HI := Lib.hid hI
            clear hI
            go_wp2_with fail
            refine step3_done rfl ?_ ?_ ?_
            · exact (toI HIp HI.out)
            · exact (Below.refl _ _)
            · exact (toV HV rfl)
          · have u6 := hV
            clear hV
            simp only [u6]
            clear u6
            have e1 : W.cell? ⟨W2.heap.size, 0, none⟩ = some (.slice ax m cx) := hI.2.1.cell 0
            have e2 : W.cell? ⟨W2.heap.size, 1, none⟩ = some (.int .i64 s) := hI.2.1.cell 1
            have HI := Lib.hid hI
            clear hI
            go_wp2_with fail
            refine step3_done rfl ?_ ?_ ?_
            · exact (toI HIp HI.out)
            · exact (Below.refl _ _)
            · exact (toV HV rfl)
          · clear hV
            (try dsimp only)
            have HI := Lib.hid hI
            clear hI
            go_wp2_with fail
            refine step3_done rfl ?_ ?_ ?_
            · exact (toI HIp HI.out)
            · exact (Below.refl _ _)
            · exact (toV HV rfl)
          · obtain ⟨u7, u8⟩ := hV
            simp only [u7, u8]
            clear u7 u8
            have HI := Lib.hid hI
            clear hI
            go_wp2_with fail
            refine step3_done rfl ?_ ?_ ?_
            · exact (toI HIp HI.out)
            · exact (Below.refl _ _)
            · exact (toV HV rfl)
          · obtain ⟨u5, u9⟩ := hV
            simp only [u5, u9]
            clear u5 u9
            have HI := Lib.hid hI
            clear hI
            go_wp2_with fail
            refine step3_done rfl ?_ ?_ ?_
            · exact (toI HIp HI.out)
            · exact (Below.refl _ _)
            · exact (toV HV rfl)
          · have u0 := hV
            clear hV
            simp only [u0]
            clear u0
            have HI := Lib.hid hI
            clear hI
            go_wp2_with fail
            refine step3_done rfl ?_ ?_ ?_
            · exact (toI HIp HI.out)
            · exact (Below.refl _ _)
            · exact (toV HV rfl)
          · have u10 := hV
            clear hV
            simp only [u10]
            clear u10
            obtain ⟨b1, b2, ⟨v, s', b3, _⟩, b4, b5, b6⟩ := hI
            have e1 : W.cell? ⟨w.heap.size + 1, 0, none⟩ = some v := b3.cell 0
            have e2 : W.cell? ⟨w.heap.size + 1, 1, none⟩ = some (.int .i64 s') := b3.cell 1
            have e3 := b3.frozen
            have hT := touch2 W (w.heap.size + 1) (.slice ax at_ at_) (.int .i64 (min s (at_ : Int)))
            have HN : Hid (Below w.heap.size w ((W.setCell ⟨w.heap.size + 1, 0, none⟩ (.slice ax at_ at_)).setCell ⟨w.heap.size + 1, 1, none⟩ (.int .i64 (min s (at_ : Int)))) ∧ Blk W2.heap.size (.cells #[.slice ax m cx, .int .i64 s] 27 (0, 0)) ((W.setCell ⟨w.heap.size + 1, 0, none⟩ (.slice ax at_ at_)).setCell ⟨w.heap.size + 1, 1, none⟩ (.int .i64 (min s (at_ : Int)))) ∧ Blk (w.heap.size + 1) (.cells #[.slice ax at_ at_, .int .i64 (min s (at_ : Int))] 27 (0, 0)) ((W.setCell ⟨w.heap.size + 1, 0, none⟩ (.slice ax at_ at_)).setCell ⟨w.heap.size + 1, 1, none⟩ (.int .i64 (min s (at_ : Int)))) ∧ RdS (fun b => b < wz.heap.size ∧ ¬ b < W2.heap.size + 1) ((W.setCell ⟨w.heap.size + 1, 0, none⟩ (.slice ax at_ at_)).setCell ⟨w.heap.size + 1, 1, none⟩ (.int .i64 (min s (at_ : Int)))) (rs.take k) a5 k c5 ∧ RdS (fun b => b ≠ w.heap.size + 1 ∧ b < W2.heap.size) ((W.setCell ⟨w.heap.size + 1, 0, none⟩ (.slice ax at_ at_)).setCell ⟨w.heap.size + 1, 1, none⟩ (.int .i64 (min s (at_ : Int)))) l ax m cx ∧ wz.heap.size ≤ ((W.setCell ⟨w.heap.size + 1, 0, none⟩ (.slice ax at_ at_)).setCell ⟨w.heap.size + 1, 1, none⟩ (.int .i64 (min s (at_ : Int)))).heap.size) :=
              ⟨b1.trans (hT.toBelow b1.size (fun k hk => by subst hk; omega)), b2.touch hT (by show ¬ W2.heap.size = w.heap.size + 1; omega), (b3.set 0 _).set 1 _, b4.mono fun b hb => ⟨hb, hT.block b (by have := hb.1; omega) (by show ¬ b = w.heap.size + 1; have := hb.2; omega)⟩, b5.mono fun b hb => ⟨hb, hT.block b (by have := hb.2; omega) hb.1⟩, by have := hT.size; omega⟩
            have HT := Lib.hid hT
            clear b1 b2 b3 b4 b5 hT
            go_wp2_with fail
            exact step3_done (v := undef) rfl (toI HIp ⟨HN.out.1, HN.out.2.1, ⟨_, _, HN.out.2.2.1, fun _ => ⟨rfl, rfl⟩⟩, HN.out.2.2.2.1, HN.out.2.2.2.2.1, HN.out.2.2.2.2.2⟩) HT.out (toV HV rfl)
          · clear hV
            (try dsimp only)
            have HI := Lib.hid hI
            clear hI
            go_wp2_with fail
            refine step3_done rfl ?_ ?_ ?_
            · exact (toI HIp HI.out)
            · exact (Below.refl _ _)
            · exact (toV HV rfl)
        case fin =>
          intro x W L hL hI hV
          replace hI : (Below w.heap.size w W ∧ Blk W2.heap.size (.cells #[.slice ax m cx, .int .i64 s] 27 (0, 0)) W ∧ (∃ v s', Blk (w.heap.size + 1) (.cells #[v, .int .i64 s'] 27 (0, 0)) W ∧ (L 12 = true → v = .slice ax at_ at_ ∧ s' = min s (at_ : Int))) ∧ RdS (fun b => b < wz.heap.size ∧ ¬ b < W2.heap.size + 1) W (rs.take k) a5 k c5 ∧ RdS (fun b => b ≠ w.heap.size + 1 ∧ b < W2.heap.size) W l ax m cx ∧ wz.heap.size ≤ W.heap.size) := ofI HIp hI
          rw [HV.out] at hV
          simp only [AllV, and_true] at hV
          obtain ⟨u0, u1, u2, u3, u4, u5, u6, u7, u8, u9, u10, u11, u12, u13⟩ := hV
          simp only [getsD, List.getD_cons_succ, List.getD_cons_zero, List.length_cons, List.length_nil, List.range, List.range.loop, u0, u1, u2, u3, u4, u5, u6, u7, u8, u9, u10, u11, u12, u13, Act.put, List.setIfInBounds_toArray, List.set_cons_succ, List.set_cons_zero]
          clear u0 u1 u2 u3 u4 u5 u6 u7 u8 u9 u10 u11 u12 u13
          rw [hL 12 (by simp)] at hI
          obtain ⟨b1, b2, ⟨v, s', b3, b3'⟩, b4, b5, b6⟩ := hI
          obtain ⟨rfl, rfl⟩ := b3' rfl
          have f0 : W.cell? ⟨w.heap.size + 1, 0, none⟩ = some (.slice ax at_ at_) := b3.cell 0
          have f1 : W.cell? ⟨w.heap.size + 1, 1, none⟩ = some (.int .i64 (min s (at_ : Int))) := b3.cell 1
          have G : Hid (RecovP rs m s w (.returned (.tuple #[.slice a5 k c5, .agg #[.slice ax at_ at_, .int .i64 (min s (at_ : Int))], .int .i64 0])) W) := by
            refine ⟨k, a5, ax, c5, at_, hk, by rw [Hat.out]; exact hkm, Hj.out, by rw [Hat.out], b4.mono fun b hb => ⟨by have := hb.1; omega, rfl⟩, ?_, b1⟩
            rw [Hat.out, ← Hau.out]
            exact ((b5.upto at_ hkm).cap).mono fun b hb => ⟨by have := hb.2; omega, rfl⟩
          clear b1 b2 b3 b4 b5
          go_wp2_with fail
          refine bodyPost_ret (v := .tuple #[.slice a5 k c5, .agg #[.slice ax at_ at_, .int .i64 (min s (at_ : Int))], .int .i64 0]) (by simp [results, Tryd.results28, go_sem, f0, f1]) rfl ?_
          exact G.out
end Go.Proofs.YtdbdhpjjndhjiaaDoor
