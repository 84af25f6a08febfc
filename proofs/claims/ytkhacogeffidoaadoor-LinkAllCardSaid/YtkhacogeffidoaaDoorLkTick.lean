/- The walk of link.Tick. -/
import Derived.Test.YtkhacogeffidoaaDoorLkSend
set_option linter.unusedVariables false
set_option linter.unusedSimpArgs false
namespace Go.Proofs.YtkhacogeffidoaaDoor
open Go.RowKit

/-- what link.Tick answers -/
def Lk.tickP (l : Lk) : List Pkt := if l.check ≠ 0 then [] else if l.epoch = 0 then [] else if l.sent = [] then [l.barePk] else l.pks 0
def PksP (ps : List Pkt) (E : Int) (w : World) (e : Ending) (w' : World) : Prop :=
  ∃ pa pc, e = .returned (.tuple #[.slice pa ps.length pc, .int .i64 E]) ∧ RdS (fun z => w.heap.size ≤ z ∧ z < w'.heap.size) w' ps pa ps.length pc ∧ Below w.heap.size w w'
set_option maxRecDepth 100000 in
set_option maxHeartbeats 8000000 in
theorem tick_any (l : Lk) (a b : Option Addr) (n c m d : Nat) (w : World) (hg : Good w) (hr : RdS (· < w.heap.size) w l.sent a n c) (hq : RdS (· < w.heap.size) w l.queue b m d) (hl : l.fits) :
    Calls Tryd.prog 23 #[.agg #[.int .i64 l.epoch, .int .i64 l.next, .slice a n c, .slice b m d, .int .i64 l.heard]] w (PksP l.tickP l.check w) := by
  have HC := Lib.hid (fun W (hW : Below w.heap.size w W) => lkCheck_any l a b n c m d W (hg.go hW) (hr.go hW) (hq.go hW) hl)
  unfold lkV at HC
  by_cases h1 : l.check = 0
  · obtain ⟨l1, l2, l3, l4, l5, l6, l7, l8, l9, l10, l11, l12⟩ := lk_zero h1
    by_cases h2 : l.epoch = 0
    · have hp : l.tickP = [] := by unfold Lk.tickP; rw [if_neg (by simpa using h1), if_pos h2]
      have Hend : Hid (∀ W, Below w.heap.size w W → PksP l.tickP l.check w (.returned (.tuple #[.slice none 0 0, .int .i64 0])) W) := fun W h => by rw [hp, h1]; exact ⟨none, 0, rfl, RdS.nil _ _, h⟩
      rw [h1] at HC
      generalize PksP l.tickP l.check w = TP at *
      obtain ⟨ep, nx, ls, lq, he⟩ := l
      simp only at *
      have b2 : (ep == 0) = true := by simpa using h2
      have U0 : Hid (Below w.heap.size w (w.alloc (.cells #[.int .i64 ep, .int .i64 nx, .slice a n c, .slice b m d, .int .i64 he] 33))) := (Below.refl _ _).alloc (Nat.le_refl _) _
      have X0 := Lib.hid (Blk.new w (.cells #[.int .i64 ep, .int .i64 nx, .slice a n c, .slice b m d, .int .i64 he] 33))
      clear h1 h2 hp hr hq hg hl l1 l2 l3 l4 l5 l6 l7 l8 l9 l10 l11 l12
      go_enter Tryd.func23, Tryd.ntmps23
      go_wp2_with fail
      refine (HC.out _ U0.out).mono ?_
      rintro e w1 ⟨rfl, u1⟩
      obtain ⟨q0, q1, q2, q3, q4⟩ := blk_cells5 (X0.out.go u1)
      have G := Lib.hid (Hend.out w1 (up U0.out u1))
      clear u1 X0 U0 HC Hend
      go_wp2_with fail
      exact G.out
    · have hep : (l.epoch == 0) = false := by simpa using h2
      have hsl := frame_ops l10
      have hp : l.tickP = if l.sent = [] then [l.barePk] else l.pks 0 := by unfold Lk.tickP; rw [if_neg (by simpa using h1), if_neg h2]
      have Hend : Hid (∀ ps a c W, l.tickP = ps → RdS (fun z => w.heap.size ≤ z ∧ z < W.heap.size) W ps a ps.length c → Below w.heap.size w W → PksP l.tickP l.check w (.returned (.tuple #[.slice a ps.length c, .int .i64 0])) W) := fun ps a c W e r h => by rw [h1, e]; exact ⟨a, c, rfl, r, h⟩
      rw [hp] at Hend
      rw [h1] at HC
      have Hr := Lib.hid hr
      have Hn := Lib.hid hr.1
      have Hsl := Lib.hid hsl
      have Hfits := Lib.hid hl
      obtain ⟨j0, hi', hz0', hz1', hz2'⟩ := info_parts infoPk
      have Ji := Lib.hid hi'
      have Jz0 := Lib.hid hz0'
      have Jz1 := Lib.hid hz1'
      have Jz2 := Lib.hid hz2'
      clear hi' hz0' hz1' hz2'
      have hn8 : n ≤ 8 := by have := hr.1; omega
      rw [show PksP l.tickP l.check w = PksP (if l.sent = [] then [l.barePk] else l.pks 0) 0 w from by rw [h1, hp]]
      rw [h1] at Hend
      generalize PksP (if l.sent = [] then [l.barePk] else l.pks 0) 0 w = TP at *
      have HPk := Lib.hid (fun W (hW : Below w.heap.size w W) j (hj : j < n) => packet_go' l j a b n c m d W (hr.go hW) hj (by omega) (by omega) (by omega) (fun g hg => by have := hsl g hg; omega))
      have HBr := Lib.hid (fun W => bare_any l (.slice a n c) (.slice b m d) W)
      clear h1 h2 hp hr hq hg hsl l7 l8 l9 l10 l11 l12
      obtain ⟨ep, nx, ls, lq, he⟩ := l
      simp only at *
      have U0 : Hid (Below w.heap.size w (w.alloc (.cells #[.int .i64 ep, .int .i64 nx, .slice a n c, .slice b m d, .int .i64 he] 33))) := (Below.refl _ _).alloc (Nat.le_refl _) _
      have X0 := Lib.hid (Blk.new w (.cells #[.int .i64 ep, .int .i64 nx, .slice a n c, .slice b m d, .int .i64 he] 33))
      go_enter Tryd.func23, Tryd.ntmps23
      go_wp2_with fail
      refine (HC.out _ U0.out).mono ?_
      rintro e w1 ⟨rfl, u1⟩
      have X1 := Lib.hid (X0.out.go u1)
      obtain ⟨q0, q1, q2, q3, q4⟩ := blk_cells5 X1.out
      have U1 := Lib.hid (up U0.out u1)
      have hz1 := X1.out.lt
      have H0 : Hid (Own (fun z => z < w1.heap.size) w1.heap.size 45 (.slice none 0 0) (((⟨ep, nx, ls, lq, he⟩ : Lk).pks 0).take 0) w1) := Own.nil
      clear u1 X0 U0 HC
      go_wp2_with fail
      clear q0 q1 q2 q3 q4
      go_loopw [5, 18] (fun v ix wr => ∃ (j : Nat), ix = .int .i64 ((j : Nat) : Int) ∧ j ≤ n ∧ Own (fun z => z < w1.heap.size) w1.heap.size 45 v (((⟨ep, nx, ls, lq, he⟩ : Lk).pks 0).take j) wr ∧ Below w1.heap.size w1 wr) (fun _ ix _ => n - (intOf ix).toNat)
      case atStart => exact ⟨0, rfl, Nat.zero_le _, H0.out, Below.refl _ _⟩
      case round =>
        obtain ⟨j, rfl, hj, hown, hb⟩ := hrel
        obtain ⟨va, vc, rfl⟩ := hown.form
        clear H0
        obtain ⟨c0, c1, c2, c3, c4⟩ := blk_cells5 (X1.out.go hb)
        have HB := Lib.hid hb
        have HO2 := Lib.hid hown
        have hzr := hb.size
        clear hb
        by_cases hlt : j < n
        · have hkl : 0 + j < ls.length := by have := Hn.out; omega
          have hjl : j < ls.length := by have := Hn.out; omega
          obtain ⟨g, off, hga, -, -, hcs⟩ := Hr.out.frame (by omega)
          obtain ⟨-, -, -, -, hfit, -⟩ := hcs j hjl
          have hpk : ((⟨ep, nx, ls, lq, he⟩ : Lk).pk j) = ⟨ep, nx - ls.length + ((j : Nat) : Int), false, he, ls[j]⟩ := by
            unfold Lk.pk
            simp only
            congr 1
            simp [List.getD, hjl]
          have HPj := Lib.hid (HPk.out wr (up U1.out HB.out) j hlt)
          have Hnx := Lib.hid (pks_next (⟨ep, nx, ls, lq, he⟩ : Lk) 0 j hkl)
          rw [Nat.zero_add] at Hnx
          rw [hpk] at HPj Hnx
          have hls8 : (ls.length : Int) ≤ 8 := by have := Hn.out; omega
          have Hfit : Hid (I64 ep ∧ I64 (nx - ls.length + ((j : Nat) : Int)) ∧ I64 he ∧ (ls[j]).fits) := ⟨Hfits.out.1, ⟨by omega, by omega⟩, Hfits.out.2.2, hfit⟩
          have Hlen : Hid ((((⟨ep, nx, ls, lq, he⟩ : Lk).pks 0).take j).length = j) := by unfold Hid; rw [List.length_take, pks_len]; simp only; omega
          generalize (((⟨ep, nx, ls, lq, he⟩ : Lk).pks 0).take j) = pk0 at *
          generalize ls[j] = f at *
          obtain ⟨nu, hnu⟩ : ∃ nu, nx - ls.length + ((j : Nat) : Int) = nu := ⟨_, rfl⟩
          rw [hnu] at HPj Hnx Hfit
          clear hpk hcs hfit hga hnu hown
          obtain ⟨fk, fh, fe, fo, ft⟩ := f
          go_wp2_with fail
          refine HPj.out.mono ?_
          rintro e w3 ⟨a3, cp3, rfl, r3, u3⟩
          simp only at r3 ⊢
          have HO3 := Lib.hid (HO2.out.go u3)
          have hz3 := u3.size
          have hrow2 := fun k hk => HO2.out.rowlt k hk
          have HB3 := Lib.hid (up HB.out u3)
          have hal : Below w3.heap.size w3 (w3.alloc (.cells #[.int .i64 ep, .int .i64 nu, .bool false, .int .i64 he, .int .i64 fk, .int .i64 fh, .int .i64 fe, .slice a3 fo.length cp3, .string ft] 45)) := (Below.refl _ _).alloc (Nat.le_refl _) _
          have Hy : Hid (Rep.rd (fun z => z < (w3.alloc (.cells #[.int .i64 ep, .int .i64 nu, .bool false, .int .i64 he, .int .i64 fk, .int .i64 fh, .int .i64 fe, .slice a3 fo.length cp3, .string ft] 45)).heap.size ∧ ¬ (fun z => z < w1.heap.size) z ∧ (Value.slice va pk0.length vc).ownBlock ≠ some z) (w3.alloc (.cells #[.int .i64 ep, .int .i64 nu, .bool false, .int .i64 he, .int .i64 fk, .int .i64 fh, .int .i64 fe, .slice a3 fo.length cp3, .string ft] 45)) (⟨ep, nu, false, he, ⟨fk, fh, fe, fo, ft⟩⟩ : Pkt) [.int .i64 ep, .int .i64 nu, .bool false, .int .i64 he, .int .i64 fk, .int .i64 fh, .int .i64 fe, .slice a3 fo.length cp3, .string ft]) :=
            ⟨a3, fo.length, cp3, rfl, r3.mono fun z hz => ⟨⟨by simp; omega, by omega, fun e => by have := hrow2 z e; omega⟩, hal.block z hz.2⟩, Hfit.out⟩
          have HO4 := Lib.hid (HO3.out.go hal)
          have HB4 := Lib.hid (up HB3.out hal)
          have hz4 : (w3.alloc (.cells #[.int .i64 ep, .int .i64 nu, .bool false, .int .i64 he, .int .i64 fk, .int .i64 fh, .int .i64 fe, .slice a3 fo.length cp3, .string ft] 45)).heap.size = w3.heap.size + 1 := by simp
          have HNew := Lib.hid (Blk.new w3 (.cells #[.int .i64 ep, .int .i64 nu, .bool false, .int .i64 he, .int .i64 fk, .int .i64 fh, .int .i64 fe, .slice a3 fo.length cp3, .string ft] 45))
          have Hz4 := Lib.hid hz4
          clear u3 r3 HPj hal HO3 HB3 hz4
          go_wp2_with (at_builtin; go_must (refine wpList_append_one rfl _ _ _ (by rfl) w1.heap.size 45 j0 _ 96 Tryd.underlying35 Ji.out Jz0.out Jz1.out Jz2.out rfl (.slice va pk0.length vc) pk0 (by rfl) HO4.out w3.heap.size 1 _ [.int .i64 ep, .int .i64 nu, .bool false, .int .i64 he, .int .i64 fk, .int .i64 fh, .int .i64 fe, .slice a3 fo.length cp3, .string ft] (⟨ep, nu, false, he, ⟨fk, fh, fe, fo, ft⟩⟩ : Pkt) (by rfl) HNew.out Hy.out (by have := Hlen.out; unfold maxLen; omega) (by have := Hlen.out; omega) (by have := Hz4.out; omega) ?_))
          intro g2 cap w5 hown5 hgrow hat hlt5
          have hb5 := HB4.out.grown hgrow (by have := Hz4.out; omega) (fun k hk => (hrow2 k hk).1)
          have HP := Lib.hid (And.intro hown5 hb5)
          have hlen := Hlen.out
          clear hown5 hgrow hat hb5 HO4 HB4 HNew Hy Hz4
          go_wp2_with fail
          go_roundw
          case rel => exact ⟨j + 1, by go_num, by omega, by rw [Hnx.out]; exact HP.out.1, HP.out.2⟩
          case measure => simp [intOf]; omega
        · have hjn : j = n := by omega
          subst hjn
          have htk : (((⟨ep, nx, ls, lq, he⟩ : Lk).pks 0).take j) = (⟨ep, nx, ls, lq, he⟩ : Lk).pks 0 := List.take_of_length_le (by rw [pks_len]; simp only; have := Hn.out; omega)
          have hpl : ((⟨ep, nx, ls, lq, he⟩ : Lk).pks 0).length = j := by rw [pks_len]; simp only; have := Hn.out; omega
          rw [htk, hpl] at hown HO2
          rw [htk, hpl]
          by_cases hj0 : j = 0
          · subst hj0
            have hls : ls = [] := List.eq_nil_of_length_eq_zero Hn.out.symm
            have hpn : (⟨ep, nx, ls, lq, he⟩ : Lk).pks 0 = [] := List.eq_nil_of_length_eq_zero hpl
            rw [hpn] at HO2
            rw [if_pos hls] at Hend
            clear hls hpn hpl htk hown
            go_wp2_with fail
            refine (HBr.out wr).mono ?_
            rintro e w3 ⟨a3, cp3, rfl, r3, u3⟩
            simp only [Lk.barePk, bareFr, List.length_nil] at r3 ⊢
            have hrow2 := fun k hk => HO2.out.rowlt k hk
            have hz3 := u3.size
            have hal : Below w3.heap.size w3 (w3.alloc (.cells #[.int .i64 ep, .int .i64 0, .bool true, .int .i64 he, .int .i64 0, .int .i64 0, .int .i64 0, .slice a3 0 cp3, .string noText] 45)) := (Below.refl _ _).alloc (Nat.le_refl _) _
            have Hy : Hid (Rep.rd (fun z => z < (w3.alloc (.cells #[.int .i64 ep, .int .i64 0, .bool true, .int .i64 he, .int .i64 0, .int .i64 0, .int .i64 0, .slice a3 0 cp3, .string noText] 45)).heap.size ∧ ¬ (fun z => z < w1.heap.size) z ∧ (Value.slice va 0 vc).ownBlock ≠ some z) (w3.alloc (.cells #[.int .i64 ep, .int .i64 0, .bool true, .int .i64 he, .int .i64 0, .int .i64 0, .int .i64 0, .slice a3 0 cp3, .string noText] 45)) ((⟨ep, nx, ls, lq, he⟩ : Lk).barePk) [.int .i64 ep, .int .i64 0, .bool true, .int .i64 he, .int .i64 0, .int .i64 0, .int .i64 0, .slice a3 0 cp3, .string noText]) :=
              ⟨a3, 0, cp3, rfl, r3.mono fun z hz => ⟨⟨by simp; omega, by omega, fun e => by have := hrow2 z e; omega⟩, hal.block z hz.2⟩, Hfits.out.1, by unfold I64; simp [Lk.barePk], Hfits.out.2.2, ⟨by unfold I64; simp [Lk.barePk, bareFr], by unfold I64; simp [Lk.barePk, bareFr], by unfold I64; simp [Lk.barePk, bareFr], by simp [Lk.barePk, bareFr, noText_size]⟩⟩
            have HO4 := Lib.hid ((HO2.out.go u3).go hal)
            have HB4 := Lib.hid (up (up HB.out u3) hal)
            have Hz4 : Hid ((w3.alloc (.cells #[.int .i64 ep, .int .i64 0, .bool true, .int .i64 he, .int .i64 0, .int .i64 0, .int .i64 0, .slice a3 0 cp3, .string noText] 45)).heap.size = w3.heap.size + 1) := by unfold Hid; simp
            have HNew := Lib.hid (Blk.new w3 (.cells #[.int .i64 ep, .int .i64 0, .bool true, .int .i64 he, .int .i64 0, .int .i64 0, .int .i64 0, .slice a3 0 cp3, .string noText] 45))
            clear u3 r3 hal
            go_wp2_with (at_builtin; go_must (refine wpList_append_one rfl _ _ _ (by rfl) w1.heap.size 45 j0 _ 96 Tryd.underlying35 Ji.out Jz0.out Jz1.out Jz2.out rfl (.slice va 0 vc) [] (by rfl) HO4.out w3.heap.size 1 _ [.int .i64 ep, .int .i64 0, .bool true, .int .i64 he, .int .i64 0, .int .i64 0, .int .i64 0, .slice a3 0 cp3, .string noText] ((⟨ep, nx, ls, lq, he⟩ : Lk).barePk) (by rfl) HNew.out Hy.out (by simp [maxLen]) (by simp) (by have := Hz4.out; omega) ?_))
            intro g2 cap w5 hown5 hgrow hat hlt5
            have hb5 := HB4.out.grown hgrow (by have := Hz4.out; omega) (fun k hk => (hrow2 k hk).1)
            obtain ⟨oa, oc, hoe, hor⟩ := hown5.rd (fun k hk hx => by have := (hown5.rowlt k hk).1; omega)
            injection hoe with ho1 ho2 ho3
            subst ho1 ho3
            have G := Lib.hid (Hend.out _ _ _ w5 rfl (hor.mono fun z hz => ⟨⟨by have := hz.2; omega, hz.1⟩, rfl⟩) (U1.out.trans (hb5.mono (by omega))))
            clear hown5 hgrow hat hb5 HO4 HB4 HNew Hy Hz4 hor ho2 Hend
            simp only [List.nil_append, List.length_singleton, List.length_nil] at G ⊢
            go_wp2_with fail
            exact G.out
          · have hls : ls ≠ [] := by intro e; have := Hn.out; rw [e] at this; simp at this; omega
            rw [if_neg hls] at Hend
            obtain ⟨oa, oc, hoe, hor⟩ := hown.rd (fun k hk hx => by have := (hown.rowlt k hk).1; omega)
            rw [hpl] at hoe hor
            injection hoe with ho1 ho2 ho3
            subst ho1 ho3
            have G := Lib.hid (Hend.out _ va vc wr rfl (by rw [hpl]; exact hor.mono fun z hz => ⟨⟨by have := hz.2; omega, hz.1⟩, rfl⟩) (U1.out.trans (HB.out.mono (by omega))))
            rw [hpl] at G
            have hd0 : ((j : Int) == 0) = false := by simp; omega
            clear hown hor HO2 htk Hend ho2 hls hpl
            go_wp2_with fail
            exact G.out
  · have hp : l.tickP = [] := by unfold Lk.tickP; rw [if_pos h1]
    have Hend : Hid (∀ W, Below w.heap.size w W → PksP l.tickP l.check w (.returned (.tuple #[.slice none 0 0, .int .i64 l.check])) W) := fun W h => by rw [hp]; exact ⟨none, 0, rfl, RdS.nil _ _, h⟩
    generalize PksP l.tickP l.check w = TP at *
    generalize l.check = E at *
    have b1 : (E != 0) = true := by simpa using h1
    obtain ⟨ep, nx, ls, lq, he⟩ := l
    simp only at *
    have U0 : Hid (Below w.heap.size w (w.alloc (.cells #[.int .i64 ep, .int .i64 nx, .slice a n c, .slice b m d, .int .i64 he] 33))) := (Below.refl _ _).alloc (Nat.le_refl _) _
    clear h1 hp hr hq hg hl
    go_enter Tryd.func23, Tryd.ntmps23
    go_wp2_with fail
    refine (HC.out _ U0.out).mono ?_
    rintro e w1 ⟨rfl, u1⟩
    have G := Lib.hid (Hend.out w1 (up U0.out u1))
    clear u1 U0 HC Hend
    go_wp2_with fail
    exact G.out
end Go.Proofs.YtkhacogeffidoaaDoor
