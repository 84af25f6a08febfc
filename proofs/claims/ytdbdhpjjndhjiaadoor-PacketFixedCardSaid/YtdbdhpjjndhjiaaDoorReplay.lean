/- The walks of wire.CheckRecord and tape.Replay. -/
import Derived.Test.YtdbdhpjjndhjiaaDoorUp
import Derived.Test.YtdbdhpjjndhjiaaDoorFrame
import Derived.WalkLawsBesides
set_option linter.unusedSimpArgs false
namespace Go.Proofs.YtdbdhpjjndhjiaaDoor
open Go.RowKit

/-- a record of a tape -/
structure Rec where
  epoch : Int
  op : Op
instance : Rep Rec where
  n := 2
  rd := fun A w x cs => ∃ (a : Option Addr) (n c : Nat), cs = [.int .i64 x.epoch, .slice a n c] ∧ I64 x.epoch ∧ RdS A w x.op a n c
  len := fun ⟨_, _, _, h, _⟩ => by rw [h]; rfl
  mono := fun h ⟨a, n, c, e, hi, hr⟩ => ⟨a, n, c, e, hi, hr.mono h⟩
  one := fun ⟨_, _, _, h, _⟩ => by rw [h]; simp [Value.oneCell']
  pos := by decide
def checkRecord (r : Rec) : Int := if num r.epoch = false then 2 else if 0 < r.epoch ∧ 0 < r.op.length then 4 else check r.op
/-- one element of a slice of records -/
theorem RdS.recs {A : Nat → Prop} {w : World} {l : List Rec} {a : Option Addr} {n c : Nat} (hr : RdS A w l a n c) (hn : 0 < n) :
    ∃ b off, a = some ⟨b, off, none⟩ ∧ A b ∧ b < w.heap.size ∧ ∀ i (h : i < l.length), ∃ a' n' c', I64 l[i].epoch ∧ RdS A w l[i].op a' n' c' ∧ w.cell? ⟨b, off + i * 2, none⟩ = some (.int .i64 l[i].epoch) ∧ w.cell? ⟨b, off + i * 2 + 1, none⟩ = some (.slice a' n' c') := by
  obtain ⟨b, off, e, hA, hb, he⟩ := hr.2.2.2.2 hn
  refine ⟨b, off, e, hA, hb, fun i h => ?_⟩
  obtain ⟨xs, ⟨a', n', c', rfl, h0, h1⟩, h4⟩ := he i l[i] (List.getElem?_eq_getElem h)
  exact ⟨a', n', c', h0, h1, h4 0 _ rfl, h4 1 _ rfl⟩

set_option maxHeartbeats 1000000 in
theorem checkRecord_any (r : Rec) (a : Option Addr) (n c : Nat) (w : World) (hg : Good w) (hr : RdS (· < w.heap.size) w r.op a n c) (he : I64 r.epoch) :
    Calls Tryd.prog 35 #[.agg #[.int .i64 r.epoch, .slice a n c]] w fun e w' => e = .returned (.int .i64 (checkRecord r)) ∧ Below w.heap.size w w' := by
  obtain ⟨ep, o⟩ := r
  simp only at hr he ⊢
  have hnl := hr.1
  have hnm : n ≤ maxLen := by have h1 := hr.2.1; have h2 := hr.2.2.1; omega
  unfold maxLen at hnm
  have HN := Lib.hid (fun W => number_any ep W he)
  unfold I64 at he
  have Hck := Lib.hid (fun W hg hr => check_go o a n c W hg hr)
  have Hr := Lib.hid hr
  generalize hR : checkRecord ⟨ep, o⟩ = R
  have HR := Lib.hid hR
  clear hr hR
  unfold checkRecord at HR
  simp only at HR
  rw [← hnl] at HR
  clear hnl
  cases hnum : num ep with
  | false =>
    rw [hnum] at HN
    have H0 : Hid (R = 2) := by unfold Hid; rw [← HR.out, hnum]; rfl
    clear hnum HR
    go_enter Tryd.func35, Tryd.ntmps35
    go_wp2_with fail
    refine (HN.out _).mono ?_
    rintro e w1 ⟨rfl, rfl⟩
    go_wp2_with fail
    go_ret
    exact ⟨ret_int H0.out.symm, by (repeat (first | exact Below.refl _ _ | assumption | (refine Below.drew ?_) | (refine below_drewN ?_ _) | (refine Below.alloc ?_ (by first | (simp; done) | (simp; omega) | omega) _) | (refine Below.setCell ?_ (by first | (simp; done) | (simp; omega) | omega) _) | (refine Below.trans ?_ (Below.mono (by assumption) (by first | (simp; done) | (simp; omega) | omega)))))⟩
  | true =>
    rw [hnum] at HN
    by_cases h2 : 0 < ep ∧ 0 < n
    · have H0 : Hid (R = 4) := by unfold Hid; rw [← HR.out, hnum, if_neg (by simp), if_pos h2]
      obtain ⟨h3, h4⟩ := h2
      clear hnum HR
      go_enter Tryd.func35, Tryd.ntmps35
      go_wp2_with fail
      refine (HN.out _).mono ?_
      rintro e w1 ⟨rfl, rfl⟩
      go_wp2_with fail
      go_ret
      exact ⟨ret_int H0.out.symm, by (repeat (first | exact Below.refl _ _ | assumption | (refine Below.drew ?_) | (refine below_drewN ?_ _) | (refine Below.alloc ?_ (by first | (simp; done) | (simp; omega) | omega) _) | (refine Below.setCell ?_ (by first | (simp; done) | (simp; omega) | omega) _) | (refine Below.trans ?_ (Below.mono (by assumption) (by first | (simp; done) | (simp; omega) | omega)))))⟩
    · have H0 : Hid (R = check o) := by unfold Hid; rw [← HR.out, hnum, if_neg (by simp), if_neg h2]
      have h3 : ¬ 0 < ep ∨ ¬ 0 < n := by omega
      clear hnum HR h2
      rcases h3 with h3 | h3
      · go_enter Tryd.func35, Tryd.ntmps35
        go_wp2_with fail
        refine (HN.out _).mono ?_
        rintro e w1 ⟨rfl, rfl⟩
        go_wp2_with fail
        have hb : ∀ o, Below w.heap.size w (w.alloc o) := fun o => (Below.refl _ _).alloc (Nat.le_refl _) _
        refine (Hck.out _ (hg.go (hb _)) (Hr.out.go (hb _))).mono ?_
        rintro e w2 ⟨rfl, u2⟩
        have HF := Lib.hid (up (hb _) u2)
        clear hb u2
        go_wp2_with fail
        go_ret
        exact ⟨ret_int H0.out.symm, HF.out⟩
      · by_cases h4 : 0 < ep
        · go_enter Tryd.func35, Tryd.ntmps35
          go_wp2_with fail
          refine (HN.out _).mono ?_
          rintro e w1 ⟨rfl, rfl⟩
          go_wp2_with fail
          have hb : ∀ o, Below w.heap.size w (w.alloc o) := fun o => (Below.refl _ _).alloc (Nat.le_refl _) _
          refine (Hck.out _ (hg.go (hb _)) (Hr.out.go (hb _))).mono ?_
          rintro e w2 ⟨rfl, u2⟩
          have HF := Lib.hid (up (hb _) u2)
          clear hb u2
          go_wp2_with fail
          go_ret
          exact ⟨ret_int H0.out.symm, HF.out⟩
        · go_enter Tryd.func35, Tryd.ntmps35
          go_wp2_with fail
          refine (HN.out _).mono ?_
          rintro e w1 ⟨rfl, rfl⟩
          go_wp2_with fail
          have hb : ∀ o, Below w.heap.size w (w.alloc o) := fun o => (Below.refl _ _).alloc (Nat.le_refl _) _
          refine (Hck.out _ (hg.go (hb _)) (Hr.out.go (hb _))).mono ?_
          rintro e w2 ⟨rfl, u2⟩
          have HF := Lib.hid (up (hb _) u2)
          clear hb u2
          go_wp2_with fail
          go_ret
          exact ⟨ret_int H0.out.symm, HF.out⟩

/-- what Replay makes of records, from a text and an epoch on -/
def rep : List Rec → Str → Int → Str × Int × Int
  | [], s, e => (s, e, 0)
  | r :: l, s, e =>
    if checkRecord r ≠ 0 then (noText, 0, checkRecord r)
    else if 0 < r.epoch then rep l s (max e r.epoch)
    else if applyE s r.op ≠ 0 then (noText, 0, applyE s r.op)
    else rep l (applyS s r.op) e
def repV (x : Str × Int × Int) : Value := .tuple #[.string x.1, .int .i64 x.2.1, .int .i64 x.2.2]
theorem rep_bad {r : Rec} {l : List Rec} {s : Str} {e : Int} (h : checkRecord r ≠ 0) : rep (r :: l) s e = (noText, 0, checkRecord r) := by simp [rep, h]
theorem rep_epoch {r : Rec} {l : List Rec} {s : Str} {e : Int} (h : checkRecord r = 0) (h2 : 0 < r.epoch) : rep (r :: l) s e = rep l s (max e r.epoch) := by simp [rep, h, h2]
theorem rep_miss {r : Rec} {l : List Rec} {s : Str} {e : Int} (h : checkRecord r = 0) (h2 : ¬ 0 < r.epoch) (h3 : applyE s r.op ≠ 0) : rep (r :: l) s e = (noText, 0, applyE s r.op) := by simp [rep, h, h2, h3]
theorem rep_op {r : Rec} {l : List Rec} {s : Str} {e : Int} (h : checkRecord r = 0) (h2 : ¬ 0 < r.epoch) (h3 : applyE s r.op = 0) : rep (r :: l) s e = rep l (applyS s r.op) e := by simp [rep, h, h2, h3]
theorem applyS_size {s : Str} {o : Op} (h : applyE s o = 0) : (applyS s o).size ≤ 16000 := by
  have h0 : checkText s = 0 := by
    by_cases h1 : checkText s = 0
    · exact h1
    · unfold applyE at h; rw [if_pos h1] at h; exact h
  have h2 : check o = 0 := by
    by_cases h1 : check o = 0
    · exact h1
    · unfold applyE at h; rw [if_neg (by simpa using h0), if_pos h1] at h; exact h
  have h3 : sumF o = rc s := by
    by_cases h1 : sumF o = rc s
    · exact h1
    · rw [apply_miss h0 h2 h1] at h; omega
  have h4 := (apply_good h0 h2 h3)
  exact h4.2.2.2.2.2
theorem checkRecord_num {r : Rec} (h : checkRecord r = 0) : 0 ≤ r.epoch ∧ r.epoch ≤ 1048576 := by
  unfold checkRecord at h
  cases hn : num r.epoch with
  | false => rw [hn] at h; simp at h
  | true => unfold num at hn; simp at hn; omega

set_option maxRecDepth 100000 in
set_option maxHeartbeats 3000000 in
theorem replay_any (l : List Rec) (a : Option Addr) (n c : Nat) (w : World) (hg : Good w) (hr : RdS (· < w.heap.size) w l a n c) :
    Calls Tryd.prog 34 #[.slice a n c] w fun e w' => e = .returned (repV (rep l noText 0)) ∧ Below w.heap.size w w' := by
  have hnl := hr.1
  have hnm : n ≤ maxLen := by have h1 := hr.2.1; have h2 := hr.2.2.1; omega
  unfold maxLen at hnm
  have Hl := Lib.hid hnl
  have Hr := Lib.hid hr
  clear hr hnl
  generalize hR : rep l noText 0 = R
  have HR := Lib.hid hR
  clear hR
  go_enter Tryd.func34, Tryd.ntmps34
  go_wp2_with fail
  go_loopw [5, 6, 14] (fun sv ev i wr => ∃ (k : Nat) (s : Str) (ep : Int), k ≤ n ∧ i = .int .i64 k ∧ sv = .string s ∧ ev = .int .i64 ep ∧ rep l noText 0 = rep (l.drop k) s ep ∧ s.size ≤ 16000 ∧ 0 ≤ ep ∧ ep ≤ 1048576 ∧ Below w.heap.size w wr) (fun _ _ i _ => n - (intOf i).toNat)
  case atStart => exact ⟨0, noText, 0, by omega, rfl, rfl, rfl, rfl, by rw [noText_size]; omega, by omega, by omega, Below.refl _ _⟩
  case round =>
    obtain ⟨k, s, ep, hk, rfl, rfl, rfl, hrep, hsz, hep0, hep1, hb⟩ := hrel
    by_cases hlt : k < n
    · obtain ⟨b, off, rfl, hAb, hbs, hcs⟩ := (Hr.out.go hb).recs (by omega)
      have hkl : k < l.length := by have := Hl.out; omega
      obtain ⟨ak, nk, ck, hi, hrk, d0, d1⟩ := hcs k hkl
      have hgr := hg.go hb
      rw [List.drop_eq_getElem_cons hkl] at hrep
      clear hcs
      generalize l[k] = r at *
      obtain ⟨re, ro⟩ := r
      simp only at hi hrk d0
      have Hck := Lib.hid (fun W hg hr => checkRecord_any ⟨re, ro⟩ ak nk ck W hg hr hi)
      have Hap := Lib.hid (fun W hg hr => apply_any s ro ak nk ck W hg hr (by omega))
      have hnum := checkRecord_num (r := ⟨re, ro⟩)
      have e1 := rep_bad (r := ⟨re, ro⟩) (l := l.drop (k + 1)) (s := s) (e := ep)
      have e2 := rep_epoch (r := ⟨re, ro⟩) (l := l.drop (k + 1)) (s := s) (e := ep)
      have e3 := rep_miss (r := ⟨re, ro⟩) (l := l.drop (k + 1)) (s := s) (e := ep)
      have e4 := rep_op (r := ⟨re, ro⟩) (l := l.drop (k + 1)) (s := s) (e := ep)
      have hasz := applyS_size (s := s) (o := ro)
      unfold I64 at hi
      simp only at Hck Hap e1 e2 e3 e4 hnum
      have Hrk := Lib.hid hrk
      have HB := Lib.hid hb
      have Hrep := Lib.hid hrep
      have Hu : Hid (∀ o, Below wr.heap.size wr (wr.alloc o)) := fun o => (Below.refl _ _).alloc (Nat.le_refl _) _
      have Hg := Lib.hid hgr
      clear hrk hb hrep hgr
      by_cases hc : checkRecord ⟨re, ro⟩ = 0
      · have hn := hnum hc
        by_cases hpe : 0 < re
        · have Hrep2 : Hid (rep l noText 0 = rep (l.drop (k + 1)) s (max ep re)) := by unfold Hid; rw [Hrep.out]; exact e2 hc hpe
          have hmx : 0 ≤ max ep re ∧ max ep re ≤ 1048576 := by omega
          rw [hc] at Hck
          clear hc e1 e2 e3 e4 hnum hasz Hrep Hap
          go_wp2_with fail
          refine (Hck.out _ (Hg.out.go (Hu.out _)) (Hrk.out.go (Hu.out _))).mono ?_
          rintro e w1 ⟨rfl, u1⟩
          have x1 := (Blk.new wr (.cells #[.int .i64 re, .slice ak nk ck] 33)).go u1
          have c0 : w1.cell? ⟨wr.heap.size, 0, none⟩ = some (.int .i64 re) := x1.cell 0
          have HB1 := Lib.hid (up HB.out (up (Hu.out _) u1))
          clear u1 x1 HB
          generalize hmx' : max ep re = mx at *
          have Hmx := Lib.hid hmx'
          clear hmx'
          go_wp2_with fail
          go_roundw
          case rel => exact ⟨k + 1, s, mx, by omega, by go_num, rfl, by rw [← Hmx.out], Hrep2.out, hsz, hmx.1, hmx.2, HB1.out⟩
          case measure => simp [intOf]; omega
        · by_cases hap : applyE s ro = 0
          · have Hrep2 : Hid (rep l noText 0 = rep (l.drop (k + 1)) (applyS s ro) ep) := by unfold Hid; rw [Hrep.out]; exact e4 hc hpe hap
            have hs2 := hasz hap
            rw [hc] at Hck
            rw [hap] at Hap
            clear hc e1 e2 e3 e4 hnum hasz Hrep hap
            generalize applyS s ro = s2 at *
            go_wp2_with fail
            refine (Hck.out _ (Hg.out.go (Hu.out _)) (Hrk.out.go (Hu.out _))).mono ?_
            rintro e w1 ⟨rfl, u1⟩
            have x1 := (Blk.new wr (.cells #[.int .i64 re, .slice ak nk ck] 33)).go u1
            have c0 : w1.cell? ⟨wr.heap.size, 0, none⟩ = some (.int .i64 re) := x1.cell 0
            have c1 : w1.cell? ⟨wr.heap.size, 1, none⟩ = some (.slice ak nk ck) := x1.cell 1
            have U1 := Lib.hid (up (Hu.out _) u1)
            clear u1 x1
            go_wp2_with fail
            refine (Hap.out _ (Hg.out.go U1.out) (Hrk.out.go U1.out)).mono ?_
            rintro e w2 ⟨rfl, u2⟩
            have HB2 := Lib.hid (up HB.out (up U1.out u2))
            clear u2 HB
            go_wp2_with fail
            go_roundw
            case rel => exact ⟨k + 1, s2, ep, by omega, by go_num, rfl, rfl, Hrep2.out, hs2, hep0, hep1, HB2.out⟩
            case measure => simp [intOf]; omega
          · have H0 : Hid (R = (noText, 0, applyE s ro)) := by unfold Hid; rw [← HR.out, Hrep.out]; exact e3 hc hpe hap
            have hne : (applyE s ro != 0) = true := by simpa using hap
            rw [hc] at Hck
            have hs0 : applyS s ro = noText := by unfold applyS; rw [if_neg hap]
            rw [hs0] at Hap
            clear hc e1 e2 e3 e4 hnum hasz Hrep hap HR hs0
            generalize applyE s ro = C at *
            go_wp2_with fail
            refine (Hck.out _ (Hg.out.go (Hu.out _)) (Hrk.out.go (Hu.out _))).mono ?_
            rintro e w1 ⟨rfl, u1⟩
            have x1 := (Blk.new wr (.cells #[.int .i64 re, .slice ak nk ck] 33)).go u1
            have c0 : w1.cell? ⟨wr.heap.size, 0, none⟩ = some (.int .i64 re) := x1.cell 0
            have c1 : w1.cell? ⟨wr.heap.size, 1, none⟩ = some (.slice ak nk ck) := x1.cell 1
            have U1 := Lib.hid (up (Hu.out _) u1)
            clear u1 x1
            go_wp2_with fail
            refine (Hap.out _ (Hg.out.go U1.out) (Hrk.out.go U1.out)).mono ?_
            rintro e w2 ⟨rfl, u2⟩
            have HB2 := Lib.hid (up HB.out (up U1.out u2))
            clear u2 HB
            go_wp2_with fail
            go_ret3
            exact ⟨by rw [H0.out]; rfl, HB2.out⟩
      · have H0 : Hid (R = (noText, 0, checkRecord ⟨re, ro⟩)) := by unfold Hid; rw [← HR.out, Hrep.out]; exact e1 hc
        have hcb : (checkRecord ⟨re, ro⟩ != 0) = true := by simpa using hc
        clear hc e1 e2 e3 e4 hnum hasz Hrep HR Hap
        generalize checkRecord ⟨re, ro⟩ = C at *
        go_wp2_with fail
        refine (Hck.out _ (Hg.out.go (Hu.out _)) (Hrk.out.go (Hu.out _))).mono ?_
        rintro e w1 ⟨rfl, u1⟩
        have HB1 := Lib.hid (up HB.out (up (Hu.out _) u1))
        clear u1 HB
        go_wp2_with fail
        go_ret3
        exact ⟨by rw [H0.out]; rfl, HB1.out⟩
    · have hkn : k = l.length := by have := Hl.out; omega
      rw [hkn, List.drop_length] at hrep
      have H0 : Hid (R = (s, ep, 0)) := by unfold Hid; rw [← HR.out, hrep]; rfl
      have HB := Lib.hid hb
      clear hkn hrep HR hb
      go_wp2_with fail
      go_ret3
      exact ⟨by rw [H0.out]; rfl, HB.out⟩
end Go.Proofs.YtdbdhpjjndhjiaaDoor
