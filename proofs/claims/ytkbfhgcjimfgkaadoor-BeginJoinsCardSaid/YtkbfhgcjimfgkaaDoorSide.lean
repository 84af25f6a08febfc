/- The walk of node.side. -/
import Derived.Test.YtkbfhgcjimfgkaaDoorNd
import Derived.Test.YtkbfhgcjimfgkaaDoorSend
set_option linter.unusedVariables false
set_option linter.unusedSimpArgs false
namespace Go.Proofs.YtkbfhgcjimfgkaaDoor
open Go.RowKit

/-- what a node's text has is what its side's last operation makes -/
def sideLast (n : Nd) (s : Sd) : Bool := match lastT s.e.pending with
  | some t => t == rc n.text
  | none => true
def sideOk (n : Nd) (s : Sd) : Bool :=
  if edgeCheck s.e.sent s.e.heard s.e.pending ≠ 0 then false else if s.l.check ≠ 0 then false else if s.joined = false then s.e.sent + s.e.heard == 0 else if sideLast n s = false then false else n.ready && decide (0 < s.l.epoch)
theorem edgeCheck_zero {s h : Int} {l : List Op} (H : edgeCheck s h l = 0) : 0 ≤ s ∧ s ≤ 1048576 ∧ 0 ≤ h ∧ h ≤ 1048576 ∧ (l.length : Int) ≤ s ∧ chainFrom none l = true := by
  unfold edgeCheck at H
  by_cases h1 : edgeOdd s h l
  · rw [if_pos h1] at H; exact absurd H (by decide)
  · rw [if_neg h1] at H
    by_cases h2 : chainFrom none l = true
    · unfold edgeOdd at h1
      exact ⟨by omega, by omega, by omega, by omega, by omega, h2⟩
    · rw [if_neg h2] at H; exact absurd H (by decide)
theorem chain_all : ∀ {l : List Op} {q : Option Int}, chainFrom q l = true → ∀ o ∈ l, check o = 0
  | [], _, _, o, ho => by cases ho
  | p :: l, q, h, o, ho => by
    have hp : check p = 0 := by
      by_cases hp : check p = 0
      · exact hp
      · rw [chain_bad hp] at h; cases h
    have hl : chainFrom (some (sumT p)) l = true := by
      cases q with
      | none => rwa [chain_none hp] at h
      | some t =>
        by_cases ht : sumF p = t
        · rwa [chain_on hp ht] at h
        · rw [chain_off ht] at h; cases h
    rcases List.mem_cons.1 ho with rfl | ho
    · exact hp
    · exact chain_all hl o ho
set_option maxRecDepth 100000 in
set_option maxHeartbeats 4000000 in
theorem side_any (n : Nd) (a : Option Addr) (c : Nat) (ua : Option Addr) (uc : Nat) (ma : Option Addr) (mc : Nat) (s : Sd) (ea : Option Addr) (ec : Nat) (la : Option Addr) (lc : Nat) (qa : Option Addr) (qc : Nat) (w : World) (hg : Good w) (hn : n.text.size ≤ strMax)
    (h1 : RdS (· < w.heap.size) w s.e.pending ea s.e.pending.length ec) (h2 : RdS (· < w.heap.size) w s.l.sent la s.l.sent.length lc) (h3 : RdS (· < w.heap.size) w s.l.queue qa s.l.queue.length qc) (he : s.e.fits) (hl : s.l.fits) :
    Calls Tryd.prog 30 #[.agg #[.int .i64 n.me, .int .i64 n.epoch, .int .i64 n.up, .bool n.ready, .string n.text, .slice a n.sides.length c, .slice ua n.undo.length uc, .slice ma n.marks.length mc], .agg #[.int .i64 s.peer, .bool s.joined, .int .i64 s.e.sent, .int .i64 s.e.heard, .slice ea s.e.pending.length ec, .int .i64 s.l.epoch, .int .i64 s.l.next, .slice la s.l.sent.length lc, .slice qa s.l.queue.length qc, .int .i64 s.l.heard]] w
      fun e w' => e = .returned (.bool (sideOk n s)) ∧ Below w.heap.size w w' := by
  have HE := Lib.hid (fun W (hW : Below w.heap.size w W) => edge_any s.e.sent s.e.heard s.e.pending ea s.e.pending.length ec W (hg.go hW) (h1.go hW) he.1 he.2)
  have HK := Lib.hid (fun W (hW : Below w.heap.size w W) => lkCheck_any s.l la qa s.l.sent.length lc s.l.queue.length qc W (hg.go hW) (h2.go hW) (h3.go hW) hl)
  have HR := Lib.hid (fun W => rc_any n.text W hn)
  unfold lkV at HK
  have H1 := Lib.hid h1
  obtain ⟨R, hR⟩ : ∃ R, R = sideOk n s := ⟨_, rfl⟩
  rw [← hR]
  unfold sideOk at hR
  have HRR := Lib.hid hR
  have Hz := Lib.hid (fun h => edgeCheck_zero (s := s.e.sent) (h := s.e.heard) (l := s.e.pending) h)
  generalize he1 : edgeCheck s.e.sent s.e.heard s.e.pending = e1 at *
  generalize s.l.check = e2 at *
  have Hlast : Hid (sideLast n s = match lastT s.e.pending with
    | some t => t == rc n.text
    | none => true) := rfl
  generalize sideLast n s = SLt at *
  obtain ⟨cn, hcn⟩ : ∃ cn : Obj, cn = .cells #[.int .i64 n.me, .int .i64 n.epoch, .int .i64 n.up, .bool n.ready, .string n.text, .slice a n.sides.length c, .slice ua n.undo.length uc, .slice ma n.marks.length mc] 31 (0, 0) := ⟨_, rfl⟩
  obtain ⟨cs, hcs⟩ : ∃ cs : Obj, cs = .cells #[.int .i64 s.peer, .bool s.joined, .int .i64 s.e.sent, .int .i64 s.e.heard, .slice ea s.e.pending.length ec, .int .i64 s.l.epoch, .int .i64 s.l.next, .slice la s.l.sent.length lc, .slice qa s.l.queue.length qc, .int .i64 s.l.heard] 72 (0, 0) := ⟨_, rfl⟩
  have U0 : Hid (Below w.heap.size w ((w.alloc cn).alloc cs)) := by unfold Hid; (repeat (first | exact Below.refl _ _ | assumption | (refine Below.drew ?_) | (refine below_drewN ?_ _) | (refine Below.alloc ?_ (by first | (simp; done) | (simp; omega) | omega) _) | (refine Below.setCell ?_ (by first | (simp; done) | (simp; omega) | omega) _) | (refine Below.trans ?_ (Below.mono (by assumption) (by first | (simp; done) | (simp; omega) | omega)))))
  have X0 : Hid (Blk w.heap.size cn ((w.alloc cn).alloc cs)) := (Blk.new w _).alloc _
  have Y0 : Hid (Blk (w.heap.size + 1) cs ((w.alloc cn).alloc cs)) := Blk.at (w.alloc cn) _ _ (by simp)
  clear h1 h2 h3 he hl hg hn hR he1
  go_enter Tryd.func30, Tryd.ntmps30
  go_wp2_with fail
  rw [← hcn, ← hcs]
  refine abs_run (fun W => Below w.heap.size w W ∧ Blk w.heap.size cn W ∧ Blk (w.heap.size + 1) cs W) ⟨U0.out, X0.out, Y0.out⟩ ?_
  rintro w1 ⟨b1, x1, y1⟩
  subst hcn hcs
  have B1 := Lib.hid b1
  have X1 := Lib.hid x1
  have Y1 := Lib.hid y1
  clear U0 X0 Y0 b1 x1 y1
  refine (HE.out _ B1.out).mono ?_
  rintro e w2 ⟨rfl, b2⟩
  have B2 := Lib.hid (up B1.out b2)
  have X2 := Lib.hid (X1.out.go b2)
  have Y2 := Lib.hid (Y1.out.go b2)
  obtain ⟨p0, p1, p2, p3, p4, p5, p6, p7, p8, p9⟩ := blk10_cells Y2.out
  clear b2 X1 Y1 B1 HE
  by_cases h1 : e1 = 0
  · subst h1
    obtain ⟨z1, z2, z3, z4, z5, z6⟩ := Hz.out rfl
    clear Hz
    go_wp2_with fail
    refine (HK.out _ B2.out).mono ?_
    rintro e w3 ⟨rfl, b3⟩
    have B3 := Lib.hid (up B2.out b3)
    have X3 := Lib.hid (X2.out.go b3)
    have Y3 := Lib.hid (Y2.out.go b3)
    obtain ⟨q0, q1, q2, q3, q4, q5, q6, q7, q8, q9⟩ := blk10_cells Y3.out
    clear b3 X2 Y2 B2 HK p0 p1 p2 p3 p4 p5 p6 p7 p8 p9
    by_cases h2 : e2 = 0
    · subst h2
      cases hj : s.joined with
      | false =>
        rw [hj] at q1
        have hR2 : R = (s.e.sent + s.e.heard == 0) := by rw [HRR.out, if_neg (by simp), if_neg (by simp), hj, if_pos rfl]
        subst hR2
        clear HRR hj
        go_wp2_with fail
        go_ret
        exact ⟨rfl, B3.out⟩
      | true =>
        rw [hj] at q1
        have hR2 : R = if SLt = false then false else n.ready && decide (0 < s.l.epoch) := by rw [HRR.out, if_neg (by simp), if_neg (by simp), hj, if_neg (by simp)]
        have HR2 := Lib.hid hR2
        clear HRR hj hR2
        by_cases hk : s.e.pending.length = 0
        · have hk0 := hk
          rw [hk] at q4
          have hnil : s.e.pending = [] := List.eq_nil_of_length_eq_zero hk0
          have hS : SLt = true := by rw [Hlast.out, hnil]; rfl
          have HR3 : Hid (R = (n.ready && decide (0 < s.l.epoch))) := by unfold Hid; rw [HR2.out, hS, if_neg (by simp)]
          have hx := X3.out
          have r3 := hx.cell 3
          clear HR2 hS hnil hk hk0 hx Hlast HR
          cases hrd : n.ready with
          | false =>
            rw [hrd] at r3
            have hR3 : R = false := by rw [HR3.out, hrd]; rfl
            subst hR3
            clear HR3 hrd
            go_wp2_with fail
            go_ret
            exact ⟨rfl, B3.out⟩
          | true =>
            rw [hrd] at r3
            have hR3 : R = decide (0 < s.l.epoch) := by rw [HR3.out, hrd]; rfl
            subst hR3
            clear HR3 hrd
            go_wp2_with fail
            go_ret
            exact ⟨rfl, B3.out⟩
        · have hlt : s.e.pending.length - 1 < s.e.pending.length := by omega
          have hl0 : s.e.pending[s.e.pending.length - 1]? = some s.e.pending[s.e.pending.length - 1] := List.getElem?_eq_getElem hlt
          have hlast : lastT s.e.pending = some (sumT s.e.pending[s.e.pending.length - 1]) := by
            unfold lastT
            rw [List.getLast?_eq_getElem?, hl0]
            rfl
          have hS : SLt = (sumT s.e.pending[s.e.pending.length - 1] == rc n.text) := by rw [Hlast.out, hlast]
          have hchk := chain_all z6 _ (List.getElem_mem hlt)
          obtain ⟨b, off, rfl, hA, hbl, hcl⟩ := H1.out.rowO (by omega)
          have hH := H1.out.2.1
          obtain ⟨oa, on, oc, ho, hoc⟩ := hcl _ hlt
          have hoc3 := (bcell B3.out).1 b (off + (s.e.pending.length - 1)) hbl
          rw [hoc] at hoc3
          have HLen := Lib.hid (fun W (hW : Below w.heap.size w W) => lengths_any (· < W.heap.size) _ oa on oc W (ho.go hW) (check_small hchk))
          have hpos : (0 : Int) < (s.e.pending.length : Int) := by omega
          have hle : (s.e.pending.length : Int) ≤ 1048576 := by omega
          obtain ⟨kk, hkk⟩ : ∃ kk : Nat, s.e.pending.length = kk + 1 := ⟨s.e.pending.length - 1, by omega⟩
          clear hl0 hcl hlast
          generalize s.e.pending[s.e.pending.length - 1] = LO at *
          clear hlt H1
          generalize s.e.pending.length = KL at *
          subst hkk
          simp only [Nat.add_sub_cancel] at *
          have HS := Lib.hid hS
          have hkc : (kk : Int) < (ec : Int) := by omega
          clear hS hoc ho hchk hk z6 Hlast
          have hx := X3.out
          have r3 := hx.cell 3
          clear hx
          have hp1 : ((kk + 1 : Nat) : Int) - 1 = (kk : Int) := by omega
          go_wp2_with fail
          refine (HLen.out _ B3.out).mono ?_
          rintro e w4 ⟨rfl, b4⟩
          have B4 := Lib.hid (up B3.out b4)
          have X4 := Lib.hid (X3.out.go b4)
          have Y4 := Lib.hid (Y3.out.go b4)
          have s4 := X4.out.cell 4
          clear b4 X3 Y3 B3 HLen r3 q0 q1 q2 q3 q4 q5 q6 q7 q8 q9 hoc3
          go_wp2_with fail
          refine (HR.out _).mono ?_
          rintro e w5 ⟨rfl, b5⟩
          have B5 := Lib.hid (up B4.out b5)
          have X5 := X4.out.go b5
          have Y5 := Y4.out.go b5
          have r3 := X5.cell 3
          obtain ⟨q0, q1, q2, q3, q4, q5, q6, q7, q8, q9⟩ := blk10_cells Y5
          clear b5 X4 Y4 B4 HR s4 X5 Y5
          generalize sumT LO = t1 at *
          generalize rc n.text = t2 at *
          by_cases ht : t1 = t2
          · have hb : (t1 == t2) = true := by simpa using ht
            have HR3 : Hid (R = (n.ready && decide (0 < s.l.epoch))) := by unfold Hid; rw [HR2.out, HS.out, hb, if_neg (by simp)]
            subst ht
            clear HR2 HS hb
            cases hrd : n.ready with
            | false =>
              rw [hrd] at r3
              have hR3 : R = false := by rw [HR3.out, hrd]; rfl
              subst hR3
              clear HR3 hrd
              go_wp2_with fail
              go_ret
              exact ⟨rfl, B5.out⟩
            | true =>
              rw [hrd] at r3
              have hR3 : R = decide (0 < s.l.epoch) := by rw [HR3.out, hrd]; rfl
              subst hR3
              clear HR3 hrd
              go_wp2_with fail
              go_ret
              exact ⟨rfl, B5.out⟩
          · have hb : (t1 == t2) = false := by simpa using ht
            have hR3 : R = false := by rw [HR2.out, HS.out, hb, if_pos rfl]
            have hb' : (t1 != t2) = true := by simpa using ht
            subst hR3
            clear HR2 HS ht
            go_wp2_with fail
            go_ret
            exact ⟨rfl, B5.out⟩
    · have hb : (e2 != 0) = true := by simpa using h2
      have hR2 : R = false := by rw [HRR.out, if_neg (by simp), if_pos h2]
      subst hR2
      clear HRR h2
      go_wp2_with fail
      go_ret
      exact ⟨rfl, B3.out⟩
  · have hb : (e1 != 0) = true := by simpa using h1
    have hR2 : R = false := by rw [HRR.out, if_pos h1]
    subst hR2
    clear HRR h1 Hz
    go_wp2_with fail
    go_ret
    exact ⟨rfl, B2.out⟩
end Go.Proofs.YtkbfhgcjimfgkaaDoor
