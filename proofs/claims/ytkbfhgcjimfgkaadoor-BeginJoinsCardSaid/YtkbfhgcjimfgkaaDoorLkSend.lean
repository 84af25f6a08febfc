/- The walk of link.Send. -/
import Derived.Test.YtkbfhgcjimfgkaaDoorLkFill
set_option linter.unusedVariables false
set_option linter.unusedSimpArgs false
namespace Go.Proofs.YtkbfhgcjimfgkaaDoor
open Go.RowKit

def noLk : Lk := ⟨0, 0, [], [], 0⟩
/-- what link.Send refuses, and makes -/
def Lk.sendE (l : Lk) (f : Fr) : Int := if l.check ≠ 0 then l.check else if l.epoch = 0 then 12 else if f.check ≠ 0 then f.check else if l.next = 1048576 then 8 else 0
def Lk.push (l : Lk) (f : Fr) : Lk := (Lk.mk l.epoch l.next l.sent (l.queue ++ [f]) l.heard).filled
def Lk.sendL (l : Lk) (f : Fr) : Lk := if l.sendE f = 0 then l.push f else noLk
def Lk.sendP (l : Lk) (f : Fr) : List Pkt := if l.sendE f = 0 then (l.push f).pks l.sent.length else []
/-- what a call that answers a link and packets leaves -/
def LkPksP (l : Lk) (ps : List Pkt) (E : Int) (w : World) (e : Ending) (w' : World) : Prop :=
  ∃ sa sc qa qc pa pc, e = .returned (.tuple #[.agg #[.int .i64 l.epoch, .int .i64 l.next, .slice sa l.sent.length sc, .slice qa l.queue.length qc, .int .i64 l.heard], .slice pa ps.length pc, .int .i64 E]) ∧
    RdS (fun z => w.heap.size ≤ z ∧ z < w'.heap.size) w' l.sent sa l.sent.length sc ∧ RdS (fun z => w.heap.size ≤ z ∧ z < w'.heap.size) w' l.queue qa l.queue.length qc ∧ RdS (fun z => w.heap.size ≤ z ∧ z < w'.heap.size) w' ps pa ps.length pc ∧ Below w.heap.size w w'
theorem frame_ops {l : List Fr} (h : frsOk l = true) : ∀ f ∈ l, f.op.length ≤ 8001 := by
  intro f hf
  unfold frsOk at h
  have := List.all_eq_true.1 h f hf
  have h0 : f.check = 0 := by simpa using this
  unfold Fr.check checkFrame at h0
  by_cases h1 : f.kind < 1 ∨ 3 < f.kind
  · rw [if_pos h1] at h0; exact absurd h0 (by decide)
  · rw [if_neg h1] at h0
    by_cases h2 : num f.heard = false ∨ num f.epoch = false
    · rw [if_pos h2] at h0; exact absurd h0 (by decide)
    · rw [if_neg h2] at h0
      by_cases h3 : check f.op = 0
      · exact (check_zero h3).1
      · rw [if_pos h3] at h0; exact absurd h0 h3
theorem frame_op1 {f : Fr} (h : f.check = 0) : f.op.length ≤ 8001 := frame_ops (l := [f]) (by simp [frsOk, h]) f (List.mem_singleton.2 rfl)
set_option maxRecDepth 100000 in
set_option maxHeartbeats 4000000 in
theorem lkSend_bad (l : Lk) (f : Fr) (a b fa : Option Addr) (n c m d fn fc : Nat) (w : World) (hg : Good w) (hr : RdS (· < w.heap.size) w l.sent a n c) (hq : RdS (· < w.heap.size) w l.queue b m d) (hfr : RdS (· < w.heap.size) w f.op fa fn fc) (hl : l.fits) (hf : f.fits) (hE : l.sendE f ≠ 0) :
    Calls Tryd.prog 71 #[.agg #[.int .i64 l.epoch, .int .i64 l.next, .slice a n c, .slice b m d, .int .i64 l.heard], .agg #[.int .i64 f.kind, .int .i64 f.heard, .int .i64 f.epoch, .slice fa fn fc, .string f.text]] w
      fun e w' => e = .returned (.tuple #[.agg #[.int .i64 0, .int .i64 0, .slice none 0 0, .slice none 0 0, .int .i64 0], .slice none 0 0, .int .i64 (l.sendE f)]) ∧ Below w.heap.size w w' := by
  have HC := Lib.hid (fun W (hW : Below w.heap.size w W) => lkCheck_any l a b n c m d W (hg.go hW) (hr.go hW) (hq.go hW) hl)
  have HF := Lib.hid (fun W (hW : Below w.heap.size w W) => checkFrame_any (· < W.heap.size) f.kind f.heard f.epoch f.op f.text fa fn fc W (hg.go hW) (fun _ h => h) (hfr.go hW) hf.1 hf.2.1 hf.2.2.1 hf.2.2.2)
  rw [show checkFrame f.kind f.heard f.epoch f.op f.text = f.check from rfl] at HF
  obtain ⟨R, hR⟩ : ∃ R, R = l.sendE f := ⟨_, rfl⟩
  rw [← hR] at hE ⊢
  unfold Lk.sendE at hR
  unfold lkV at HC
  clear hr hq hfr hl hf hg
  generalize l.check = e1 at *
  generalize f.check = e2 at *
  obtain ⟨ep, nx, ls, lq, he⟩ := l
  obtain ⟨fk, fh, fe, fo, ft⟩ := f
  simp only at *
  have HR := Lib.hid hR
  have HEn := Lib.hid hE
  clear hR hE
  have u0 : Below w.heap.size w (((w.alloc (.cells #[.int .i64 ep, .int .i64 nx, .slice a n c, .slice b m d, .int .i64 he] 70)).alloc (.cells #[.int .i64 fk, .int .i64 fh, .int .i64 fe, .slice fa fn fc, .string ft] 44)).alloc (.cells #[.int .i64 0, .int .i64 0, .slice none 0 0, .slice none 0 0, .int .i64 0] 70)) := by (repeat (first | exact Below.refl _ _ | assumption | (refine Below.drew ?_) | (refine below_drewN ?_ _) | (refine Below.alloc ?_ (by first | (simp; done) | (simp; omega) | omega) _) | (refine Below.setCell ?_ (by first | (simp; done) | (simp; omega) | omega) _) | (refine Below.trans ?_ (Below.mono (by assumption) (by first | (simp; done) | (simp; omega) | omega)))))
  have X0 := Lib.hid (((Blk.new w (.cells #[.int .i64 ep, .int .i64 nx, .slice a n c, .slice b m d, .int .i64 he] 70)).alloc (.cells #[.int .i64 fk, .int .i64 fh, .int .i64 fe, .slice fa fn fc, .string ft] 44)).alloc (.cells #[.int .i64 0, .int .i64 0, .slice none 0 0, .slice none 0 0, .int .i64 0] 70))
  have Y0 := Lib.hid ((Blk.at (w.alloc (.cells #[.int .i64 ep, .int .i64 nx, .slice a n c, .slice b m d, .int .i64 he] 70)) (.cells #[.int .i64 fk, .int .i64 fh, .int .i64 fe, .slice fa fn fc, .string ft] 44) (w.heap.size + 1) (by simp)).alloc (.cells #[.int .i64 0, .int .i64 0, .slice none 0 0, .slice none 0 0, .int .i64 0] 70))
  have Z0 := Lib.hid (Blk.at ((w.alloc (.cells #[.int .i64 ep, .int .i64 nx, .slice a n c, .slice b m d, .int .i64 he] 70)).alloc (.cells #[.int .i64 fk, .int .i64 fh, .int .i64 fe, .slice fa fn fc, .string ft] 44)) (.cells #[.int .i64 0, .int .i64 0, .slice none 0 0, .slice none 0 0, .int .i64 0] 70) (w.heap.size + 1 + 1) (by simp))
  have U0 := Lib.hid u0
  clear u0
  -- the end of all ways
  have Hfin : Hid (∀ W : World, Blk (w.heap.size + 1 + 1) (.cells #[.int .i64 0, .int .i64 0, .slice none 0 0, .slice none 0 0, .int .i64 0] 70 (0, 0)) W → Below w.heap.size w W → Blk (w.heap.size + 1 + 1) (.cells #[.int .i64 0, .int .i64 0, .slice none 0 0, .slice none 0 0, .int .i64 0] 70 (0, 0)) (((((W.setCell ⟨w.heap.size + 1 + 1, 0, none⟩ (.int .i64 0)).setCell ⟨w.heap.size + 1 + 1, 1, none⟩ (.int .i64 0)).setCell ⟨w.heap.size + 1 + 1, 2, none⟩ (.slice none 0 0)).setCell ⟨w.heap.size + 1 + 1, 3, none⟩ (.slice none 0 0)).setCell ⟨w.heap.size + 1 + 1, 4, none⟩ (.int .i64 0)) ∧ Below w.heap.size w (((((W.setCell ⟨w.heap.size + 1 + 1, 0, none⟩ (.int .i64 0)).setCell ⟨w.heap.size + 1 + 1, 1, none⟩ (.int .i64 0)).setCell ⟨w.heap.size + 1 + 1, 2, none⟩ (.slice none 0 0)).setCell ⟨w.heap.size + 1 + 1, 3, none⟩ (.slice none 0 0)).setCell ⟨w.heap.size + 1 + 1, 4, none⟩ (.int .i64 0))) :=
    fun W hB hW => ⟨blk_set5 hB _ _ _ _ _, hW.trans ((touch5 _ _ _ _ _ _ _).toBelow hW.size (fun k hk => by omega))⟩
  by_cases h1 : e1 = 0
  · subst h1
    have hR1 := HR.out
    rw [if_neg (by simp)] at hR1
    by_cases h2 : ep = 0
    · have b2 : (ep == 0) = true := by simpa using h2
      rw [if_pos h2] at hR1
      subst hR1
      clear HR HEn h2
      go_enter Tryd.func71, Tryd.ntmps71
      go_wp2_with fail
      refine (HC.out _ U0.out).mono ?_
      rintro e w1 ⟨rfl, u1⟩
      have x1 := X0.out.go u1
      have z1 := Z0.out.go u1
      obtain ⟨q0, q1, q2, q3, q4⟩ := blk_cells5 x1
      obtain ⟨p0, p1, p2, p3, p4⟩ := blk_cells5 z1
      have pf := z1.frozen
      have hz := z1.lt
      have G := Lib.hid (Hfin.out w1 z1 (up U0.out u1))
      clear u1 x1 z1 X0 Y0 Z0 U0 HC HF Hfin
      go_wp2_with fail
      refine abs_ret (fun W => Blk (w.heap.size + 1 + 1) (.cells #[.int .i64 0, .int .i64 0, .slice none 0 0, .slice none 0 0, .int .i64 0] 70 (0, 0)) W ∧ Below w.heap.size w W) G.out ?_
      rintro W ⟨y1, y2⟩
      obtain ⟨k0, k1, k2, k3, k4⟩ := blk_cells5 y1
      exact bodyPost_ret (v := .tuple #[.agg #[.int .i64 0, .int .i64 0, .slice none 0 0, .slice none 0 0, .int .i64 0], .slice none 0 0, .int .i64 12]) (by simp [results, Tryd.results71, go_sem, k0, k1, k2, k3, k4]) rfl ⟨rfl, y2⟩
    · have b2 : (ep == 0) = false := by simpa using h2
      rw [if_neg h2] at hR1
      by_cases h3 : e2 = 0
      · subst h3
        rw [if_neg (by simp)] at hR1
        have h4 : nx = 1048576 := by
          by_cases h4 : nx = 1048576
          · exact h4
          · rw [if_neg h4] at hR1; exact absurd hR1 HEn.out
        have b4 : (nx == 1048576) = true := by simpa using h4
        rw [if_pos h4] at hR1
        subst hR1
        clear HR HEn h2 h4
        go_enter Tryd.func71, Tryd.ntmps71
        go_wp2_with fail
        refine (HC.out _ U0.out).mono ?_
        rintro e w1 ⟨rfl, u1⟩
        have x1 := Lib.hid (X0.out.go u1)
        have y1 := Lib.hid (Y0.out.go u1)
        have z1 := Lib.hid (Z0.out.go u1)
        have U1 := Lib.hid (up U0.out u1)
        obtain ⟨q0, q1, q2, q3, q4⟩ := blk_cells5 x1.out
        obtain ⟨r0, r1, r2, r3, r4⟩ := blk_cells5 y1.out
        clear u1 X0 Y0 Z0 U0 HC
        go_wp2_with fail
        refine (HF.out _ U1.out).mono ?_
        rintro e w2 ⟨rfl, u2⟩
        have x2 := x1.out.go u2
        have z2 := z1.out.go u2
        obtain ⟨s0, s1, s2, s3, s4⟩ := blk_cells5 x2
        obtain ⟨p0, p1, p2, p3, p4⟩ := blk_cells5 z2
        have pf := z2.frozen
        have hz := z2.lt
        have G := Lib.hid (Hfin.out w2 z2 (up U1.out u2))
        clear u2 x1 y1 z1 x2 z2 U1 HF Hfin q0 q1 q2 q3 q4 r0 r1 r2 r3 r4
        go_wp2_with fail
        refine abs_ret (fun W => Blk (w.heap.size + 1 + 1) (.cells #[.int .i64 0, .int .i64 0, .slice none 0 0, .slice none 0 0, .int .i64 0] 70 (0, 0)) W ∧ Below w.heap.size w W) G.out ?_
        rintro W ⟨y1, y2⟩
        obtain ⟨k0, k1, k2, k3, k4⟩ := blk_cells5 y1
        exact bodyPost_ret (v := .tuple #[.agg #[.int .i64 0, .int .i64 0, .slice none 0 0, .slice none 0 0, .int .i64 0], .slice none 0 0, .int .i64 8]) (by simp [results, Tryd.results71, go_sem, k0, k1, k2, k3, k4]) rfl ⟨rfl, y2⟩
      · have b3 : (e2 != 0) = true := by simpa using h3
        rw [if_pos h3] at hR1
        subst hR1
        clear HR HEn h2 h3
        go_enter Tryd.func71, Tryd.ntmps71
        go_wp2_with fail
        refine (HC.out _ U0.out).mono ?_
        rintro e w1 ⟨rfl, u1⟩
        have x1 := Lib.hid (X0.out.go u1)
        have y1 := Lib.hid (Y0.out.go u1)
        have z1 := Lib.hid (Z0.out.go u1)
        have U1 := Lib.hid (up U0.out u1)
        obtain ⟨q0, q1, q2, q3, q4⟩ := blk_cells5 x1.out
        obtain ⟨r0, r1, r2, r3, r4⟩ := blk_cells5 y1.out
        clear u1 X0 Y0 Z0 U0 HC
        go_wp2_with fail
        refine (HF.out _ U1.out).mono ?_
        rintro e w2 ⟨rfl, u2⟩
        have z2 := z1.out.go u2
        obtain ⟨p0, p1, p2, p3, p4⟩ := blk_cells5 z2
        have pf := z2.frozen
        have hz := z2.lt
        have G := Lib.hid (Hfin.out w2 z2 (up U1.out u2))
        clear u2 x1 y1 z1 z2 U1 HF Hfin q0 q1 q2 q3 q4 r0 r1 r2 r3 r4
        go_wp2_with fail
        refine abs_ret (fun W => Blk (w.heap.size + 1 + 1) (.cells #[.int .i64 0, .int .i64 0, .slice none 0 0, .slice none 0 0, .int .i64 0] 70 (0, 0)) W ∧ Below w.heap.size w W) G.out ?_
        rintro W ⟨y1, y2⟩
        obtain ⟨k0, k1, k2, k3, k4⟩ := blk_cells5 y1
        exact bodyPost_ret (v := .tuple #[.agg #[.int .i64 0, .int .i64 0, .slice none 0 0, .slice none 0 0, .int .i64 0], .slice none 0 0, .int .i64 R]) (by simp [results, Tryd.results71, go_sem, k0, k1, k2, k3, k4]) rfl ⟨rfl, y2⟩
  · have b1 : (e1 != 0) = true := by simpa using h1
    have hR1 := HR.out
    rw [if_pos h1] at hR1
    subst hR1
    clear HR HEn h1
    go_enter Tryd.func71, Tryd.ntmps71
    go_wp2_with fail
    refine (HC.out _ U0.out).mono ?_
    rintro e w1 ⟨rfl, u1⟩
    have z1 := Z0.out.go u1
    obtain ⟨p0, p1, p2, p3, p4⟩ := blk_cells5 z1
    have pf := z1.frozen
    have hz := z1.lt
    have G := Lib.hid (Hfin.out w1 z1 (up U0.out u1))
    clear u1 z1 X0 Y0 Z0 U0 HC HF Hfin
    go_wp2_with fail
    refine abs_ret (fun W => Blk (w.heap.size + 1 + 1) (.cells #[.int .i64 0, .int .i64 0, .slice none 0 0, .slice none 0 0, .int .i64 0] 70 (0, 0)) W ∧ Below w.heap.size w W) G.out ?_
    rintro W ⟨y1, y2⟩
    obtain ⟨k0, k1, k2, k3, k4⟩ := blk_cells5 y1
    exact bodyPost_ret (v := .tuple #[.agg #[.int .i64 0, .int .i64 0, .slice none 0 0, .slice none 0 0, .int .i64 0], .slice none 0 0, .int .i64 R]) (by simp [results, Tryd.results71, go_sem, k0, k1, k2, k3, k4]) rfl ⟨rfl, y2⟩
end Go.Proofs.YtkbfhgcjimfgkaaDoor
