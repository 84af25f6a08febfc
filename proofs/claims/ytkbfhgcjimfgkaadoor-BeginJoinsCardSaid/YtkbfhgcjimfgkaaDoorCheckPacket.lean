/- The walks of wire.empty and wire.CheckPacket. -/
import Derived.Test.YtkbfhgcjimfgkaaDoorFirst
set_option linter.unusedVariables false
set_option linter.unusedSimpArgs false
namespace Go.Proofs.YtkbfhgcjimfgkaaDoor
open Go.RowKit

def emptyF (k h e : Int) (n : Nat) (t : Str) : Bool := (k == 0) && (h == 0) && (e == 0) && ((n : Int) == 0) && emptyS t
set_option maxRecDepth 100000 in
set_option maxHeartbeats 2000000 in
theorem empty_any (k h e : Int) (t : Str) (a : Option Addr) (n c : Nat) (w : World) :
    Calls Tryd.prog 64 #[.agg #[.int .i64 k, .int .i64 h, .int .i64 e, .slice a n c, .string t]] w fun ee w' => ee = .returned (.bool (emptyF k h e n t)) ∧ Below w.heap.size w w' := by
  unfold emptyF
  cases b1 : (k == 0)
  · go_enter Tryd.func64, Tryd.ntmps64
    go_wp2_with fail
    go_ret
    exact ⟨rfl, by (repeat (first | exact Below.refl _ _ | assumption | (refine Below.drew ?_) | (refine below_drewN ?_ _) | (refine Below.alloc ?_ (by first | (simp; done) | (simp; omega) | omega) _) | (refine Below.setCell ?_ (by first | (simp; done) | (simp; omega) | omega) _) | (refine Below.trans ?_ (Below.mono (by assumption) (by first | (simp; done) | (simp; omega) | omega)))))⟩
  cases b2 : (h == 0)
  · go_enter Tryd.func64, Tryd.ntmps64
    go_wp2_with fail
    go_ret
    exact ⟨rfl, by (repeat (first | exact Below.refl _ _ | assumption | (refine Below.drew ?_) | (refine below_drewN ?_ _) | (refine Below.alloc ?_ (by first | (simp; done) | (simp; omega) | omega) _) | (refine Below.setCell ?_ (by first | (simp; done) | (simp; omega) | omega) _) | (refine Below.trans ?_ (Below.mono (by assumption) (by first | (simp; done) | (simp; omega) | omega)))))⟩
  cases b3 : (e == 0)
  · go_enter Tryd.func64, Tryd.ntmps64
    go_wp2_with fail
    go_ret
    exact ⟨rfl, by (repeat (first | exact Below.refl _ _ | assumption | (refine Below.drew ?_) | (refine below_drewN ?_ _) | (refine Below.alloc ?_ (by first | (simp; done) | (simp; omega) | omega) _) | (refine Below.setCell ?_ (by first | (simp; done) | (simp; omega) | omega) _) | (refine Below.trans ?_ (Below.mono (by assumption) (by first | (simp; done) | (simp; omega) | omega)))))⟩
  cases b4 : ((n : Int) == 0)
  · go_enter Tryd.func64, Tryd.ntmps64
    go_wp2_with fail
    go_ret
    exact ⟨rfl, by (repeat (first | exact Below.refl _ _ | assumption | (refine Below.drew ?_) | (refine below_drewN ?_ _) | (refine Below.alloc ?_ (by first | (simp; done) | (simp; omega) | omega) _) | (refine Below.setCell ?_ (by first | (simp; done) | (simp; omega) | omega) _) | (refine Below.trans ?_ (Below.mono (by assumption) (by first | (simp; done) | (simp; omega) | omega)))))⟩
  · go_enter Tryd.func64, Tryd.ntmps64
    go_wp2_with fail
    go_ret
    exact ⟨by simp [emptyS], by (repeat (first | exact Below.refl _ _ | assumption | (refine Below.drew ?_) | (refine below_drewN ?_ _) | (refine Below.alloc ?_ (by first | (simp; done) | (simp; omega) | omega) _) | (refine Below.setCell ?_ (by first | (simp; done) | (simp; omega) | omega) _) | (refine Below.trans ?_ (Below.mono (by assumption) (by first | (simp; done) | (simp; omega) | omega)))))⟩
/-- what CheckPacket answers -/
def checkPacket (ep nu : Int) (ba : Bool) (ac k h fe : Int) (o : Op) (t : Str) : Int :=
  if num ep = false ∨ num nu = false ∨ num ac = false then 2
  else if ba = true then (if nu ≠ 0 ∨ emptyF k h fe o.length t = false then 4 else 0)
  else if nu < 1 ∨ ep < 1 then 4 else checkFrame k h fe o t
def Pkt.check (p : Pkt) : Int := checkPacket p.epoch p.number p.bare p.ack p.f.kind p.f.heard p.f.epoch p.f.op p.f.text
set_option maxRecDepth 100000 in
set_option maxHeartbeats 4000000 in
theorem checkPacket_any (ep nu : Int) (ba : Bool) (ac k h fe : Int) (o : Op) (t : Str) (a : Option Addr) (n c : Nat) (w : World) (hg : Good w) (hr : RdS (· < w.heap.size) w o a n c) (h1 : I64 ep) (h2 : I64 nu) (h3 : I64 ac) (h4 : I64 k) (h5 : I64 h) (h6 : I64 fe) (ht : t.size ≤ strMax) :
    Calls Tryd.prog 37 #[.agg #[.int .i64 ep, .int .i64 nu, .bool ba, .int .i64 ac, .int .i64 k, .int .i64 h, .int .i64 fe, .slice a n c, .string t]] w fun e w' => e = .returned (.int .i64 (checkPacket ep nu ba ac k h fe o t)) ∧ Below w.heap.size w w' := by
  have hnl : o.length = n := hr.1.symm
  have H1 := Lib.hid (fun W => number_any ep W h1)
  have H2 := Lib.hid (fun W => number_any nu W h2)
  have H3 := Lib.hid (fun W => number_any ac W h3)
  have HE := Lib.hid (fun W => empty_any k h fe t a n c W)
  have HF := Lib.hid (fun W (hb : Below w.heap.size w W) => checkFrame_any (· < W.heap.size) k h fe o t a n c W (hg.go hb) (fun _ h => h) (hr.go hb) h4 h5 h6 ht)
  obtain ⟨R, hR⟩ : ∃ R, R = checkPacket ep nu ba ac k h fe o t := ⟨_, rfl⟩
  rw [← hR]
  unfold checkPacket at hR
  rw [hnl] at hR
  have HR := Lib.hid hR
  unfold I64 at h1 h2
  clear hR hnl hr hg h3 h4 h5 h6 ht
  generalize emptyF k h fe n t = em at *
  generalize checkFrame k h fe o t = cf at *
  generalize num ac = b3 at *
  generalize hb1 : num ep = b1 at *
  generalize hb2 : num nu = b2 at *
  clear hb1 hb2
  cases b1 with
  | false =>
    have hR := HR.out
    rw [if_pos (.inl rfl)] at hR
    subst hR
    clear HR
    go_enter Tryd.func37, Tryd.ntmps37
    go_wp2_with fail
    refine (H1.out _).mono ?_
    rintro e W' ⟨rfl, rfl⟩
    go_wp2_with fail
    go_ret
    exact ⟨rfl, by (repeat (first | exact Below.refl _ _ | assumption | (refine Below.drew ?_) | (refine below_drewN ?_ _) | (refine Below.alloc ?_ (by first | (simp; done) | (simp; omega) | omega) _) | (refine Below.setCell ?_ (by first | (simp; done) | (simp; omega) | omega) _) | (refine Below.trans ?_ (Below.mono (by assumption) (by first | (simp; done) | (simp; omega) | omega)))))⟩
  | true =>
  cases b2 with
  | false =>
    have hR := HR.out
    rw [if_pos (.inr (.inl rfl))] at hR
    subst hR
    clear HR
    go_enter Tryd.func37, Tryd.ntmps37
    go_wp2_with fail
    refine (H1.out _).mono ?_
    rintro e W' ⟨rfl, rfl⟩
    go_wp2_with fail
    refine (H2.out _).mono ?_
    rintro e W' ⟨rfl, rfl⟩
    go_wp2_with fail
    go_ret
    exact ⟨rfl, by (repeat (first | exact Below.refl _ _ | assumption | (refine Below.drew ?_) | (refine below_drewN ?_ _) | (refine Below.alloc ?_ (by first | (simp; done) | (simp; omega) | omega) _) | (refine Below.setCell ?_ (by first | (simp; done) | (simp; omega) | omega) _) | (refine Below.trans ?_ (Below.mono (by assumption) (by first | (simp; done) | (simp; omega) | omega)))))⟩
  | true =>
  cases b3 with
  | false =>
    have hR := HR.out
    rw [if_pos (.inr (.inr rfl))] at hR
    subst hR
    clear HR
    go_enter Tryd.func37, Tryd.ntmps37
    go_wp2_with fail
    refine (H1.out _).mono ?_
    rintro e W' ⟨rfl, rfl⟩
    go_wp2_with fail
    refine (H2.out _).mono ?_
    rintro e W' ⟨rfl, rfl⟩
    go_wp2_with fail
    refine (H3.out _).mono ?_
    rintro e W' ⟨rfl, rfl⟩
    go_wp2_with fail
    go_ret
    exact ⟨rfl, by (repeat (first | exact Below.refl _ _ | assumption | (refine Below.drew ?_) | (refine below_drewN ?_ _) | (refine Below.alloc ?_ (by first | (simp; done) | (simp; omega) | omega) _) | (refine Below.setCell ?_ (by first | (simp; done) | (simp; omega) | omega) _) | (refine Below.trans ?_ (Below.mono (by assumption) (by first | (simp; done) | (simp; omega) | omega)))))⟩
  | true =>
  cases ba with
  | true =>
    by_cases hn0 : nu = 0
    · subst hn0
      cases em with
      | false =>
        have hR := HR.out
        rw [if_neg (by simp), if_pos rfl, if_pos (.inr rfl)] at hR
        subst hR
        clear HR
        go_enter Tryd.func37, Tryd.ntmps37
        go_wp2_with fail
        refine (H1.out _).mono ?_
        rintro e W' ⟨rfl, rfl⟩
        go_wp2_with fail
        refine (H2.out _).mono ?_
        rintro e W' ⟨rfl, rfl⟩
        go_wp2_with fail
        refine (H3.out _).mono ?_
        rintro e W' ⟨rfl, rfl⟩
        go_wp2_with fail
        refine abs_run (fun W => Below w.heap.size w W) (by (repeat (first | exact Below.refl _ _ | assumption | (refine Below.drew ?_) | (refine below_drewN ?_ _) | (refine Below.alloc ?_ (by first | (simp; done) | (simp; omega) | omega) _) | (refine Below.setCell ?_ (by first | (simp; done) | (simp; omega) | omega) _) | (refine Below.trans ?_ (Below.mono (by assumption) (by first | (simp; done) | (simp; omega) | omega)))))) ?_
        intro W2 hW
        refine (HE.out _).mono ?_
        rintro e W3 ⟨rfl, hb⟩
        have HB := Lib.hid (up hW hb)
        clear hW hb
        go_wp2_with fail
        go_ret
        exact ⟨rfl, HB.out⟩
      | true =>
        have hR := HR.out
        rw [if_neg (by simp), if_pos rfl, if_neg (by simp)] at hR
        subst hR
        clear HR
        go_enter Tryd.func37, Tryd.ntmps37
        go_wp2_with fail
        refine (H1.out _).mono ?_
        rintro e W' ⟨rfl, rfl⟩
        go_wp2_with fail
        refine (H2.out _).mono ?_
        rintro e W' ⟨rfl, rfl⟩
        go_wp2_with fail
        refine (H3.out _).mono ?_
        rintro e W' ⟨rfl, rfl⟩
        go_wp2_with fail
        refine abs_run (fun W => Below w.heap.size w W) (by (repeat (first | exact Below.refl _ _ | assumption | (refine Below.drew ?_) | (refine below_drewN ?_ _) | (refine Below.alloc ?_ (by first | (simp; done) | (simp; omega) | omega) _) | (refine Below.setCell ?_ (by first | (simp; done) | (simp; omega) | omega) _) | (refine Below.trans ?_ (Below.mono (by assumption) (by first | (simp; done) | (simp; omega) | omega)))))) ?_
        intro W2 hW
        refine (HE.out _).mono ?_
        rintro e W3 ⟨rfl, hb⟩
        have HB := Lib.hid (up hW hb)
        clear hW hb
        go_wp2_with fail
        go_ret
        exact ⟨rfl, HB.out⟩
    · have hd : (nu != 0) = true := by simpa using hn0
      have hR := HR.out
      rw [if_neg (by simp), if_pos rfl, if_pos (.inl hn0)] at hR
      subst hR
      clear HR
      go_enter Tryd.func37, Tryd.ntmps37
      go_wp2_with fail
      refine (H1.out _).mono ?_
      rintro e W' ⟨rfl, rfl⟩
      go_wp2_with fail
      refine (H2.out _).mono ?_
      rintro e W' ⟨rfl, rfl⟩
      go_wp2_with fail
      refine (H3.out _).mono ?_
      rintro e W' ⟨rfl, rfl⟩
      go_wp2_with fail
      go_ret
      exact ⟨rfl, by (repeat (first | exact Below.refl _ _ | assumption | (refine Below.drew ?_) | (refine below_drewN ?_ _) | (refine Below.alloc ?_ (by first | (simp; done) | (simp; omega) | omega) _) | (refine Below.setCell ?_ (by first | (simp; done) | (simp; omega) | omega) _) | (refine Below.trans ?_ (Below.mono (by assumption) (by first | (simp; done) | (simp; omega) | omega)))))⟩
  | false =>
    by_cases hn1 : nu < 1
    · have hd : decide (nu < 1) = true := by simpa using hn1
      have hR := HR.out
      rw [if_neg (by simp), if_neg (by simp), if_pos (.inl hn1)] at hR
      subst hR
      clear HR
      go_enter Tryd.func37, Tryd.ntmps37
      go_wp2_with fail
      refine (H1.out _).mono ?_
      rintro e W' ⟨rfl, rfl⟩
      go_wp2_with fail
      refine (H2.out _).mono ?_
      rintro e W' ⟨rfl, rfl⟩
      go_wp2_with fail
      refine (H3.out _).mono ?_
      rintro e W' ⟨rfl, rfl⟩
      go_wp2_with fail
      go_ret
      exact ⟨rfl, by (repeat (first | exact Below.refl _ _ | assumption | (refine Below.drew ?_) | (refine below_drewN ?_ _) | (refine Below.alloc ?_ (by first | (simp; done) | (simp; omega) | omega) _) | (refine Below.setCell ?_ (by first | (simp; done) | (simp; omega) | omega) _) | (refine Below.trans ?_ (Below.mono (by assumption) (by first | (simp; done) | (simp; omega) | omega)))))⟩
    · have hd : decide (nu < 1) = false := by simpa using hn1
      by_cases he1 : ep < 1
      · have hd2 : decide (ep < 1) = true := by simpa using he1
        have hR := HR.out
        rw [if_neg (by simp), if_neg (by simp), if_pos (.inr he1)] at hR
        subst hR
        clear HR
        go_enter Tryd.func37, Tryd.ntmps37
        go_wp2_with fail
        refine (H1.out _).mono ?_
        rintro e W' ⟨rfl, rfl⟩
        go_wp2_with fail
        refine (H2.out _).mono ?_
        rintro e W' ⟨rfl, rfl⟩
        go_wp2_with fail
        refine (H3.out _).mono ?_
        rintro e W' ⟨rfl, rfl⟩
        go_wp2_with fail
        go_ret
        exact ⟨rfl, by (repeat (first | exact Below.refl _ _ | assumption | (refine Below.drew ?_) | (refine below_drewN ?_ _) | (refine Below.alloc ?_ (by first | (simp; done) | (simp; omega) | omega) _) | (refine Below.setCell ?_ (by first | (simp; done) | (simp; omega) | omega) _) | (refine Below.trans ?_ (Below.mono (by assumption) (by first | (simp; done) | (simp; omega) | omega)))))⟩
      · have hd2 : decide (ep < 1) = false := by simpa using he1
        have hR := HR.out
        rw [if_neg (by simp), if_neg (by simp), if_neg (by omega)] at hR
        subst hR
        clear HR
        go_enter Tryd.func37, Tryd.ntmps37
        go_wp2_with fail
        refine (H1.out _).mono ?_
        rintro e W' ⟨rfl, rfl⟩
        go_wp2_with fail
        refine (H2.out _).mono ?_
        rintro e W' ⟨rfl, rfl⟩
        go_wp2_with fail
        refine (H3.out _).mono ?_
        rintro e W' ⟨rfl, rfl⟩
        go_wp2_with fail
        refine abs_run (fun W => Below w.heap.size w W) (by (repeat (first | exact Below.refl _ _ | assumption | (refine Below.drew ?_) | (refine below_drewN ?_ _) | (refine Below.alloc ?_ (by first | (simp; done) | (simp; omega) | omega) _) | (refine Below.setCell ?_ (by first | (simp; done) | (simp; omega) | omega) _) | (refine Below.trans ?_ (Below.mono (by assumption) (by first | (simp; done) | (simp; omega) | omega)))))) ?_
        intro W2 hW
        refine (HF.out _ hW).mono ?_
        rintro e W3 ⟨rfl, hb⟩
        have HB := Lib.hid (up hW hb)
        clear hW hb
        go_wp2_with fail
        go_ret
        exact ⟨rfl, HB.out⟩
end Go.Proofs.YtkbfhgcjimfgkaaDoor
