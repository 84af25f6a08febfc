/- The walk of link.Check at a link of which all but the last thing may be; link.Check whole. -/
import Derived.Test.YtkbfhgcjimfgkaaDoorLkCheck
set_option linter.unusedVariables false
set_option linter.unusedSimpArgs false
namespace Go.Proofs.YtkbfhgcjimfgkaaDoor
open Go.RowKit

set_option maxRecDepth 100000 in
set_option maxHeartbeats 2000000 in
theorem lk_end (l : Lk) (a b : Option Addr) (n c m d : Nat) (w : World) (hg : Good w) (hr : RdS (· < w.heap.size) w l.sent a n c) (hq : RdS (· < w.heap.size) w l.queue b m d) (hf : l.fits) (h1 : ¬ l.odd1) (ho : ¬ l.odd2) :
    Calls Tryd.prog 54 #[lkV l (.slice a n c) (.slice b m d)] w fun e w' => e = .returned (.int .i64 l.check) ∧ Below w.heap.size w w' := by
  unfold lkV
  have HS := Lib.hid (fun W (hW : Below w.heap.size w W) => frames_any l.sent a n c W (hg.go hW) (hr.go hW))
  have HQ := Lib.hid (fun W (hW : Below w.heap.size w W) => frames_any l.queue b m d W (hg.go hW) (hq.go hW))
  have hn := hr.1
  have hm := hq.1
  have hn2 : n ≤ maxLen := Nat.le_trans hr.2.1 hr.2.2.1
  have hm2 : m ≤ maxLen := Nat.le_trans hq.2.1 hq.2.2.1
  unfold maxLen at hn2 hm2
  obtain ⟨R, hR⟩ : ∃ R, R = l.check := ⟨_, rfl⟩
  rw [← hR]
  unfold Lk.check at hR
  rw [if_neg h1, if_neg ho, ← hn] at hR
  unfold Lk.odd1 at h1
  unfold Lk.odd2 at ho
  rw [← hn, ← hm] at ho
  obtain ⟨ep, nx, se, qu, he⟩ := l
  simp only at *
  have hbs : frsOk se = true := by
    cases hh : frsOk se with
    | true => rfl
    | false => exact absurd (.inr (.inr (.inr (.inl hh)))) ho
  have hbq : frsOk qu = true := by
    cases hh : frsOk qu with
    | true => rfl
    | false => exact absurd (.inr (.inr (.inr (.inr hh)))) ho
  rw [hbs] at HS
  rw [hbq] at HQ
  have k1 : 0 ≤ ep := by omega
  have k2 : ep ≤ 1048576 := by omega
  have k3 : 1 ≤ nx := by omega
  have k4 : nx ≤ 1048576 := by omega
  have k5 : 0 ≤ he := by omega
  have k6 : he ≤ 1048576 := by omega
  have j1 : n ≤ 8 := by omega
  have d1 : decide ((8 : Int) < (n : Int)) = false := by simp; omega
  have j2 : (n : Int) < nx := by omega
  have HR := Lib.hid hR
  clear hf h1 hg hr hq hn hm hbs hbq hR
  by_cases j3 : 0 < m
  · have d3 : decide ((0 : Int) < (m : Int)) = true := by simp; omega
    have d4 : decide ((n : Int) < 8) = false := by simp; omega
    have hn8 : n = 8 := by omega
    clear ho
    have hsum : decide (0 < (n : Int) + he) = true := by simp; omega
    by_cases he0 : ep = 0
    · have b0 : (ep == 0) = true := by simpa using he0
      have hR2 : R = 9 := HR.out.trans (if_pos ⟨he0, by omega⟩)
      subst hR2
      clear HR he0 hn8
      go_enter Tryd.func54, Tryd.ntmps54
      go_wp2_with fail
      refine (HS.out _ ((Below.refl _ _).alloc (Nat.le_refl _) _)).mono ?_
      rintro e w2 ⟨rfl, u2⟩
      have x2 := Lib.hid ((Blk.new w _).go u2)
      have c3 : w2.cell? ⟨w.heap.size, 3, none⟩ = some (.slice b m d) := x2.out.cell 3
      have U2 := Lib.hid (up ((Below.refl _ _).alloc (Nat.le_refl _) _) u2)
      clear u2 HS
      go_wp2_with fail
      refine (HQ.out _ U2.out).mono ?_
      rintro e w3 ⟨rfl, u3⟩
      have x3 := x2.out.go u3
      have e0 : w3.cell? ⟨w.heap.size, 0, none⟩ = some (.int .i64 ep) := x3.cell 0
      have e2 : w3.cell? ⟨w.heap.size, 2, none⟩ = some (.slice a n c) := x3.cell 2
      have e4 : w3.cell? ⟨w.heap.size, 4, none⟩ = some (.int .i64 he) := x3.cell 4
      have U3 := Lib.hid (up U2.out u3)
      clear u3 HQ x2 x3 c3
      go_wp2_with fail
      go_ret
      exact ⟨rfl, U3.out⟩
    · have b0 : (ep == 0) = false := by simpa using he0
      have hR2 : R = 0 := HR.out.trans (if_neg (fun h => he0 h.1))
      subst hR2
      clear HR he0 hn8
      go_enter Tryd.func54, Tryd.ntmps54
      go_wp2_with fail
      refine (HS.out _ ((Below.refl _ _).alloc (Nat.le_refl _) _)).mono ?_
      rintro e w2 ⟨rfl, u2⟩
      have x2 := Lib.hid ((Blk.new w _).go u2)
      have c3 : w2.cell? ⟨w.heap.size, 3, none⟩ = some (.slice b m d) := x2.out.cell 3
      have U2 := Lib.hid (up ((Below.refl _ _).alloc (Nat.le_refl _) _) u2)
      clear u2 HS
      go_wp2_with fail
      refine (HQ.out _ U2.out).mono ?_
      rintro e w3 ⟨rfl, u3⟩
      have x3 := x2.out.go u3
      have e0 : w3.cell? ⟨w.heap.size, 0, none⟩ = some (.int .i64 ep) := x3.cell 0
      have U3 := Lib.hid (up U2.out u3)
      clear u3 HQ x2 x3 c3
      go_wp2_with fail
      go_ret
      exact ⟨rfl, U3.out⟩
  · have hm0 : m = 0 := by omega
    subst hm0
    clear ho j3
    by_cases he0 : ep = 0
    · have b0 : (ep == 0) = true := by simpa using he0
      by_cases hs0 : 0 < (n : Int) + he
      · have hsum : decide (0 < (n : Int) + he) = true := by simpa using hs0
        have hR2 : R = 9 := HR.out.trans (if_pos ⟨he0, hs0⟩)
        subst hR2
        clear HR he0
        go_enter Tryd.func54, Tryd.ntmps54
        go_wp2_with fail
        refine (HS.out _ ((Below.refl _ _).alloc (Nat.le_refl _) _)).mono ?_
        rintro e w2 ⟨rfl, u2⟩
        have x2 := Lib.hid ((Blk.new w _).go u2)
        have c3 : w2.cell? ⟨w.heap.size, 3, none⟩ = some (.slice b 0 d) := x2.out.cell 3
        have U2 := Lib.hid (up ((Below.refl _ _).alloc (Nat.le_refl _) _) u2)
        clear u2 HS
        go_wp2_with fail
        refine (HQ.out _ U2.out).mono ?_
        rintro e w3 ⟨rfl, u3⟩
        have x3 := x2.out.go u3
        have e0 : w3.cell? ⟨w.heap.size, 0, none⟩ = some (.int .i64 ep) := x3.cell 0
        have e2 : w3.cell? ⟨w.heap.size, 2, none⟩ = some (.slice a n c) := x3.cell 2
        have e4 : w3.cell? ⟨w.heap.size, 4, none⟩ = some (.int .i64 he) := x3.cell 4
        have U3 := Lib.hid (up U2.out u3)
        clear u3 HQ x2 x3 c3
        go_wp2_with fail
        go_ret
        exact ⟨rfl, U3.out⟩
      · have hR2 : R = 0 := HR.out.trans (if_neg (fun h => hs0 h.2))
        obtain rfl : n = 0 := by omega
        obtain rfl : he = 0 := by omega
        subst hR2
        clear HR he0 hs0
        go_enter Tryd.func54, Tryd.ntmps54
        go_wp2_with fail
        refine (HS.out _ ((Below.refl _ _).alloc (Nat.le_refl _) _)).mono ?_
        rintro e w2 ⟨rfl, u2⟩
        have x2 := Lib.hid ((Blk.new w _).go u2)
        have c3 : w2.cell? ⟨w.heap.size, 3, none⟩ = some (.slice b 0 d) := x2.out.cell 3
        have U2 := Lib.hid (up ((Below.refl _ _).alloc (Nat.le_refl _) _) u2)
        clear u2 HS
        go_wp2_with fail
        refine (HQ.out _ U2.out).mono ?_
        rintro e w3 ⟨rfl, u3⟩
        have x3 := x2.out.go u3
        have e0 : w3.cell? ⟨w.heap.size, 0, none⟩ = some (.int .i64 ep) := x3.cell 0
        have e2 : w3.cell? ⟨w.heap.size, 2, none⟩ = some (.slice a 0 c) := x3.cell 2
        have e4 : w3.cell? ⟨w.heap.size, 4, none⟩ = some (.int .i64 0) := x3.cell 4
        have U3 := Lib.hid (up U2.out u3)
        clear u3 HQ x2 x3 c3
        go_wp2_with fail
        go_ret
        exact ⟨rfl, U3.out⟩
    · have b0 : (ep == 0) = false := by simpa using he0
      have hR2 : R = 0 := HR.out.trans (if_neg (fun h => he0 h.1))
      subst hR2
      clear HR he0
      go_enter Tryd.func54, Tryd.ntmps54
      go_wp2_with fail
      refine (HS.out _ ((Below.refl _ _).alloc (Nat.le_refl _) _)).mono ?_
      rintro e w2 ⟨rfl, u2⟩
      have x2 := Lib.hid ((Blk.new w _).go u2)
      have c3 : w2.cell? ⟨w.heap.size, 3, none⟩ = some (.slice b 0 d) := x2.out.cell 3
      have U2 := Lib.hid (up ((Below.refl _ _).alloc (Nat.le_refl _) _) u2)
      clear u2 HS
      go_wp2_with fail
      refine (HQ.out _ U2.out).mono ?_
      rintro e w3 ⟨rfl, u3⟩
      have x3 := x2.out.go u3
      have e0 : w3.cell? ⟨w.heap.size, 0, none⟩ = some (.int .i64 ep) := x3.cell 0
      have U3 := Lib.hid (up U2.out u3)
      clear u3 HQ x2 x3 c3
      go_wp2_with fail
      go_ret
      exact ⟨rfl, U3.out⟩
theorem lkCheck_any (l : Lk) (a b : Option Addr) (n c m d : Nat) (w : World) (hg : Good w) (hr : RdS (· < w.heap.size) w l.sent a n c) (hq : RdS (· < w.heap.size) w l.queue b m d) (hf : l.fits) :
    Calls Tryd.prog 54 #[lkV l (.slice a n c) (.slice b m d)] w fun e w' => e = .returned (.int .i64 l.check) ∧ Below w.heap.size w w' := by
  by_cases h1 : l.odd1
  · have : l.check = 9 := if_pos h1
    rw [this]
    exact lk_odd1 l a b n c m d w hf h1
  · by_cases h2 : l.odd2
    · have : l.check = 9 := by unfold Lk.check; rw [if_neg h1, if_pos h2]
      rw [this]
      exact lk_odd2 l a b n c m d w hg hr hq hf h1 h2
    · exact lk_end l a b n c m d w hg hr hq hf h1 h2
/-- a link that may be -/
theorem lk_zero {l : Lk} (h : l.check = 0) : 0 ≤ l.epoch ∧ l.epoch ≤ 1048576 ∧ 1 ≤ l.next ∧ l.next ≤ 1048576 ∧ 0 ≤ l.heard ∧ l.heard ≤ 1048576 ∧ l.sent.length ≤ 8 ∧ (l.sent.length : Int) < l.next ∧ (0 < l.queue.length → l.sent.length = 8) ∧
    frsOk l.sent = true ∧ frsOk l.queue = true ∧ (l.epoch = 0 → l.sent = [] ∧ l.heard = 0) := by
  unfold Lk.check at h
  by_cases h1 : l.odd1
  · rw [if_pos h1] at h; exact absurd h (by decide)
  · rw [if_neg h1] at h
    by_cases h2 : l.odd2
    · rw [if_pos h2] at h; exact absurd h (by decide)
    · rw [if_neg h2] at h
      by_cases h3 : l.epoch = 0 ∧ 0 < (l.sent.length : Int) + l.heard
      · rw [if_pos h3] at h; exact absurd h (by decide)
      · unfold Lk.odd1 at h1
        unfold Lk.odd2 at h2
        have hbs : frsOk l.sent = true := by
          cases hh : frsOk l.sent with
          | true => rfl
          | false => exact absurd (.inr (.inr (.inr (.inl hh)))) h2
        have hbq : frsOk l.queue = true := by
          cases hh : frsOk l.queue with
          | true => rfl
          | false => exact absurd (.inr (.inr (.inr (.inr hh)))) h2
        exact ⟨by omega, by omega, by omega, by omega, by omega, by omega, by omega, by omega, fun hq => by omega, hbs, hbq, fun he => ⟨List.eq_nil_of_length_eq_zero (by omega), by omega⟩⟩
theorem lk_make {l : Lk} (h1 : 0 ≤ l.epoch) (h2 : l.epoch ≤ 1048576) (h3 : 1 ≤ l.next) (h4 : l.next ≤ 1048576) (h5 : 0 ≤ l.heard) (h6 : l.heard ≤ 1048576) (h7 : l.sent.length ≤ 8) (h8 : (l.sent.length : Int) < l.next) (h9 : 0 < l.queue.length → l.sent.length = 8)
    (h10 : frsOk l.sent = true) (h11 : frsOk l.queue = true) (h12 : l.epoch = 0 → l.sent = [] ∧ l.heard = 0) : l.check = 0 := by
  unfold Lk.check
  rw [if_neg (by unfold Lk.odd1; omega), if_neg, if_neg]
  · rintro ⟨he, hs⟩
    obtain ⟨h13, h14⟩ := h12 he
    rw [h13, h14] at hs
    simp at hs
  · unfold Lk.odd2
    rw [h10, h11]
    simp
    omega
end Go.Proofs.YtkbfhgcjimfgkaaDoor
