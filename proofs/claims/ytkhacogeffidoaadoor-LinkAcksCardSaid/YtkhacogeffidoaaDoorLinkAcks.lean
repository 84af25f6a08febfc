/- The walk of LinkAcks. -/
import Derived.Test.YtkhacogeffidoaaDoorLkHear2
import Derived.Test.YtkhacogeffidoaaDoorLkTick
import Derived.Test.YtkhacogeffidoaaDoorPick
set_option linter.unusedVariables false
set_option linter.unusedSimpArgs false
namespace Go.Proofs.YtkhacogeffidoaaDoor
open Go.RowKit

def jn : Fr := ⟨2, 0, 1, [], noText⟩
theorem jn_ok : jn.check = 0 := by
  have a1 : num 0 = true := by simp [num]
  have a2 : num 1 = true := by simp [num]
  have h : checkText noText = 0 := by decide
  simp [Fr.check, jn, checkFrame, a1, a2, check_nil, h, frameOdd, emptyS_noText]
theorem jns_ok (k : Nat) : frsOk (List.replicate k jn) = true := by
  unfold frsOk
  rw [List.all_eq_true]
  intro f hf
  rw [List.eq_of_mem_replicate hf, jn_ok]; rfl
theorem jn_fits : jn.fits := ⟨by unfold I64; simp [jn], by unfold I64; simp [jn], by unfold I64; simp [jn], by simp [jn, noText_size]⟩
/-- a link with the k frames sent of which n are known to have come -/
def lkA (k n : Nat) : Lk := ⟨2, 1 + (k : Int), List.replicate (k - n) jn, [], 0⟩
theorem lkA_check {k n : Nat} (hk : k ≤ 8) : (lkA k n).check = 0 := by
  refine lk_make ?_ ?_ ?_ ?_ ?_ ?_ ?_ ?_ ?_ (jns_ok _) rfl ?_
  all_goals simp only [lkA, List.length_replicate, List.length_nil]
  all_goals omega
theorem lkA_fits {k n : Nat} (hk : k ≤ 8) : (lkA k n).fits := ⟨by unfold I64; simp [lkA], by unfold I64; simp only [lkA]; omega, by unfold I64; simp [lkA]⟩
theorem lkA_send {k : Nat} (hk : k < 8) : (lkA k 0).sendE jn = 0 ∧ (lkA k 0).sendL jn = lkA (k + 1) 0 := by
  have h0 : (lkA k 0).sendE jn = 0 := by
    unfold Lk.sendE
    rw [lkA_check (by omega), if_neg (by simp), if_neg (by simp [lkA]), jn_ok, if_neg (by simp), if_neg (by simp only [lkA]; omega)]
  refine ⟨h0, ?_⟩
  unfold Lk.sendL
  rw [if_pos h0]
  unfold Lk.push Lk.filled
  simp only [lkA, Nat.sub_zero, List.nil_append]
  rw [fillL_go (by rw [List.length_replicate]; exact hk) (by omega), fillL_nil]
  simp only
  rw [List.replicate_succ']
  congr 1
  all_goals (push_cast; omega)
def ackP (n : Nat) : Pkt := ⟨2, 0, true, (n : Int), bareFr⟩
theorem ackP_ok {n : Nat} (h : n ≤ 8) : (ackP n).check = 0 := by
  have a1 : num 2 = true := by simp [num]
  have a2 : num 0 = true := by simp [num]
  have a3 : num (n : Int) = true := by simp [num]; omega
  simp [Pkt.check, checkPacket, ackP, a1, a2, a3, emptyF, bareFr, emptyS_noText]
theorem ackP_fits {n : Nat} (h : n ≤ 8) : (ackP n).fits := ⟨by unfold I64; simp [ackP], by unfold I64; simp [ackP], by unfold I64; simp only [ackP]; omega, by unfold I64; simp [ackP, bareFr], by unfold I64; simp [ackP, bareFr], by unfold I64; simp [ackP, bareFr], by simp [ackP, bareFr, noText_size]⟩
theorem lkA_hear {k n : Nat} (hk : k ≤ 8) (hn : n ≤ k) : (lkA k 0).hearE (ackP n) = 0 ∧ (lkA k 0).hearL (ackP n) = lkA k n := by
  have h0 : (lkA k 0).hearE (ackP n) = 0 := by
    unfold Lk.hearE
    rw [lkA_check hk, ackP_ok (by omega), if_neg (by simp), if_neg (by simp), if_neg (by simp [lkA, ackP])]
  refine ⟨h0, ?_⟩
  have ha : (lkA k 0).acked (n : Int) = List.replicate (k - n) jn := by
    unfold Lk.acked
    simp only [lkA, Nat.sub_zero, List.length_replicate]
    by_cases h : 1 ≤ n
    · rw [if_pos (by omega), List.drop_replicate]
      congr 1
      omega
    · rw [if_neg (by omega)]
      congr 1
      omega
  unfold Lk.hearL
  rw [if_pos h0]
  unfold Lk.behind Lk.filled
  rw [show (ackP n).ack = (n : Int) from rfl, ha]
  simp only [lkA, fillL_nil]
  congr 1
theorem lkA_tick {k n : Nat} (hk : k ≤ 8) (hn : n ≤ k) : ((lkA k n).tickP).length = max (k - n) 1 ∧ (n < k → (lkA k n).tickP.head?.map (·.number) = some ((n : Int) + 1)) := by
  unfold Lk.tickP
  rw [lkA_check hk, if_neg (by simp), if_neg (by simp [lkA])]
  by_cases h : k = n
  · rw [if_pos (by simp [lkA, h])]
    exact ⟨by simp [h], fun h2 => absurd h2 (by omega)⟩
  · rw [if_neg (by simp [lkA, List.replicate_eq_nil_iff]; omega)]
    have hl : (lkA k n).sent.length = k - n := by simp [lkA]
    refine ⟨by rw [Lk.pks, List.length_map, List.length_range, hl]; omega, fun _ => ?_⟩
    unfold Lk.pks
    rw [hl]
    obtain ⟨m, hm⟩ : ∃ m, k - n - 0 = m + 1 := ⟨k - n - 1, by omega⟩
    rw [hm, List.range_succ_eq_map, List.map_cons, List.head?_cons, Option.map_some]
    unfold Lk.pk
    simp only [lkA, List.length_replicate]
    congr 1
    omega
theorem openLk_two : openLk 2 = ⟨2, 1, [], [], 0⟩ ∧ openE 2 = 0 := ⟨rfl, rfl⟩
/-- the three calls, at such links -/
theorem sendN (k : Nat) (hk : k < 8) (a b : Option Addr) (c d : Nat) (w : World) (hg : Good w) (hr : RdS (· < w.heap.size) w (List.replicate k jn) a k c) (hq : RdS (· < w.heap.size) w ([] : List Fr) b 0 d) :
    Calls Tryd.prog 20 #[.agg #[.int .i64 2, .int .i64 (1 + (k : Int)), .slice a k c, .slice b 0 d, .int .i64 0], .agg #[.int .i64 2, .int .i64 0, .int .i64 1, .slice none 0 0, .string ⟨#[]⟩]] w fun e w' =>
      ∃ sa sc qa qc pa pc np, e = .returned (.tuple #[.agg #[.int .i64 2, .int .i64 (1 + ((k + 1 : Nat) : Int)), .slice sa (k + 1) sc, .slice qa 0 qc, .int .i64 0], .slice pa np pc, .int .i64 0]) ∧
        RdS (fun z => w.heap.size ≤ z ∧ z < w'.heap.size) w' (List.replicate (k + 1) jn) sa (k + 1) sc ∧ RdS (fun z => w.heap.size ≤ z ∧ z < w'.heap.size) w' ([] : List Fr) qa 0 qc ∧ Below w.heap.size w w' := by
  have h := lkSend_any (lkA k 0) jn a b none k c 0 d 0 0 w hg hr hq (RdS.nil _ _) (lkA_fits (by omega)) jn_fits (by omega)
  rw [(lkA_send hk).2, (lkA_send hk).1] at h
  refine h.mono ?_
  rintro e w' ⟨sa, sc, qa, qc, pa, pc, rfl, h1, h2, -, h4⟩
  simp only [lkA, Nat.sub_zero, List.length_replicate, List.length_nil] at h1 h2 ⊢
  exact ⟨sa, sc, qa, qc, pa, pc, _, rfl, h1, h2, h4⟩
theorem hearN (k n : Nat) (hk : k ≤ 8) (hn : n ≤ k) (a b : Option Addr) (c d : Nat) (w : World) (hg : Good w) (hr : RdS (· < w.heap.size) w (List.replicate k jn) a k c) (hq : RdS (· < w.heap.size) w ([] : List Fr) b 0 d) :
    Calls Tryd.prog 19 #[.agg #[.int .i64 2, .int .i64 (1 + (k : Int)), .slice a k c, .slice b 0 d, .int .i64 0], .agg #[.int .i64 2, .int .i64 0, .bool true, .int .i64 (n : Int), .int .i64 0, .int .i64 0, .int .i64 0, .slice none 0 0, .string ⟨#[]⟩]] w fun e w' =>
      ∃ sa sc qa qc x1 x2 x3 fa fn fc ft tb pa np pc, e = .returned (.tuple #[.agg #[.int .i64 2, .int .i64 (1 + (k : Int)), .slice sa (k - n) sc, .slice qa 0 qc, .int .i64 0], .agg #[.int .i64 x1, .int .i64 x2, .int .i64 x3, .slice fa fn fc, .string ft], .bool tb, .slice pa np pc, .int .i64 0]) ∧
        RdS (fun z => w.heap.size ≤ z ∧ z < w'.heap.size) w' (List.replicate (k - n) jn) sa (k - n) sc ∧ RdS (fun z => w.heap.size ≤ z ∧ z < w'.heap.size) w' ([] : List Fr) qa 0 qc ∧ Below w.heap.size w w' := by
  have h := lkHear_any (lkA k 0) (ackP n) a b none k c 0 d 0 0 w hg hr hq (RdS.nil _ _) (lkA_fits hk) (ackP_fits (by omega)) (by omega)
  refine h.mono ?_
  unfold LkHearP
  rw [(lkA_hear hk hn).2, (lkA_hear hk hn).1]
  rintro e w' ⟨sa, sc, qa, qc, fa, fc, pa, pc, rfl, h1, h2, -, -, h4⟩
  simp only [lkA, List.length_replicate, List.length_nil] at h1 h2 ⊢
  exact ⟨sa, sc, qa, qc, _, _, _, fa, _, fc, _, _, pa, _, pc, rfl, h1, h2, h4⟩
theorem tickN (k n : Nat) (hk : k ≤ 8) (hn : n ≤ k) (a b : Option Addr) (c d : Nat) (w : World) (hg : Good w) (hr : RdS (· < w.heap.size) w (List.replicate (k - n) jn) a (k - n) c) (hq : RdS (· < w.heap.size) w ([] : List Fr) b 0 d) :
    Calls Tryd.prog 23 #[.agg #[.int .i64 2, .int .i64 (1 + (k : Int)), .slice a (k - n) c, .slice b 0 d, .int .i64 0]] w fun e w' =>
      ∃ pa pc, e = .returned (.tuple #[.slice pa (max (k - n) 1) pc, .int .i64 0]) ∧ (n < k → ∃ g off, pa = some ⟨g, off, none⟩ ∧ g < w'.heap.size ∧ w'.cell? ⟨g, off + 1, none⟩ = some (.int .i64 ((n : Int) + 1))) ∧ Below w.heap.size w w' := by
  have h := tick_any (lkA k n) a b (k - n) c 0 d w hg hr hq (lkA_fits hk)
  refine h.mono ?_
  rw [lkA_check hk]
  rintro e w' ⟨pa, pc, rfl, h1, h4⟩
  obtain ⟨t1, t2⟩ := lkA_tick hk hn
  rw [t1] at h1 ⊢
  refine ⟨pa, pc, rfl, fun hlt => ?_, h4⟩
  have t3 := t2 hlt
  obtain ⟨g, off, e, hA, hb, he⟩ := h1.2.2.2.2 (by omega)
  cases hp : (lkA k n).tickP with
  | nil => rw [hp] at t3; simp at t3
  | cons p ps =>
    rw [hp] at t3 he
    simp only [List.head?_cons, Option.map_some, Option.some.injEq] at t3
    obtain ⟨xs, ⟨a', n', c', rfl, _⟩, h5⟩ := he 0 p rfl
    refine ⟨g, off, e, hb, ?_⟩
    have h6 := h5 1 _ rfl
    rw [t3] at h6
    simpa using h6
set_option maxRecDepth 100000 in
set_option maxHeartbeats 6000000 in
theorem linkAcks_walk (w : World) (hg : Good w) (ma ca : Int) (hma : I64 ma) (hca : I64 ca) :
    Calls Tryd.prog 7 #[.int .i64 ma, .int .i64 ca] w fun e w' => e = .returned (.bool true) ∧ Below w.heap.size w w' := by
  have HO := Lib.hid (fun W => open_any 2 W (by unfold I64; omega))
  rw [(openLk_two).1, (openLk_two).2] at HO
  have rk := pk_range ma 8 (by omega)
  have HM := Lib.hid (fun W => picked_any ma 8 W hma (by omega) (by omega))
  obtain ⟨K, hK⟩ : ∃ K : Nat, 1 + pk ma 8 = (K : Int) := ⟨(1 + pk ma 8).toNat, by omega⟩
  generalize pk ma 8 = PM at *
  have hK8 : 1 ≤ K ∧ K ≤ 8 := by omega
  have rn := pk_range ca (K + 1) (by omega)
  have HN := Lib.hid (fun W => picked_any ca (K + 1) W hca (by omega) (by omega))
  obtain ⟨n, hn⟩ : ∃ n : Nat, pk ca (K + 1) = (n : Int) := ⟨(pk ca (K + 1)).toNat, by omega⟩
  rw [hn] at HN rn
  have hnK : n ≤ K := by omega
  have HS := Lib.hid (fun k hk a b c d W hg hr hq => sendN k hk a b c d W hg hr hq)
  have HH := Lib.hid (fun a b c d W hg hr hq => hearN K n hK8.2 hnK a b c d W hg hr hq)
  have HT := Lib.hid (fun a b c d W hg hr hq => tickN K n hK8.2 hnK a b c d W hg hr hq)
  have g0 := Lib.hid hg
  clear hg hma hca rk hn rn
  go_enter Tryd.func7, Tryd.ntmps7
  go_wp2_with fail
  refine (HO.out _).mono ?_
  rintro e w1 ⟨rfl, b1⟩
  have B1 := Lib.hid b1
  have g1 := Lib.hid (g0.out.go b1)
  clear b1 HO
  go_wp2_with fail
  refine (HM.out _).mono ?_
  rintro e w2 ⟨rfl, rfl⟩
  go_wp2_with fail
  refine abs_w (fun W => Below w1.heap.size w1 W ∧ Blk w1.heap.size (.cells #[.int .i64 2, .int .i64 1, .slice none 0 0, .slice none 0 0, .int .i64 0] 33 (0, 0)) W) ⟨by (repeat (first | exact Below.refl _ _ | assumption | (refine Below.drew ?_) | (refine below_drewN ?_ _) | (refine Below.alloc ?_ (by first | (simp; done) | (simp; omega) | omega) _) | (refine Below.setCell ?_ (by first | (simp; done) | (simp; omega) | omega) _) | (refine Below.trans ?_ (Below.mono (by assumption) (by first | (simp; done) | (simp; omega) | omega))))), Blk.new w1 _⟩ ?_
  rintro w3 ⟨b3, x3⟩
  have B3 := Lib.hid (up B1.out b3)
  have g3 := Lib.hid (g1.out.go b3)
  have hz1 := B1.out.size
  have X3 := Lib.hid x3
  clear b3 x3 B1 g1
  go_loopw [8] (fun i wr => ∃ (k : Nat) (sa qa : Option Addr) (sc qc : Nat), k ≤ K ∧ i = .int .i64 k ∧ Below w.heap.size w wr ∧ Good wr ∧ Blk w1.heap.size (.cells #[.int .i64 2, .int .i64 (1 + (k : Int)), .slice sa k sc, .slice qa 0 qc, .int .i64 0] 33 (0, 0)) wr ∧
    RdS (fun z => z < wr.heap.size ∧ z ≠ w1.heap.size) wr (List.replicate k jn) sa k sc ∧ RdS (fun z => z < wr.heap.size ∧ z ≠ w1.heap.size) wr ([] : List Fr) qa 0 qc) (fun i _ => K - (intOf i).toNat)
  case atStart => exact ⟨0, none, none, 0, 0, by omega, rfl, B3.out, g3.out, X3.out, RdS.nil _ _, RdS.nil _ _⟩
  case round =>
    obtain ⟨k, sa, qa, sc, qc, hk, rfl, b4, g4, x4, rs, rq⟩ := hrel
    clear B3 g3 X3
    obtain ⟨q0, q1, q2, q3, q4⟩ := blk_cells5 x4
    have B4 := Lib.hid b4
    have G4 := Lib.hid g4
    have X4 := Lib.hid x4
    have Rs := Lib.hid (rs.mono fun z hz => ⟨hz.1, rfl⟩ : RdS (· < wr.heap.size) wr (List.replicate k jn) sa k sc)
    have Rq := Lib.hid (rq.mono fun z hz => ⟨hz.1, rfl⟩ : RdS (· < wr.heap.size) wr ([] : List Fr) qa 0 qc)
    clear b4 g4 x4 rs rq
    by_cases hlt : k < K
    · clear HH HT HN HM
      go_wp2_with fail
      refine (HS.out k (by omega) _ _ _ _ _ G4.out Rs.out Rq.out).mono ?_
      rintro e w5 ⟨sa5, sc5, qa5, qc5, pa5, pc5, np5, rfl, rs5, rq5, b5⟩
      have X5 := Lib.hid (X4.out.go b5)
      have B5 := Lib.hid (up B4.out b5)
      have G5 := Lib.hid (G4.out.go b5)
      have hlt4 := X4.out.lt
      have Rs5 := Lib.hid rs5
      have Rq5 := Lib.hid rq5
      have hz5 := b5.size
      clear b5 rs5 rq5 X4 B4 G4 Rs Rq q0 q1 q2 q3 q4 HS
      obtain ⟨q0, q1, q2, q3, q4⟩ := blk_cells5 X5.out
      have qf := X5.out.frozen
      have hlt5 := X5.out.lt
      have HTo := Lib.hid (touch5 w5 w1.heap.size (.int .i64 2) (.int .i64 (1 + ((k : Int) + 1))) (.slice sa5 (k + 1) sc5) (.slice qa5 0 qc5) (.int .i64 0))
      have HBo := Lib.hid (blk_set5 X5.out (.int .i64 2) (.int .i64 (1 + ((k : Int) + 1))) (.slice sa5 (k + 1) sc5) (.slice qa5 0 qc5) (.int .i64 0))
      go_wp2_with fail
      case roundEnd =>
        have hT := HTo.out
        have hB := HBo.out
        generalize (((((w5.setCell ⟨w1.heap.size, 0, none⟩ (.int .i64 2)).setCell ⟨w1.heap.size, 1, none⟩ (.int .i64 (1 + ((k : Int) + 1)))).setCell ⟨w1.heap.size, 2, none⟩ (.slice sa5 (k + 1) sc5)).setCell ⟨w1.heap.size, 3, none⟩ (.slice qa5 0 qc5)).setCell ⟨w1.heap.size, 4, none⟩ (.int .i64 0)) = WS at hT hB ⊢
        have hzS := hT.size
        have hBl : Below w.heap.size w WS := B5.out.trans (hT.toBelow (by omega) (fun k hk => by omega))
        have hz0 := hBl.size
        have hal := (Below.refl WS.heap.size WS).alloc (Nat.le_refl _) (.cells #[.int .i64 2, .int .i64 (1 + ((k : Int) + 1)), .slice sa5 (k + 1) sc5, .slice qa5 0 qc5, .int .i64 0] 33)
        have hkk : ((k : Int) + 1) = ((k + 1 : Nat) : Int) := by push_cast; rfl
        rw [hkk] at hB hal ⊢
        refine ⟨⟨k + 1, sa5, qa5, sc5, qc5, by omega, rfl, up hBl hal, g0.out.go (up hBl hal), hB.go hal, Rs5.out.mono fun z hz => ⟨⟨Nat.lt_of_lt_of_le hz.2 (Nat.le_trans hzS hal.size), by have := hz.1; omega⟩, (hal.block z (Nat.lt_of_lt_of_le hz.2 hzS)).trans (hT.block z hz.2 (by have := hz.1; omega))⟩, Rq5.out.mono fun z hz => ⟨⟨Nat.lt_of_lt_of_le hz.2 (Nat.le_trans hzS hal.size), by have := hz.1; omega⟩, (hal.block z (Nat.lt_of_lt_of_le hz.2 hzS)).trans (hT.block z hz.2 (by have := hz.1; omega))⟩⟩, ?_⟩
        simp [intOf]
        omega
    · have hkK : k = K := by omega
      subst hkK
      clear HS HM
      go_wp2_with fail
      refine (HN.out _).mono ?_
      rintro e w5 ⟨rfl, rfl⟩
      go_wp2_with fail
      refine (HH.out _ _ _ _ _ G4.out Rs.out Rq.out).mono ?_
      rintro e w6 ⟨sa6, sc6, qa6, qc6, x1, x2, x3, fa, fn, fc, ft, tb, pa, np, pc, rfl, rs6, rq6, b6⟩
      have B6 := Lib.hid (up B4.out b6)
      have G6 := Lib.hid (G4.out.go b6)
      have Rs6 := Lib.hid (rs6.mono fun z hz => ⟨hz.2, rfl⟩ : RdS (· < w6.heap.size) w6 (List.replicate (k - n) jn) sa6 (k - n) sc6)
      have Rq6 := Lib.hid (rq6.mono fun z hz => ⟨hz.2, rfl⟩ : RdS (· < w6.heap.size) w6 ([] : List Fr) qa6 0 qc6)
      clear b6 rs6 rq6 X4 B4 G4 Rs Rq q0 q1 q2 q3 q4 HN HH
      go_wp2_with fail
      refine (HT.out _ _ _ _ _ (G6.out.go (by (repeat (first | exact Below.refl _ _ | assumption | (refine Below.drew ?_) | (refine below_drewN ?_ _) | (refine Below.alloc ?_ (by first | (simp; done) | (simp; omega) | omega) _) | (refine Below.setCell ?_ (by first | (simp; done) | (simp; omega) | omega) _) | (refine Below.trans ?_ (Below.mono (by assumption) (by first | (simp; done) | (simp; omega) | omega))))))) (Rs6.out.go (by (repeat (first | exact Below.refl _ _ | assumption | (refine Below.drew ?_) | (refine below_drewN ?_ _) | (refine Below.alloc ?_ (by first | (simp; done) | (simp; omega) | omega) _) | (refine Below.setCell ?_ (by first | (simp; done) | (simp; omega) | omega) _) | (refine Below.trans ?_ (Below.mono (by assumption) (by first | (simp; done) | (simp; omega) | omega))))))) (Rq6.out.go (by (repeat (first | exact Below.refl _ _ | assumption | (refine Below.drew ?_) | (refine below_drewN ?_ _) | (refine Below.alloc ?_ (by first | (simp; done) | (simp; omega) | omega) _) | (refine Below.setCell ?_ (by first | (simp; done) | (simp; omega) | omega) _) | (refine Below.trans ?_ (Below.mono (by assumption) (by first | (simp; done) | (simp; omega) | omega)))))))).mono ?_
      rintro e w7 ⟨pa7, pc7, rfl, hp7, b7⟩
      have bx := ((Blk.new w6 (.cells #[.int .i64 2, .int .i64 (1 + (k : Int)), .slice sa6 (k - n) sc6, .slice qa6 0 qc6, .int .i64 0] 33)).alloc (.cells #[.int .i64 x1, .int .i64 x2, .int .i64 x3, .slice fa fn fc, .string ft] 30)).go b7
      have b67 : Below w6.heap.size w6 w7 := up (by (repeat (first | exact Below.refl _ _ | assumption | (refine Below.drew ?_) | (refine below_drewN ?_ _) | (refine Below.alloc ?_ (by first | (simp; done) | (simp; omega) | omega) _) | (refine Below.setCell ?_ (by first | (simp; done) | (simp; omega) | omega) _) | (refine Below.trans ?_ (Below.mono (by assumption) (by first | (simp; done) | (simp; omega) | omega)))))) b7
      have B7 := Lib.hid (up B6.out b67)
      clear b67 b7 B6 G6 Rs6 Rq6 HT
      generalize hM : k - n = M at *
      generalize hT : max M 1 = T at *
      have hMi : (k : Int) - (n : Int) = (M : Int) := by omega
      have hTi : max (M : Int) 1 = (T : Int) := by omega
      obtain ⟨q0, q1, q2, q3, q4⟩ := blk_cells5 bx
      have hT1 : 0 < T := by omega
      by_cases hkn : k = n
      · have hb : ((k : Int) == (n : Int)) = true := by simp [hkn]
        clear hM hT hkn hp7 bx
        go_wp2_with fail
        go_ret
        exact ⟨rfl, B7.out⟩
      · have hb : ((k : Int) == (n : Int)) = false := by simp; omega
        obtain ⟨g, off, rfl, hgz, hc⟩ := hp7 (by omega)
        clear hM hT hkn hp7 bx
        go_wp2_with fail
        go_ret
        exact ⟨rfl, B7.out⟩
end Go.Proofs.YtkhacogeffidoaaDoor
