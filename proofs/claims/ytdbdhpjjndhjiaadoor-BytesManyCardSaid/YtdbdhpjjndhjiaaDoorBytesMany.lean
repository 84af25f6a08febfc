/- The walk of BytesMany. -/
import Derived.Test.YtdbdhpjjndhjiaaDoorDecP
import Derived.SizedLaws
set_option linter.unusedSimpArgs false
namespace Go.Proofs.YtdbdhpjjndhjiaaDoor
open Go.RowKit

theorem dec_long {b : Bs} (h : 50000 < b.length) : decRec b = (⟨0, []⟩, 1) := by unfold decRec; rw [if_pos h]
theorem dec_three : decRec (List.replicate 3 0) = (⟨0, []⟩, 4) := by
  have h1 : Rd.take ⟨List.replicate 3 0, 0⟩ = (0, ⟨[0, 0], 0⟩) := by rfl
  have h2 : Rd.op ⟨[0, 0], 0⟩ = ([], ⟨[0], 0⟩) := by rfl
  have h3 : Rd.done ⟨[0], 0⟩ = ⟨[], 4⟩ := by rfl
  have h4 : rdRec (List.replicate 3 0) = (⟨0, []⟩, ⟨[], 4⟩) := by
    unfold rdRec
    rw [h1]
    simp only [if_true]
    rw [h2, h3]
  have h5 : recFault (List.replicate 3 0) = 4 := by
    unfold recFault
    rw [h4]
    rfl
  unfold decRec
  rw [if_neg (by simp), h5]
  rfl
/-- RecP without what it yields -/
theorem recP_any {x : Rec × Int} {e : Ending} {w w' : World} (h : RecP x w e w') : ∃ (a : Option Addr) (c : Nat), e = .returned (.tuple #[.agg #[.int .i64 x.1.epoch, .slice a x.1.op.length c], .int .i64 x.2]) ∧ RdS (· < w'.heap.size) w' x.1.op a x.1.op.length c ∧ Below w.heap.size w w' := by
  obtain ⟨a, c, h1, h2, h3, _⟩ := h
  exact ⟨a, c, h1, h2.wide fun k hk => hk.2, h3⟩
theorem decRecord_go (b : Bs) (a : Option Addr) (n c : Nat) (w : World) (hg : Good w) (hr : RdS (· < w.heap.size) w b a n c) :
    Calls Tryd.prog 21 #[.slice a n c] w fun e w' => ∃ (a' : Option Addr) (c' : Nat), e = .returned (.tuple #[.agg #[.int .i64 (decRec b).1.epoch, .slice a' (decRec b).1.op.length c'], .int .i64 (decRec b).2]) ∧ RdS (· < w'.heap.size) w' (decRec b).1.op a' (decRec b).1.op.length c' ∧ Below w.heap.size w w' :=
  (decRecord_any b a n c w hg hr).mono fun e w' h => recP_any h
theorem bb_rep (n : Nat) : bb (List.replicate n 0) = List.replicate n (.int .u8 0) := by
  unfold bb; rw [List.map_replicate]; rfl

set_option maxRecDepth 100000 in
set_option maxHeartbeats 3000000 in
theorem bytesMany_walk (w : World) (hg : Good w) (n : Int) (hn : I64 n) :
    Calls Tryd.prog 7 #[.int .i64 n] w fun e w' => e = .returned (.bool true) ∧ Below w.heap.size w w' := by
  obtain ⟨i0, hi, hz0, hz1, hz2⟩ := info_parts infoU8
  have hp := pk_range n 9 (by omega)
  have HP := Lib.hid (picked_any n 9 w hn (by omega) (by omega))
  generalize pk n 9 = q0 at *
  obtain ⟨q, rfl⟩ : ∃ q : Nat, q0 = (q : Int) := ⟨q0.toNat, by omega⟩
  have hq : q < 9 := by omega
  have H1 := Lib.hid (fun (L : Bs) (hL : 50000 < L.length) a n c W hr => decPacket_long L a n c W hr hL)
  have H2 := Lib.hid (fun (L : Bs) (hL : 50000 < L.length) a n c W hg hr => by have := decRecord_go L a n c W hg hr; rw [dec_long hL] at this; exact this)
  have H3 := Lib.hid (fun a n c W hg hr => by have := decRecord_go (List.replicate 3 0) a n c W hg hr; rw [dec_three] at this; exact this)
  clear hp
  go_enter Tryd.func7, Tryd.ntmps7
  go_wp2_with fail
  refine HP.out.mono ?_
  rintro e w0 ⟨rfl, rfl⟩
  go_wp2_with (at_make; refine wpList_make_full _ rfl _ _ 25 rfl w.heap.size 5 i0 (.int .u8 0) 1 Tryd.underlying25 hi hz0 hz1 _ _ _ _ (50001 + q) rfl rfl (by omega) (by omega) ?b2 ?b3 ?b4 ?_)
  case b2 => rw [hz2]; omega
  case b3 => unfold maxLen; omega
  case b4 => exact Nat.le_refl _
  intro w1 hown hgrow
  have hb1 : Below w.heap.size w w1 := (Below.refl _ _).grown hgrow (Nat.le_refl _) (fun g hg => by cases hg)
  have hlen : (List.replicate (50001 + q) (0 : UInt8)).length = 50001 + q := by simp
  have hown0 : w1.ownsRow w.heap.size 5 1 (.slice (some ⟨w.heap.size, 0, none⟩) (50001 + q) (50001 + q)) (List.replicate (50001 + q) (0 : UInt8)).length (bb (List.replicate (50001 + q) 0)) := by
    rw [toList_madeCells_one] at hown
    rw [hlen, bb_rep]
    simpa using hown
  obtain ⟨a, c, hv, -, hr⟩ := rd_bytes hown0 (A := (· < w1.heap.size)) (fun k hk => (hown0.lt k hk).2)
  injection hv with h1 h2 h3
  subst h1 h3
  rw [hlen] at hr
  have hr3 : RdS (· < w1.heap.size) w1 (List.replicate 3 (0 : UInt8)) (some ⟨w.heap.size, 0, none⟩) 3 (50001 + q) := by
    have := hr.upto 3 (by omega)
    rwa [List.take_replicate, show min 3 (50001 + q) = 3 from by omega] at this
  have hL : 50000 < (List.replicate (50001 + q) (0 : UInt8)).length := by omega
  have H1 := Lib.hid (H1.out _ hL)
  have H2 := Lib.hid (H2.out _ hL)
  have g0 := Lib.hid (hg.go hb1)
  have B0' := Lib.hid hb1
  have rb0 := Lib.hid hr
  have rd0 := Lib.hid hr3
  clear hown hgrow hown0 h2 hr hr3 hlen hL hi hz0 hz1 hz2 HP
  generalize w1 = w0 at *
  have B0 := B0'
  clear B0'
  go_wp2_with fail
  refine (H1.out _ _ _ _ rb0.out).mono ?_
  rintro e w1 ⟨rfl, hb⟩
  have B1 := Lib.hid (up B0.out hb)
  have g1 := Lib.hid (g0.out.below' hb)
  have rb1 := Lib.hid (rb0.out.go hb)
  have rd1 := Lib.hid (rd0.out.go hb)
  clear B0 g0 rb0 rd0 hb
  go_wp2_with fail
  refine abs_run (fun W => Below w1.heap.size w1 W) (by (repeat (first | exact Below.refl _ _ | assumption | (refine Below.drew ?_) | (refine below_drewN ?_ _) | (refine Below.alloc ?_ (by first | (simp; done) | (simp; omega) | omega) _) | (refine Below.setCell ?_ (by first | (simp; done) | (simp; omega) | omega) _) | (refine Below.trans ?_ (Below.mono (by assumption) (by first | (simp; done) | (simp; omega) | omega)))))) ?_
  rintro w2 hb
  have B2 := Lib.hid (up B1.out hb)
  have g2 := Lib.hid (g1.out.below' hb)
  have rb2 := Lib.hid (rb1.out.go hb)
  have rd2 := Lib.hid (rd1.out.go hb)
  clear B1 g1 rb1 rd1 hb
  refine (H2.out _ _ _ _ g2.out rb2.out).mono ?_
  rintro e w3 ⟨a2, c2, rfl, -, hb⟩
  have B3 := Lib.hid (up B2.out hb)
  have g3 := Lib.hid (g2.out.below' hb)
  have rb3 := Lib.hid (rb2.out.go hb)
  have rd3 := Lib.hid (rd2.out.go hb)
  clear B2 g2 rb2 rd2 hb
  go_wp2_with fail
  refine abs_run (fun W => Below w3.heap.size w3 W) (by (repeat (first | exact Below.refl _ _ | assumption | (refine Below.drew ?_) | (refine below_drewN ?_ _) | (refine Below.alloc ?_ (by first | (simp; done) | (simp; omega) | omega) _) | (refine Below.setCell ?_ (by first | (simp; done) | (simp; omega) | omega) _) | (refine Below.trans ?_ (Below.mono (by assumption) (by first | (simp; done) | (simp; omega) | omega)))))) ?_
  rintro w4 hb
  have B4 := Lib.hid (up B3.out hb)
  have g4 := Lib.hid (g3.out.below' hb)
  have rb4 := Lib.hid (rb3.out.go hb)
  have rd4 := Lib.hid (rd3.out.go hb)
  clear B3 g3 rb3 rd3 hb
  refine (H3.out _ _ _ _ g4.out rd4.out).mono ?_
  rintro e w5 ⟨a3, c3, rfl, -, hb⟩
  have B5 := Lib.hid (up B4.out hb)
  have g5 := Lib.hid (g4.out.below' hb)
  have rb5 := Lib.hid (rb4.out.go hb)
  have rd5 := Lib.hid (rd4.out.go hb)
  clear B4 g4 rb4 rd4 hb
  go_wp2_with fail
  go_ret
  exact ⟨rfl, (up B5.out (by (repeat (first | exact Below.refl _ _ | assumption | (refine Below.drew ?_) | (refine below_drewN ?_ _) | (refine Below.alloc ?_ (by first | (simp; done) | (simp; omega) | omega) _) | (refine Below.setCell ?_ (by first | (simp; done) | (simp; omega) | omega) _) | (refine Below.trans ?_ (Below.mono (by assumption) (by first | (simp; done) | (simp; omega) | omega)))))))⟩
end Go.Proofs.YtdbdhpjjndhjiaaDoor
