/- The walk of wherrykeep.Record, and of sameRecord at two that read alike. -/
import Derived.Test.YtdbdhpjjndhjiaaDoorDec
import Derived.Test.YtdbdhpjjndhjiaaDoorSameOp
import Derived.Test.YtdbdhpjjndhjiaaDoorSub
set_option linter.unusedSimpArgs false
namespace Go.Proofs.YtdbdhpjjndhjiaaDoor
open Go.RowKit

def recOf (r : Raw) (l : List Raw) : Rec := if pk r.kind 3 = 0 then ⟨1 + pk r.a 1000, []⟩ else ⟨0, mkOp (pk r.c 20) l⟩
theorem recOf_ok (r : Raw) (l : List Raw) : checkRecord (recOf r l) = 0 ∧ I64 (recOf r l).epoch := by
  have h1 := pk_range r.a 1000 (by omega)
  have h2 := pk_range r.c 20 (by omega)
  unfold recOf
  split
  · exact ⟨rec_epoch (by omega) (by omega), by unfold I64; simp only; omega⟩
  · exact ⟨rec_op (mkOp_ok _ l (by omega) (by omega)).1, by unfold I64; simp⟩
def RecMP (w : World) (x : Rec) (e : Ending) (w' : World) : Prop :=
  ∃ (a : Option Addr) (c : Nat), e = .returned (.agg #[.int .i64 x.epoch, .slice a x.op.length c]) ∧ RdS (fun b => w.heap.size ≤ b ∧ b < w'.heap.size) w' x.op a x.op.length c ∧ Below w.heap.size w w'
set_option maxRecDepth 100000 in
set_option maxHeartbeats 2000000 in
theorem record_any (r : Raw) (l : List Raw) (a : Option Addr) (n c : Nat) (w : World) (hr : RdS (· < w.heap.size) w l a n c) (hk : r.ok) :
    Calls Tryd.prog 20 #[rawV r, .slice a n c] w (RecMP w (recOf r l)) := by
  obtain ⟨k, xa, xb, xc, t⟩ := r
  obtain ⟨hk, ha, hb, hc, ht⟩ := hk
  unfold recOf rawV
  simp only at *
  have HK := Lib.hid (fun W => picked_any k 3 W hk (by omega) (by omega))
  have HA := Lib.hid (fun W => picked_any xa 1000 W ha (by omega) (by omega))
  have HC := Lib.hid (fun W => picked_any xc 20 W hc (by omega) (by omega))
  have ra := pk_range xa 1000 (by omega)
  have rc' := pk_range xc 20 (by omega)
  have HOp := Lib.hid (fun W (hb : Below w.heap.size w W) => mkOp_new (pk xc 20) l a n c W (hr.go hb) rc'.1 (by omega))
  generalize mkOp (pk xc 20) l = o at *
  generalize pk xa 1000 = PA at *
  generalize pk xc 20 = PC at *
  generalize pk k 3 = PK at *
  clear hr ha hb hc ht hk
  by_cases h0 : PK = 0
  · rw [if_pos h0]
    subst h0
    go_enter Tryd.func20, Tryd.ntmps20
    go_wp2_with fail
    refine (HK.out _).mono ?_
    rintro e w1 ⟨rfl, rfl⟩
    go_wp2_with fail
    refine (HA.out _).mono ?_
    rintro e w1 ⟨rfl, rfl⟩
    go_wp2_with fail
    refine abs_ret (fun W => Blk (w.heap.size + 1) (.cells #[.int .i64 (1 + PA), .slice none 0 0] 33 (0, 0)) W ∧ Below w.heap.size w W) ?_ ?_
    · refine ⟨?_, by (repeat (first | exact Below.refl _ _ | assumption | (refine Below.drew ?_) | (refine below_drewN ?_ _) | (refine Below.alloc ?_ (by first | (simp; done) | (simp; omega) | omega) _) | (refine Below.setCell ?_ (by first | (simp; done) | (simp; omega) | omega) _) | (refine Below.trans ?_ (Below.mono (by assumption) (by first | (simp; done) | (simp; omega) | omega)))))⟩
      exact Blk.at (w.alloc _) _ (w.heap.size + 1) (by simp)
    rintro W ⟨hB, hW⟩
    have p0 : W.cell? ⟨w.heap.size + 1, 0, none⟩ = some (.int .i64 (1 + PA)) := hB.cell 0
    have p1 : W.cell? ⟨w.heap.size + 1, 1, none⟩ = some (.slice none 0 0) := hB.cell 1
    refine bodyPost_ret (v := .agg #[.int .i64 (1 + PA), .slice none 0 0]) (by simp [results, Tryd.results20, go_sem, p0, p1]) rfl ?_
    exact ⟨none, 0, rfl, RdS.empty _ _ _, hW⟩
  · rw [if_neg h0]
    have hb0 : (PK == 0) = false := by simpa using h0
    clear h0 HA ra
    go_enter Tryd.func20, Tryd.ntmps20
    go_wp2_with fail
    refine (HK.out _).mono ?_
    rintro e w1 ⟨rfl, rfl⟩
    go_wp2_with fail
    refine (HC.out _).mono ?_
    rintro e w1 ⟨rfl, rfl⟩
    go_wp2_with fail
    refine abs_run (fun W => Blk (w.heap.size + 1) (.cells #[.int .i64 0, .slice none 0 0] 33 (0, 0)) W ∧ Below w.heap.size w W) ⟨Blk.at (w.alloc _) _ (w.heap.size + 1) (by simp), by (repeat (first | exact Below.refl _ _ | assumption | (refine Below.drew ?_) | (refine below_drewN ?_ _) | (refine Below.alloc ?_ (by first | (simp; done) | (simp; omega) | omega) _) | (refine Below.setCell ?_ (by first | (simp; done) | (simp; omega) | omega) _) | (refine Below.trans ?_ (Below.mono (by assumption) (by first | (simp; done) | (simp; omega) | omega)))))⟩ ?_
    rintro W1 ⟨hB1, hW1⟩
    have z1 := hB1.lt
    refine (HOp.out _ hW1).mono ?_
    rintro e W2 ⟨a2, c2, rfl, r2, u2⟩
    have hB2 := hB1.go u2
    have k0 : W2.cell? ⟨w.heap.size + 1, 0, none⟩ = some (.int .i64 0) := hB2.cell 0
    have k1 : W2.cell? ⟨w.heap.size + 1, 1, none⟩ = some (.slice none 0 0) := hB2.cell 1
    have k2 : ∀ i, W2.frozen? ⟨w.heap.size + 1, i, none⟩ = false := hB2.frozen
    have HB2 := Lib.hid hB2
    have R2 := Lib.hid r2
    have U2 := Lib.hid (up hW1 u2)
    clear hB1 hW1 r2 u2 hB2 HOp HC HK
    go_wp2_with fail
    refine abs_ret (fun W => Blk (w.heap.size + 1) (.cells #[.int .i64 0, .slice a2 o.length c2] 33 (0, 0)) W ∧ Below w.heap.size w W ∧ RdS (fun b => w.heap.size ≤ b ∧ b < W.heap.size) W o a2 o.length c2) ?_ ?_
    · refine ⟨(HB2.out.set 0 _).set 1 _, (U2.out.setCell (p := ⟨w.heap.size + 1, 0, none⟩) (by show w.heap.size ≤ w.heap.size + 1; omega) _).setCell (p := ⟨w.heap.size + 1, 1, none⟩) (by show w.heap.size ≤ w.heap.size + 1; omega) _, R2.out.mono fun b hb => ?_⟩
      have hb1 := hb.1
      refine ⟨⟨by omega, by simp; exact hb.2⟩, ?_⟩
      rw [Below.heap_setCell _ _ _ _ (by show b ≠ w.heap.size + 1; omega), Below.heap_setCell _ _ _ _ (by show b ≠ w.heap.size + 1; omega)]
    rintro W ⟨hB, hW, hR⟩
    have p0 : W.cell? ⟨w.heap.size + 1, 0, none⟩ = some (.int .i64 0) := hB.cell 0
    have p1 : W.cell? ⟨w.heap.size + 1, 1, none⟩ = some (.slice a2 o.length c2) := hB.cell 1
    refine bodyPost_ret (v := .agg #[.int .i64 0, .slice a2 o.length c2]) (by simp [results, Tryd.results20, go_sem, p0, p1]) rfl ?_
    exact ⟨a2, c2, rfl, hR, hW⟩
set_option maxRecDepth 100000 in
set_option maxHeartbeats 1000000 in
theorem sameRecord_ok (x : Rec) (a b : Option Addr) (n c m d : Nat) (w : World) (h1 : RdS (· < w.heap.size) w x.op a n c) (h2 : RdS (· < w.heap.size) w x.op b m d) :
    Calls Tryd.prog 22 #[.agg #[.int .i64 x.epoch, .slice a n c], .agg #[.int .i64 x.epoch, .slice b m d]] w fun e w' => e = .returned (.bool true) ∧ Below w.heap.size w w' := by
  have HS := Lib.hid (fun W (hW : Below w.heap.size w W) => sameOp_ok x.op a b n c m d W (h1.go hW) (h2.go hW))
  generalize x.epoch = e0 at *
  have he : (e0 == e0) = true := by simp
  clear h1 h2
  go_enter Tryd.func22, Tryd.ntmps22
  go_wp2_with fail
  refine abs_run (fun W => Below w.heap.size w W) (by (repeat (first | exact Below.refl _ _ | assumption | (refine Below.drew ?_) | (refine below_drewN ?_ _) | (refine Below.alloc ?_ (by first | (simp; done) | (simp; omega) | omega) _) | (refine Below.setCell ?_ (by first | (simp; done) | (simp; omega) | omega) _) | (refine Below.trans ?_ (Below.mono (by assumption) (by first | (simp; done) | (simp; omega) | omega)))))) ?_
  intro W hW
  refine (HS.out W hW).mono ?_
  rintro e w2 ⟨rfl, u2⟩
  have U2 := Lib.hid (up hW u2)
  clear hW u2 HS
  go_wp2_with fail
  go_ret
  exact ⟨rfl, U2.out⟩
end Go.Proofs.YtdbdhpjjndhjiaaDoor
