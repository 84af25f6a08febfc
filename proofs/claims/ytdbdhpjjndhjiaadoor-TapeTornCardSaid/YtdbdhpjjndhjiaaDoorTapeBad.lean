/- The walks of tape.open, Append, Recover at a tape that may not be. -/
import Derived.Test.YtdbdhpjjndhjiaaDoorTaped
set_option linter.unusedSimpArgs false
namespace Go.Proofs.YtdbdhpjjndhjiaaDoor
open Go.RowKit

set_option maxRecDepth 100000 in
set_option maxHeartbeats 2000000 in
theorem open_bad (w : World) :
    Calls Tryd.prog 38 #[.agg #[.slice none 0 0, .int .i64 1]] w fun e w' => e = .returned (.tuple #[.agg #[.slice none 0 0, .int .i64 0], .bool false]) ∧ Below w.heap.size w w' := by
  go_enter Tryd.func38, Tryd.ntmps38
  go_wp2_with fail
  refine abs_ret (fun W => Blk (w.heap.size + 1) (.cells #[.slice none 0 0, .int .i64 0] 27 (0, 0)) W ∧ Below w.heap.size w W) ⟨Blk.at (w.alloc _) _ (w.heap.size + 1) (by simp), by (repeat (first | exact Below.refl _ _ | assumption | (refine Below.drew ?_) | (refine below_drewN ?_ _) | (refine Below.alloc ?_ (by first | (simp; done) | (simp; omega) | omega) _) | (refine Below.setCell ?_ (by first | (simp; done) | (simp; omega) | omega) _) | (refine Below.trans ?_ (Below.mono (by assumption) (by first | (simp; done) | (simp; omega) | omega)))))⟩ ?_
  rintro W ⟨hB, hW⟩
  have f0 : W.cell? ⟨w.heap.size + 1, 0, none⟩ = some (.slice none 0 0) := hB.cell 0
  have f1 : W.cell? ⟨w.heap.size + 1, 1, none⟩ = some (.int .i64 0) := hB.cell 1
  refine bodyPost_ret (v := .tuple #[.agg #[.slice none 0 0, .int .i64 0], .bool false]) (by simp [results, Tryd.results38, go_sem, f0, f1]) rfl ?_
  exact ⟨rfl, hW⟩
set_option maxRecDepth 100000 in
set_option maxHeartbeats 2000000 in
theorem append_bad (r : Value) (e : Int) (ao : Option Addr) (no co : Nat) (hr : r = .agg #[.int .i64 e, .slice ao no co]) (w : World) :
    Calls Tryd.prog 17 #[.agg #[.slice none 0 0, .int .i64 1], r] w fun e w' => e = .returned (.tuple #[.agg #[.slice none 0 0, .int .i64 0], .int .i64 9]) ∧ Below w.heap.size w w' := by
  have HO := Lib.hid open_bad
  subst hr
  go_enter Tryd.func17, Tryd.ntmps17
  go_wp2_with fail
  refine abs_run (fun W => Below w.heap.size w W ∧ Blk (w.heap.size + 1 + 1) (.cells #[.slice none 0 0, .int .i64 0] 27 (0, 0)) W) ⟨by (repeat (first | exact Below.refl _ _ | assumption | (refine Below.drew ?_) | (refine below_drewN ?_ _) | (refine Below.alloc ?_ (by first | (simp; done) | (simp; omega) | omega) _) | (refine Below.setCell ?_ (by first | (simp; done) | (simp; omega) | omega) _) | (refine Below.trans ?_ (Below.mono (by assumption) (by first | (simp; done) | (simp; omega) | omega))))), Blk.at ((w.alloc _).alloc _) _ (w.heap.size + 1 + 1) (by simp)⟩ ?_
  rintro W ⟨hb, bo⟩
  refine (HO.out W).mono ?_
  rintro e W2 ⟨rfl, hb2⟩
  have bo2 := bo.go hb2
  have HB2 := Lib.hid (up hb hb2)
  have HBo := Lib.hid bo2
  have o0 := bo2.cell 0
  have o1 := bo2.cell 1
  simp only [List.getElem?_toArray, List.getElem?_cons_zero, List.getElem?_cons_succ] at o0 o1
  have o2 := bo2.frozen
  have z0 := bo2.lt
  clear hb bo hb2 bo2
  go_wp2_with fail
  refine abs_ret (fun W => Blk (w.heap.size + 1 + 1) (.cells #[.slice none 0 0, .int .i64 0] 27 (0, 0)) W ∧ Below w.heap.size w W) ⟨((HBo.out.set 0 _).set 1 _).alloc _, ((HB2.out.setCell (p := ⟨w.heap.size + 1 + 1, 0, none⟩) (by show w.heap.size ≤ w.heap.size + 1 + 1; omega) _).setCell (p := ⟨w.heap.size + 1 + 1, 1, none⟩) (by show w.heap.size ≤ w.heap.size + 1 + 1; omega) _).alloc (by simp; omega) _⟩ ?_
  rintro W ⟨hB, hW⟩
  have f0 : W.cell? ⟨w.heap.size + 1 + 1, 0, none⟩ = some (.slice none 0 0) := hB.cell 0
  have f1 : W.cell? ⟨w.heap.size + 1 + 1, 1, none⟩ = some (.int .i64 0) := hB.cell 1
  refine bodyPost_ret (v := .tuple #[.agg #[.slice none 0 0, .int .i64 0], .int .i64 9]) (by simp [results, Tryd.results17, go_sem, f0, f1]) rfl ?_
  exact ⟨rfl, hW⟩
set_option maxRecDepth 100000 in
set_option maxHeartbeats 2000000 in
theorem recover_bad (w : World) :
    Calls Tryd.prog 28 #[.agg #[.slice none 0 0, .int .i64 1]] w fun e w' => e = .returned (.tuple #[.slice none 0 0, .agg #[.slice none 0 0, .int .i64 0], .int .i64 9]) ∧ Below w.heap.size w w' := by
  have HO := Lib.hid open_bad
  go_enter Tryd.func28, Tryd.ntmps28
  go_wp2_with fail
  refine abs_run (fun W => Below w.heap.size w W ∧ Blk (w.heap.size + 1) (.cells #[.slice none 0 0, .int .i64 0] 27 (0, 0)) W) ⟨by (repeat (first | exact Below.refl _ _ | assumption | (refine Below.drew ?_) | (refine below_drewN ?_ _) | (refine Below.alloc ?_ (by first | (simp; done) | (simp; omega) | omega) _) | (refine Below.setCell ?_ (by first | (simp; done) | (simp; omega) | omega) _) | (refine Below.trans ?_ (Below.mono (by assumption) (by first | (simp; done) | (simp; omega) | omega))))), Blk.at (w.alloc _) _ (w.heap.size + 1) (by simp)⟩ ?_
  rintro W ⟨hb, bo⟩
  refine (HO.out W).mono ?_
  rintro e W2 ⟨rfl, hb2⟩
  have bo2 := bo.go hb2
  have HB2 := Lib.hid (up hb hb2)
  have HBo := Lib.hid bo2
  have o0 := bo2.cell 0
  have o1 := bo2.cell 1
  simp only [List.getElem?_toArray, List.getElem?_cons_zero, List.getElem?_cons_succ] at o0 o1
  have o2 := bo2.frozen
  have z0 := bo2.lt
  clear hb bo hb2 bo2
  go_wp2_with fail
  refine abs_ret (fun W => Blk (w.heap.size + 1) (.cells #[.slice none 0 0, .int .i64 0] 27 (0, 0)) W ∧ Below w.heap.size w W) ⟨((HBo.out.set 0 _).set 1 _).alloc _, ((HB2.out.setCell (p := ⟨w.heap.size + 1, 0, none⟩) (by show w.heap.size ≤ w.heap.size + 1; omega) _).setCell (p := ⟨w.heap.size + 1, 1, none⟩) (by show w.heap.size ≤ w.heap.size + 1; omega) _).alloc (by simp; omega) _⟩ ?_
  rintro W ⟨hB, hW⟩
  have f0 : W.cell? ⟨w.heap.size + 1, 0, none⟩ = some (.slice none 0 0) := hB.cell 0
  have f1 : W.cell? ⟨w.heap.size + 1, 1, none⟩ = some (.int .i64 0) := hB.cell 1
  refine bodyPost_ret (v := .tuple #[.slice none 0 0, .agg #[.slice none 0 0, .int .i64 0], .int .i64 9]) (by simp [results, Tryd.results28, go_sem, f0, f1]) rfl ?_
  exact ⟨rfl, hW⟩
end Go.Proofs.YtdbdhpjjndhjiaaDoor
