/- A cable that is plugged in; plain: a link that sends more and more frames. -/
import Derived.Test.YtkhacogeffidoaaDoorCabSend
import Derived.Test.YtkhacogeffidoaaDoorFirst
set_option linter.unusedVariables false
set_option linter.unusedSimpArgs false
namespace Go.Proofs.YtkhacogeffidoaaDoor
open Go.RowKit

def cab0 (ep : Int) : Cb := ⟨openLk ep, openLk ep, [], [], [], [], [], []⟩
set_option maxRecDepth 100000 in
theorem plug_any (ep : Int) (w : World) (h1 : 1 ≤ ep) (h2 : ep ≤ 1048576) :
    Calls Tryd.prog 15 #[.int .i64 ep] w fun e w' => ∃ g, e = .returned (.tuple #[.pointer (some ⟨g, 0, none⟩), .bool true]) ∧ CabM w.heap.size g (cab0 ep) (fun _ => .slice none 0 0) w' ∧ Below w.heap.size w w' := by
  have HO := Lib.hid (fun W => open_any ep W (by unfold I64; omega))
  have e0 : openLk ep = ⟨ep, 1, [], [], 0⟩ := by unfold openLk; rw [if_neg (by omega)]
  have e1 : openE ep = 0 := by unfold openE; rw [if_neg (by omega)]
  rw [e0, e1] at HO
  simp only at HO
  have hc0 : cab0 ep = ⟨⟨ep, 1, [], [], 0⟩, ⟨ep, 1, [], [], 0⟩, [], [], [], [], [], []⟩ := by unfold cab0; rw [e0]
  rw [hc0]
  clear e0 e1 hc0
  go_enter Tryd.func15, Tryd.ntmps15
  go_wp2_with fail
  refine (HO.out _).mono ?_
  rintro e w1 ⟨rfl, b1⟩
  have B1 := Lib.hid b1
  clear b1
  go_wp2_with fail
  refine abs_run (fun W => Below w1.heap.size w1 W ∧ Blk w1.heap.size (.cells #[.int .i64 ep, .int .i64 1, .slice none 0 0, .slice none 0 0, .int .i64 0] 33 (0, 0)) W) ⟨(Below.refl _ _).alloc (Nat.le_refl _) _, Blk.new w1 _⟩ ?_
  rintro w2 ⟨b2, x2⟩
  refine (HO.out _).mono ?_
  rintro e w3 ⟨rfl, b3⟩
  have B3 := Lib.hid (up (up B1.out b2) b3)
  have X3 := Lib.hid (x2.go b3)
  obtain ⟨q0, q1, q2, q3, q4⟩ := blk_cells5 X3.out
  have hlt := X3.out.lt
  clear b2 b3 x2 B1 HO
  go_wp2_with fail
  go_ret2
  refine ⟨_, rfl, ⟨⟨none, 0, none, 0, none, 0, none, 0, Blk.at (w3.alloc _) _ _ (by simp), RdS.nil _ _, RdS.nil _ _, RdS.nil _ _, RdS.nil _ _⟩, OwnO.nil, OwnO.nil, OwnO.nil, OwnO.nil, OwnO.nil, OwnO.nil, ?_, (fun i hi z h => by cases h), (fun i j hi hj hij z h => by cases h)⟩, ?_⟩
  · have := B3.out.size; omega
  · exact up B3.out (up ((Below.refl _ _).alloc (Nat.le_refl _) _) ((Below.refl _ _).alloc (Nat.le_refl _) _))
theorem Touch.of_belowC {B : Nat} {w w' : World} (h : Below B w w') : Touch (fun z => B ≤ z) w w' := ⟨h.os, h.tape, h.output, h.size, fun k hk hs => h.block k (Nat.lt_of_not_le hs)⟩
/-- the frame that is sent -/
def jw (i : Nat) : Fr := ⟨2, 0, (i : Int) + 1, [], noText⟩
theorem jw_ok (i : Nat) (h : i ≤ 100) : (jw i).check = 0 := by
  have a1 : num 0 = true := by simp [num]
  have a2 : num ((i : Int) + 1) = true := by simp [num]; omega
  have h3 : checkText noText = 0 := by decide
  have h4 : ¬ ((i : Int) + 1 < 1) := by omega
  have h5 : ¬ ((i : Int) + 1 = 0) := by omega
  simp [Fr.check, jw, checkFrame, a1, a2, check_nil, h3, h4, h5, frameOdd, emptyS_noText]
  try omega
theorem jw_fits (i : Nat) (h : i ≤ 100) : (jw i).fits := ⟨by unfold I64; simp [jw], by unfold I64; simp [jw], by unfold I64; simp only [jw]; omega, by simp [jw, noText_size]⟩
def lkW (k : Nat) : Lk := ⟨1, 1 + ((min k 8 : Nat) : Int), (List.range (min k 8)).map jw, (List.range (k - 8)).map (fun i => jw (8 + i)), 0⟩
theorem fillL_full {s q : List Fr} {n : Int} (h : ¬ s.length < 8) : fillL s q n = (s, q, n) := by
  cases q with
  | nil => rfl
  | cons f q => exact fillL_no (fun h2 => h h2.1)
theorem jws_ok' {l : List Nat} {f : Nat → Fr} (h : ∀ i ∈ l, (f i).check = 0) : frsOk (l.map f) = true := by
  unfold frsOk
  rw [List.all_eq_true]
  intro g hg
  obtain ⟨i, hi, rfl⟩ := List.mem_map.1 hg
  rw [h i hi]; rfl
theorem lkW_check {k : Nat} (hk : k ≤ 30) : (lkW k).check = 0 := by
  refine lk_make ?_ ?_ ?_ ?_ ?_ ?_ ?_ ?_ ?_ (jws_ok' fun i hi => jw_ok i ?_) (jws_ok' fun i hi => jw_ok (8 + i) ?_) ?_
  all_goals (first | (have hi' := List.mem_range.1 hi; omega) | (simp only [lkW, List.length_map, List.length_range]; omega) | (simp [lkW]; done) | (simp only [lkW]; omega))
theorem lkW_fits {k : Nat} (hk : k ≤ 30) : (lkW k).fits := ⟨by unfold I64; simp [lkW], by unfold I64; simp only [lkW]; omega, by unfold I64; simp [lkW]⟩
theorem lkW_len (k : Nat) : (lkW k).sent.length = min k 8 ∧ (lkW k).queue.length = k - 8 := by simp [lkW]
theorem lkW_send {k : Nat} (hk : k < 30) : (lkW k).sendE (jw k) = 0 ∧ (lkW k).sendL (jw k) = lkW (k + 1) ∧ ((lkW k).sendP (jw k)).length = min (k + 1) 8 - min k 8 := by
  have h0 : (lkW k).sendE (jw k) = 0 := by
    unfold Lk.sendE
    rw [lkW_check (by omega), if_neg (by simp), if_neg (by simp [lkW]), jw_ok k (by omega), if_neg (by simp), if_neg (by simp only [lkW]; omega)]
  have hp : (lkW k).push (jw k) = lkW (k + 1) := by
    unfold Lk.push Lk.filled
    by_cases h8 : k < 8
    · have m1 : min k 8 = k := by omega
      have m2 : min (k + 1) 8 = k + 1 := by omega
      have m3 : k - 8 = 0 := by omega
      have m4 : k + 1 - 8 = 0 := by omega
      simp only [lkW, m1, m2, m3, m4, List.range_zero, List.map_nil, List.nil_append]
      rw [fillL_go (by rw [List.length_map, List.length_range]; exact h8) (by omega), fillL_nil]
      simp only
      rw [List.range_succ, List.map_append]
      congr 1
      try (push_cast; omega)
    · have m1 : min k 8 = 8 := by omega
      have m2 : min (k + 1) 8 = 8 := by omega
      have m3 : k + 1 - 8 = (k - 8) + 1 := by omega
      simp only [lkW, m1, m2, m3]
      rw [fillL_full (by rw [List.length_map, List.length_range]; omega)]
      have hj : List.map (fun i => jw (8 + i)) [k - 8] = [jw k] := by
        rw [List.map_singleton, show 8 + (k - 8) = k by omega]
      simp only
      rw [List.range_succ (n := k - 8), List.map_append, hj]
  refine ⟨h0, ?_, ?_⟩
  · unfold Lk.sendL; rw [if_pos h0, hp]
  · unfold Lk.sendP
    rw [if_pos h0, hp]
    unfold Lk.pks
    rw [List.length_map, List.length_range, (lkW_len (k + 1)).1, (lkW_len k).1]
end Go.Proofs.YtkhacogeffidoaaDoor
