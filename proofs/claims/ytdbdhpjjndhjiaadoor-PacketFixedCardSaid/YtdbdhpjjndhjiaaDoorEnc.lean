/- The walk of wire.EncodeRecord. -/
import Derived.Test.YtdbdhpjjndhjiaaDoorCloneB
import Derived.Test.YtdbdhpjjndhjiaaDoorReplay
set_option linter.unusedSimpArgs false
namespace Go.Proofs.YtdbdhpjjndhjiaaDoor
open Go.RowKit

theorem mem_le {p : P} : ∀ {l : List P}, p ∈ l → p.F ≤ FS l ∧ p.T ≤ TS l
  | [], h => by cases h
  | q :: l, h => by
    rcases List.mem_cons.1 h with rfl | h
    · simp only [FS, TS]; omega
    · have := mem_le h; simp only [FS, TS]; omega
theorem fine_of {o : Op} (h : check o = 0) : (∀ p ∈ o, Fine p) ∧ (∀ p ∈ o, Small' p) ∧ o.length ≤ 8001 := by
  have hI := opIs h
  have hfl := hI.fl
  have htl := hI.tl
  have key : ∀ p ∈ o, Fine p ∧ Small' p := by
    intro p hp
    rw [hI.eq] at hp
    obtain ⟨q, hq, rfl⟩ := List.mem_map.1 hp
    have hok := hI.ok q hq
    obtain ⟨h1, h2⟩ := mem_le hq
    cases q with
    | k n => simp only [P.F, P.ok] at *; exact ⟨⟨by simp [P.part], by simp [P.part], by simp [P.part], fun _ => ⟨by simp [P.part], by simp only [P.part]; omega, rfl⟩⟩, by simp [P.part], by simp only [P.part]; omega, by simp only [P.part, noText_size]; omega⟩
    | d n => simp only [P.F, P.ok] at *; exact ⟨⟨by simp [P.part], by simp [P.part], by simp [P.part], fun _ => ⟨by simp [P.part], by simp only [P.part]; omega, rfl⟩⟩, by simp [P.part], by simp only [P.part]; omega, by simp only [P.part, noText_size]; omega⟩
    | i t =>
      simp only [P.T, P.ok] at *
      have hz := enc_size t hok.2
      exact ⟨⟨by simp [P.part], by simp [P.part], fun _ => ⟨rfl, by simp only [P.part]; omega⟩, fun h => absurd rfl h⟩, by simp [P.part], by simp [P.part], by simp only [P.part]; omega⟩
  exact ⟨fun p hp => (key p hp).1, fun p hp => (key p hp).2, (check_zero h).1⟩
/-- a record as bytes -/
def recB (r : Rec) : Bs := numB r.epoch.toNat ++ if r.epoch = 0 then opB r.op else []
theorem rec_zero {r : Rec} (h : checkRecord r = 0) : 0 ≤ r.epoch ∧ r.epoch ≤ 1048576 ∧ (0 < r.epoch → r.op = []) ∧ check r.op = 0 := by
  unfold checkRecord at h
  by_cases h1 : num r.epoch = false
  · rw [if_pos h1] at h; exact absurd h (by decide)
  · rw [if_neg h1] at h
    by_cases h2 : 0 < r.epoch ∧ 0 < r.op.length
    · rw [if_pos h2] at h; exact absurd h (by decide)
    · rw [if_neg h2] at h
      have h3 : num r.epoch = true := by simpa using h1
      unfold num at h3
      simp at h3
      exact ⟨h3.1, h3.2, fun h4 => List.eq_nil_of_length_eq_zero (by omega), h⟩
/-- what a call of a maker of bytes leaves -/
def MadeP (l : Bs) (w : World) (e : Ending) (w' : World) : Prop :=
  ∃ (a : Option Addr) (c : Nat), e = .returned (.tuple #[.slice a l.length c, .int .i64 0]) ∧ Flat a ∧ RdS (fun k => w.heap.size ≤ k ∧ k < w'.heap.size) w' l a l.length c ∧ Below w.heap.size w w'
theorem Wr.new (w : World) : Wr w.heap.size w.heap.size (.slice none 0 0) [] (w.alloc (.cells #[.slice none 0 0] 79)) :=
  ⟨Nat.le_refl _, Blk.new _ _, World.ownsRow_nil _ _ _ _⟩
theorem Wr.made {w w0 w' : World} {b : Nat} {v : Value} {l : Bs} (h : Wr b b v l w') (hb : Below b w0 w') (hw : Below w.heap.size w w0) (hz : w.heap.size ≤ b) : ∃ a c, v = .slice a l.length c ∧ MadeP l w (.returned (.tuple #[.slice a l.length c, .int .i64 0])) w' := by
  obtain ⟨a, c, hv, hf, hr⟩ := rd_bytes h.own (A := fun k => w.heap.size ≤ k ∧ k < w'.heap.size) (fun k hk => by have := h.own.lt k hk; omega)
  exact ⟨a, c, hv, a, c, rfl, hf, hr, hw.trans (hb.mono hz)⟩

set_option maxRecDepth 100000 in
set_option maxHeartbeats 3000000 in
theorem encRecord_ok (r : Rec) (a : Option Addr) (n c : Nat) (w : World) (hg : Good w) (hr : RdS (· < w.heap.size) w r.op a n c) (he : I64 r.epoch) (hc : checkRecord r = 0) :
    Calls Tryd.prog 16 #[.agg #[.int .i64 r.epoch, .slice a n c]] w (MadeP (recB r) w) := by
  have HC := Lib.hid (fun W (hW : Below w.heap.size w W) => checkRecord_any r a n c W (hg.go hW) (hr.go hW) he)
  rw [hc] at HC
  obtain ⟨z1, z2, z3, z4⟩ := rec_zero hc
  obtain ⟨f1, f2, f3⟩ := fine_of z4
  obtain ⟨ep, o⟩ := r
  simp only at *
  obtain ⟨k, rfl⟩ : ∃ k : Nat, ep = (k : Int) := ⟨ep.toNat, by omega⟩
  have hnl := numB_le k
  have HP := Lib.hid (fun W => put_any W.heap.size W.heap.size (.slice none 0 0) [] k (W.alloc (.cells #[.slice none 0 0] 79)) (Wr.new W) (by simp) (by omega) (by simp))
  have HO := Lib.hid (fun W (hW : Below w.heap.size w W) W2 v (hb : Below W.heap.size W W2) (h : Wr W.heap.size W.heap.size v (numB k) W2) => wop_any W.heap.size W.heap.size v (numB k) o a n c W2 h (by have := hb.size; omega) ((hr.mono (A' := (· < W.heap.size)) fun z hz => ⟨Nat.lt_of_lt_of_le hz hW.size, hW.block z hz⟩).mono fun z hz => ⟨hz, hb.block z hz⟩) f1 f2 (by omega) (by omega))
  have hB : recB ⟨(k : Int), o⟩ = numB k ++ if (k : Int) = 0 then opB o else [] := by unfold recB; simp
  have Hr := Lib.hid hr
  clear hr hc z2 z3 z4 f1 f2 f3 hnl he hg
  by_cases hk : k = 0
  · have hb0 : ((k : Int) == 0) = true := by simp; omega
    rw [if_pos (by omega)] at hB
    rw [hB]
    clear hB hk
    go_enter Tryd.func16, Tryd.ntmps16
    go_wp2_with fail
    have u0 : Below w.heap.size w (w.alloc (.cells #[.int .i64 (k : Int), .slice a n c] 33)) := (Below.refl _ _).alloc (Nat.le_refl _) _
    refine (HC.out _ u0).mono ?_
    rintro e w1 ⟨rfl, u1⟩
    have x1 : Blk w.heap.size (.cells #[.int .i64 (k : Int), .slice a n c] 33 (0, 0)) w1 := (Blk.new w _).go u1
    have c0 : w1.cell? ⟨w.heap.size, 0, none⟩ = some (.int .i64 (k : Int)) := x1.cell 0
    have hl1 := x1.lt
    have U1 := Lib.hid (up u0 u1)
    have X1 := Lib.hid x1
    clear u0 u1 x1 HC
    go_wp2_with fail
    refine (HP.out w1).mono ?_
    rintro e w2 ⟨rfl, ⟨v2, h2⟩, b2, r2⟩
    have b2' : Below w1.heap.size w1 w2 := (Below.refl _ _).alloc (Nat.le_refl _) _ |>.trans b2
    have x2 := X1.out.go b2'
    have d0 : w2.cell? ⟨w.heap.size, 0, none⟩ = some (.int .i64 (k : Int)) := x2.cell 0
    have d1 : w2.cell? ⟨w.heap.size, 1, none⟩ = some (.slice a n c) := x2.cell 1
    have H2 := Lib.hid h2
    have B2 := Lib.hid b2'
    clear b2 r2 h2 b2' x2 X1 HP c0
    go_wp2_with fail
    refine (HO.out w1 U1.out w2 v2 B2.out H2.out).mono ?_
    rintro e w3 ⟨rfl, ⟨v3, h3⟩, b3, r3⟩
    obtain ⟨a3, c3, rfl, G⟩ := h3.made (w0 := w1) (B2.out.trans b3) U1.out (by omega)
    have e0 : w3.cell? ⟨w1.heap.size, 0, none⟩ = some (.slice a3 (numB k ++ opB o).length c3) := h3.blk.cell 0
    have G := Lib.hid G
    clear h3 b3 r3 HO U1 B2 H2 d0 d1
    generalize MadeP (numB k ++ opB o) w = MP at *
    generalize (numB k ++ opB o).length = ll at *
    go_wp2_with fail
    exact G.out
  · have hb0 : ((k : Int) == 0) = false := by simp; omega
    rw [if_neg (by omega), List.append_nil] at hB
    rw [hB]
    clear hB hk HO
    go_enter Tryd.func16, Tryd.ntmps16
    go_wp2_with fail
    have u0 : Below w.heap.size w (w.alloc (.cells #[.int .i64 (k : Int), .slice a n c] 33)) := (Below.refl _ _).alloc (Nat.le_refl _) _
    refine (HC.out _ u0).mono ?_
    rintro e w1 ⟨rfl, u1⟩
    have x1 : Blk w.heap.size (.cells #[.int .i64 (k : Int), .slice a n c] 33 (0, 0)) w1 := (Blk.new w _).go u1
    have c0 : w1.cell? ⟨w.heap.size, 0, none⟩ = some (.int .i64 (k : Int)) := x1.cell 0
    have hl1 := x1.lt
    have U1 := Lib.hid (up u0 u1)
    have X1 := Lib.hid x1
    clear u0 u1 x1 HC
    go_wp2_with fail
    refine (HP.out w1).mono ?_
    rintro e w2 ⟨rfl, ⟨v2, h2⟩, b2, r2⟩
    have b2' : Below w1.heap.size w1 w2 := (Below.refl _ _).alloc (Nat.le_refl _) _ |>.trans b2
    have x2 := X1.out.go b2'
    have d0 : w2.cell? ⟨w.heap.size, 0, none⟩ = some (.int .i64 (k : Int)) := x2.cell 0
    rw [List.nil_append] at h2
    obtain ⟨a3, c3, rfl, G⟩ := h2.made (w0 := w1) b2' U1.out (by omega)
    have e0 : w2.cell? ⟨w1.heap.size, 0, none⟩ = some (.slice a3 (numB k).length c3) := h2.blk.cell 0
    have G := Lib.hid G
    clear b2 r2 h2 b2' x2 X1 HP c0 U1
    generalize MadeP (numB k) w = MP at *
    generalize (numB k).length = ll at *
    go_wp2_with fail
    exact G.out
end Go.Proofs.YtdbdhpjjndhjiaaDoor
