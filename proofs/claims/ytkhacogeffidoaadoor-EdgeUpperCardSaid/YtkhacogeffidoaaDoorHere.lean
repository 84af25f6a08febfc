/- The mason over runes; the walk of here. -/
import Derived.Test.YtkhacogeffidoaaDoorTrLaw
import Derived.Test.YtkhacogeffidoaaDoorSame
set_option linter.unusedVariables false
set_option linter.unusedSimpArgs false
namespace Go.Proofs.YtkhacogeffidoaaDoor
open Go.RowKit

/-- block b is a mason by whom parts stand, the last one first -/
structure Ms (B b : Nat) (R : List P) (v : Value) (w : World) : Prop where
  bag : Bag 115 B b v [.int .i64 0] (R.map P.part).reverse w
  can : Can R
theorem Ms.go {B b : Nat} {R : List P} {v : Value} {w w' : World} (h : Ms B b R v w) (hb : Below w.heap.size w w') : Ms B b R v w' := ⟨h.bag.below hb, h.can⟩
theorem P.mild {p : P} (hp : ∀ l, p = .i l → ∀ r ∈ l, Uni.vr r) (hz : p.z ≤ 100000) : Mild p.part := by
  cases p with
  | k n => simp only [P.z] at hz; exact ⟨by simp [P.part], by simp only [P.part]; omega, by simp only [P.part, noText_size]; omega⟩
  | d n => simp only [P.z] at hz; exact ⟨by simp [P.part], by simp only [P.part]; omega, by simp only [P.part, noText_size]; omega⟩
  | i t =>
    simp only [P.z] at hz
    have := enc_size t (hp t rfl)
    exact ⟨by simp [P.part], by simp only [P.part]; omega, by simp only [P.part]; omega⟩
theorem madd (B b : Nat) (R : List P) (v : Value) (p : P) (w : World) (h : Ms B b R v w) (hs : FS R + TS R ≤ 100000) (hp : ∀ l, p = .i l → ∀ r ∈ l, Uni.vr r) (hz : p.z ≤ 100000) :
    Calls Tryd.prog 56 #[.pointer (some ⟨b, 0, none⟩), .agg #[.int .i64 p.part.kind, .int .i64 p.part.n, .string p.part.text]] w fun e w' =>
      e = .returned (.tuple #[]) ∧ (∃ v', Ms B b (addP R p) v' w') ∧ Below B w w' := by
  have hbw := h.bag.base
  have hbl := h.bag.lt
  refine (add_any B b 0 p.part (P.mild hp hz) (R.map P.part) v w (fun q hq => (can_mild h.can hs q hq).1) (by have := can_len h.can hs; omega) h.bag).mono ?_
  rintro e w' ⟨v', rfl, hb, ht, -⟩
  rw [addR_part p hp R h.can.all] at hb
  exact ⟨rfl, ⟨v', hb, addP_can p hp R h.can⟩, ht.toBelow (by omega) (fun k hk => h.bag.sB k hk)⟩
theorem Ms.new (w : World) : Ms w.heap.size w.heap.size [] (.slice none 0 0) (w.alloc (.cells #[.slice none 0 0, .int .i64 0] 115)) :=
  ⟨⟨Nat.le_refl _, Blk.new _ _, World.ownsRow_nil _ _ _ _, by simp [Value.ownBlock]⟩, trivial⟩
/-- what a mason's parts read as -/
theorem Ms.rd {B b : Nat} {R : List P} {v : Value} {w : World} (h : Ms B b R v w) (hs : FS R + TS R ≤ 100000) : ∃ a c, v = .slice a (R.reverse.map P.part).length c ∧ RdS (fun z => B ≤ z ∧ z < w.heap.size) w (R.reverse.map P.part) a (R.reverse.map P.part).length c := by
  have := h.bag.rd (can_fit h.can hs) (A := fun z => B ≤ z ∧ z < w.heap.size) (fun g hg => h.bag.own.lt g hg)
  rw [← List.map_reverse] at this
  exact this

def hereO (n k : Nat) (t : List Nat) : Op := opOfP [.k k, .i t, .k (n - k)]
set_option maxRecDepth 100000 in
set_option maxHeartbeats 2000000 in
theorem here_any (n k : Nat) (t : List Nat) (w : World) (hv : ∀ r ∈ t, Uni.vr r) (hk : k ≤ n) (hn : n ≤ 4000) (ht : t.length ≤ 4000) :
    Calls Tryd.prog 35 #[.int .i64 (n : Int), .int .i64 (k : Int), .string (Uni.enc t)] w fun e w' => ∃ a c, e = .returned (.slice a (hereO n k t).length c) ∧
      RdS (fun z => w.heap.size ≤ z ∧ z < w'.heap.size) w' (hereO n k t) a (hereO n k t).length c ∧ Below w.heap.size w w' := by
  have hF : FS (build [.k k, .i t, .k (n - k)]) = n := by rw [build_FS]; simp only [FS, P.F]; omega
  have hT : TS (build [.k k, .i t, .k (n - k)]) = n + t.length := by rw [build_TS]; simp only [TS, P.T]; omega
  have M1 := Lib.hid (fun W v (h : Ms w.heap.size w.heap.size [] v W) => madd _ _ _ v (.k k) W h (by simp [FS, TS]) (fun l h => by cases h) (by simp only [P.z]; omega))
  have M2 := Lib.hid (fun W v (h : Ms w.heap.size w.heap.size (addP [] (.k k)) v W) => madd _ _ _ v (.i t) W h (by rw [FS_addP, TS_addP]; simp only [FS, TS, P.F, P.T]; omega) (fun l h => by cases h; exact hv) (by simp only [P.z]; omega))
  have M3 := Lib.hid (fun W v (h : Ms w.heap.size w.heap.size (addP (addP [] (.k k)) (.i t)) v W) => madd _ _ _ v (.k (n - k)) W h (by rw [FS_addP, TS_addP, FS_addP, TS_addP]; simp only [FS, TS, P.F, P.T]; omega) (fun l h => by cases h) (by simp only [P.z]; omega))
  simp only [P.part] at M1 M2 M3
  have iy : IntKind.i64.wrap ((n : Int) - (k : Int)) = ((n - k : Nat) : Int) := by rw [IntWalk.i64_in _ (by omega)]; omega
  have Hend : Hid (∀ W v, Ms w.heap.size w.heap.size (addP (addP (addP [] (.k k)) (.i t)) (.k (n - k))) v W → ∃ a c, v = .slice a (hereO n k t).length c ∧ RdS (fun z => w.heap.size ≤ z ∧ z < W.heap.size) W (hereO n k t) a (hereO n k t).length c) := by
    intro W v h
    have e : addP (addP (addP [] (.k k)) (.i t)) (.k (n - k)) = build [.k k, .i t, .k (n - k)] := rfl
    rw [e] at h
    exact Ms.rd h (by omega)
  generalize hereO n k t = H at *
  generalize H.length = lh at *
  clear hF hT
  go_enter Tryd.func35, Tryd.ntmps35
  go_wp2_with fail
  refine abs_run (fun W => (∃ v, Ms w.heap.size w.heap.size [] v W) ∧ Below w.heap.size w W) ⟨⟨_, Ms.new w⟩, (Below.refl _ _).alloc (Nat.le_refl _) _⟩ ?_
  rintro W0 ⟨⟨v0, m0⟩, b0⟩
  refine (M1.out _ _ m0).mono ?_
  rintro e w1 ⟨rfl, m1, b1⟩
  have m1 := Lib.hid m1
  have b1 := Lib.hid (b0.trans b1)
  clear m0 b0 M1
  go_wp2_with fail
  obtain ⟨v1, m1⟩ := m1.out
  refine (M2.out _ _ m1).mono ?_
  rintro e w2 ⟨rfl, m2, b2⟩
  have m2 := Lib.hid m2
  have b2 := Lib.hid (b1.out.trans b2)
  clear m1 b1 M2
  go_wp2_with fail
  obtain ⟨v2, m2⟩ := m2.out
  refine (M3.out _ _ m2).mono ?_
  rintro e w3 ⟨rfl, ⟨v3, m3⟩, b3⟩
  have b3 := Lib.hid (b2.out.trans b3)
  have c0 : w3.cell? ⟨w.heap.size, 0, none⟩ = some v3 := (show Blk w.heap.size _ w3 from m3.bag.blk).cell 0
  obtain ⟨a3, c3, rfl, r3⟩ := Hend.out _ _ m3
  have r3 := Lib.hid r3
  clear m3 m2 b2 M3 Hend
  go_wp2_with fail
  go_ret
  exact ⟨a3, c3, rfl, r3.out, b3.out⟩
end Go.Proofs.YtkhacogeffidoaaDoor
