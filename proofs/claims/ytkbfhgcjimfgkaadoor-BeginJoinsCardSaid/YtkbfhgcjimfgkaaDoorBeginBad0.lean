/- The walk of node.Begin at what is refused. -/
import Derived.Test.YtkbfhgcjimfgkaaDoorTree
import Derived.Test.YtkbfhgcjimfgkaaDoorNd
set_option linter.unusedVariables false
set_option linter.unusedSimpArgs false
namespace Go.Proofs.YtkbfhgcjimfgkaaDoor
open Go.RowKit

def beginE (t : List Int) (me births : Int) (s : Str) : Int :=
  if checkTree t ≠ 0 then checkTree t else if me < 0 ∨ (t.length : Int) ≤ me then 13 else if births < 1 ∨ 250 < births then 2 else if checkText s ≠ 0 then checkText s else if 0 < me ∧ emptyS s = false then 4 else 0
set_option maxRecDepth 100000 in
set_option maxHeartbeats 4000000 in
theorem begin_bad (t : List Int) (a : Option Addr) (n c : Nat) (me births : Int) (s : Str) (w : World) (hg : Good w) (hr : RdS (· < w.heap.size) w t a n c) (hm : I64 me) (hb : I64 births) (hs : s.size ≤ strMax) (hE : beginE t me births s ≠ 0) :
    Calls Tryd.prog 12 #[.slice a n c, .int .i64 me, .int .i64 births, .string s] w fun e w' => e = .returned (.tuple #[.agg zeroTn, .int .i64 (beginE t me births s)]) ∧ Below w.heap.size w w' := by
  have HT := Lib.hid (fun W (hW : Below w.heap.size w W) => checkTree_any (· < W.heap.size) a n c t W (hr.go hW))
  have HC := Lib.hid (fun W (hW : Below w.heap.size w W) => checkText_any s W (hg.go hW) hs)
  have hnl := hr.1
  obtain ⟨E, hEE⟩ : ∃ E, E = beginE t me births s := ⟨_, rfl⟩
  rw [← hEE] at hE ⊢
  unfold beginE at hEE
  rw [← hnl] at hEE
  have HE := Lib.hid hEE
  have HE0 := Lib.hid hE
  generalize checkTree t = e1 at *
  generalize checkText s = e2 at *
  clear hEE hE hr hg hnl
  go_enter Tryd.func12, Tryd.ntmps12
  go_wp2_with fail
  refine abs_run (fun W => Below w.heap.size w W ∧ Blk w.heap.size (.cells zeroTn 35 (0, 0)) W) ⟨(Below.refl _ _).alloc (Nat.le_refl _) _, Blk.new w _⟩ ?_
  rintro w1 ⟨b1, x1⟩
  have B1 := Lib.hid b1
  have X1 := Lib.hid x1
  clear b1 x1
  refine (HT.out _ B1.out).mono ?_
  rintro e w1' ⟨rfl, rfl⟩
  by_cases h1 : e1 = 0
  · subst h1
    by_cases h2 : me < 0 ∨ (n : Int) ≤ me
    · have hE2 : E = 13 := by rw [HE.out, if_neg (by simp), if_pos h2]
      subst hE2
      have x9 := X1.out
      have G := Lib.hid (zero_turn (Nat.le_refl _) x9 B1.out)
      obtain ⟨p0, p1, p2, p3, p4, p5, p6, p7, p8, p9⟩ := blk10_cells x9
      have pf := x9.frozen
      have hz := x9.lt
      clear x9
      clear HE HE0 HT HC X1 B1
      rcases h2 with h2 | h2
      · have h2' : me < 0 := h2
        go_wp2_with fail
        refine abs_ret (fun W => Blk w.heap.size (.cells zeroTn 35 (0, 0)) W ∧ Below w.heap.size w W) G.out ?_
        rintro W ⟨y1, y2⟩
        obtain ⟨k0, k1, k2, k3, k4, k5, k6, k7, k8, k9⟩ := blk10_cells y1
        exact bodyPost_ret (v := .tuple #[.agg zeroTn, .int .i64 13]) (by simp [results, Tryd.results12, go_sem, k0, k1, k2, k3, k4, k5, k6, k7, k8, k9]) rfl ⟨rfl, y2⟩
      · have h2' : ¬ me < 0 := by omega
        go_wp2_with fail
        refine abs_ret (fun W => Blk w.heap.size (.cells zeroTn 35 (0, 0)) W ∧ Below w.heap.size w W) G.out ?_
        rintro W ⟨y1, y2⟩
        obtain ⟨k0, k1, k2, k3, k4, k5, k6, k7, k8, k9⟩ := blk10_cells y1
        exact bodyPost_ret (v := .tuple #[.agg zeroTn, .int .i64 13]) (by simp [results, Tryd.results12, go_sem, k0, k1, k2, k3, k4, k5, k6, k7, k8, k9]) rfl ⟨rfl, y2⟩
    · have h2' : ¬ me < 0 := by omega
      have h2'' : ¬ (n : Int) ≤ me := by omega
      by_cases h3 : births < 1 ∨ 250 < births
      · have hE2 : E = 2 := by rw [HE.out, if_neg (by simp), if_neg h2, if_pos h3]
        subst hE2
        have x9 := X1.out
        have G := Lib.hid (zero_turn (Nat.le_refl _) x9 B1.out)
        obtain ⟨p0, p1, p2, p3, p4, p5, p6, p7, p8, p9⟩ := blk10_cells x9
        have pf := x9.frozen
        have hz := x9.lt
        clear x9
        clear HE HE0 HT HC X1 B1 h2
        rcases h3 with h3 | h3
        · have h3' : births < 1 := h3
          go_wp2_with fail
          refine abs_ret (fun W => Blk w.heap.size (.cells zeroTn 35 (0, 0)) W ∧ Below w.heap.size w W) G.out ?_
          rintro W ⟨y1, y2⟩
          obtain ⟨k0, k1, k2, k3, k4, k5, k6, k7, k8, k9⟩ := blk10_cells y1
          exact bodyPost_ret (v := .tuple #[.agg zeroTn, .int .i64 2]) (by simp [results, Tryd.results12, go_sem, k0, k1, k2, k3, k4, k5, k6, k7, k8, k9]) rfl ⟨rfl, y2⟩
        · have h3' : ¬ births < 1 := by omega
          go_wp2_with fail
          refine abs_ret (fun W => Blk w.heap.size (.cells zeroTn 35 (0, 0)) W ∧ Below w.heap.size w W) G.out ?_
          rintro W ⟨y1, y2⟩
          obtain ⟨k0, k1, k2, k3, k4, k5, k6, k7, k8, k9⟩ := blk10_cells y1
          exact bodyPost_ret (v := .tuple #[.agg zeroTn, .int .i64 2]) (by simp [results, Tryd.results12, go_sem, k0, k1, k2, k3, k4, k5, k6, k7, k8, k9]) rfl ⟨rfl, y2⟩
      · have h3' : ¬ births < 1 := by omega
        have h3'' : ¬ 250 < births := by omega
        have hE3 : E = if e2 ≠ 0 then e2 else if 0 < me ∧ emptyS s = false then 4 else 0 := by rw [HE.out, if_neg (by simp), if_neg h2, if_neg h3]
        have HE3 := Lib.hid hE3
        clear hE3 HE h2 h3
        go_wp2_with fail
        refine (HC.out _ B1.out).mono ?_
        rintro e w2 ⟨rfl, b2⟩
        have X2 := Lib.hid (X1.out.go b2)
        have B2 := Lib.hid (up B1.out b2)
        clear b2 X1 B1 HC HT
        by_cases h4 : e2 = 0
        · subst h4
          have h5 : 0 < me ∧ emptyS s = false := by
            by_cases h5 : 0 < me ∧ emptyS s = false
            · exact h5
            · have := HE0.out; rw [HE3.out, if_neg (by simp), if_neg h5] at this; exact absurd rfl this
          have hE2 : E = 4 := by rw [HE3.out, if_neg (by simp), if_pos h5]
          subst hE2
          have x9 := X2.out
          have G := Lib.hid (zero_turn (Nat.le_refl _) x9 B2.out)
          obtain ⟨p0, p1, p2, p3, p4, p5, p6, p7, p8, p9⟩ := blk10_cells x9
          have pf := x9.frozen
          have hz := x9.lt
          clear x9
          obtain ⟨h5, h6⟩ := h5
          have h6' : s.toList.isEmpty = false := h6
          clear HE3 HE0 X2 B2 h6
          go_wp2_with fail
          refine abs_ret (fun W => Blk w.heap.size (.cells zeroTn 35 (0, 0)) W ∧ Below w.heap.size w W) G.out ?_
          rintro W ⟨y1, y2⟩
          obtain ⟨k0, k1, k2, k3, k4, k5, k6, k7, k8, k9⟩ := blk10_cells y1
          exact bodyPost_ret (v := .tuple #[.agg zeroTn, .int .i64 4]) (by simp [results, Tryd.results12, go_sem, k0, k1, k2, k3, k4, k5, k6, k7, k8, k9]) rfl ⟨rfl, y2⟩
        · have h4' : (e2 != 0) = true := by simpa using h4
          have hE2 : E = e2 := by rw [HE3.out, if_pos h4]
          subst hE2
          have x9 := X2.out
          have G := Lib.hid (zero_turn (Nat.le_refl _) x9 B2.out)
          obtain ⟨p0, p1, p2, p3, p4, p5, p6, p7, p8, p9⟩ := blk10_cells x9
          have pf := x9.frozen
          have hz := x9.lt
          clear x9
          clear HE3 HE0 X2 B2 h4
          go_wp2_with fail
          refine abs_ret (fun W => Blk w.heap.size (.cells zeroTn 35 (0, 0)) W ∧ Below w.heap.size w W) G.out ?_
          rintro W ⟨y1, y2⟩
          obtain ⟨k0, k1, k2, k3, k4, k5, k6, k7, k8, k9⟩ := blk10_cells y1
          exact bodyPost_ret (v := .tuple #[.agg zeroTn, .int .i64 E]) (by simp [results, Tryd.results12, go_sem, k0, k1, k2, k3, k4, k5, k6, k7, k8, k9]) rfl ⟨rfl, y2⟩
  · have h1' : (e1 != 0) = true := by simpa using h1
    have hE2 : E = e1 := by rw [HE.out, if_pos h1]
    subst hE2
    have x9 := X1.out
    have G := Lib.hid (zero_turn (Nat.le_refl _) x9 B1.out)
    obtain ⟨p0, p1, p2, p3, p4, p5, p6, p7, p8, p9⟩ := blk10_cells x9
    have pf := x9.frozen
    have hz := x9.lt
    clear x9
    clear HE HE0 HT HC X1 B1 h1
    go_wp2_with fail
    refine abs_ret (fun W => Blk w.heap.size (.cells zeroTn 35 (0, 0)) W ∧ Below w.heap.size w W) G.out ?_
    rintro W ⟨y1, y2⟩
    obtain ⟨k0, k1, k2, k3, k4, k5, k6, k7, k8, k9⟩ := blk10_cells y1
    exact bodyPost_ret (v := .tuple #[.agg zeroTn, .int .i64 E]) (by simp [results, Tryd.results12, go_sem, k0, k1, k2, k3, k4, k5, k6, k7, k8, k9]) rfl ⟨rfl, y2⟩
end Go.Proofs.YtkbfhgcjimfgkaaDoor
