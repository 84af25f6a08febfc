/- The walk of edge.Hear at what is refused ahead of all transforming, and edge.Hear in all. -/
import Derived.Test.YtkhacogeffidoaaDoorEhear
set_option linter.unusedVariables false
set_option linter.unusedSimpArgs false
namespace Go.Proofs.YtkhacogeffidoaaDoor
open Go.RowKit

set_option maxRecDepth 100000 in
set_option maxHeartbeats 6000000 in
theorem eh_bad (s h : Int) (l : List Op) (o : Op) (k : Int) (u : Bool) (a ao : Option Addr) (n c no co : Nat) (w : World) (hg : Good w) (hr : RdS (· < w.heap.size) w l a n c) (hro : RdS (· < w.heap.size) w o ao no co) (hs : I64 s) (hh : I64 h) (hE : ehE0 s h l o k ≠ 0) :
    Calls Tryd.prog 32 #[.agg #[.int .i64 s, .int .i64 h, .slice a n c], .slice ao no co, .int .i64 k, .bool u] w fun e w' => e = .returned (.tuple #[.agg #[.int .i64 0, .int .i64 0, .slice none 0 0], .slice none 0 0, .int .i64 (ehE0 s h l o k)]) ∧ Below w.heap.size w w' := by
  have hnl := hr.1
  have HC := Lib.hid (fun W hg hr => edge_any s h l a n c W hg hr hs hh)
  have HK := Lib.hid (fun W hg hr => check_go o ao no co W hg hr)
  have hall : edgeCheck s h l = 0 → 0 ≤ s ∧ s ≤ 1048576 ∧ 0 ≤ h ∧ h ≤ 1048576 ∧ (n : Int) ≤ s := fun e => by
    obtain ⟨s0, s1, h0, h1, hls, -⟩ := edgeCheck_all e
    exact ⟨s0, s1, h0, h1, by omega⟩
  obtain ⟨R, hR⟩ : ∃ R, R = ehE0 s h l o k := ⟨_, rfl⟩
  rw [← hR] at hE ⊢
  unfold ehE0 at hR
  rw [← hnl] at hR
  have Hr := Lib.hid hr
  have Hro := Lib.hid hro
  have Hg := Lib.hid hg
  have HAll := Lib.hid hall
  clear hg hr hro hnl hs hh hall
  generalize edgeCheck s h l = e1 at *
  generalize check o = e2 at *
  have HEn := Lib.hid hE
  clear hE
  by_cases h1 : e1 = 0
  · subst h1
    obtain ⟨s0, s1, h0, hh1, hns⟩ := HAll.out rfl
    rw [if_neg (by simp)] at hR
    clear HAll
    by_cases h2 : e2 = 0
    · subst h2
      rw [if_neg (by simp)] at hR
      by_cases h3 : k < s - (n : Int)
      · rw [if_pos (.inl h3)] at hR
        subst hR
        have c3 : decide (k < s - (n : Int)) = true := by simpa using h3
        clear HEn
        go_enter Tryd.func32, Tryd.ntmps32
        go_wp2_with fail
        refine abs_run (fun W => Below w.heap.size w W ∧ Blk w.heap.size (.cells #[.int .i64 s, .int .i64 h, .slice a n c] 71 (0, 0)) W ∧ Blk (w.heap.size + 1) (.cells #[.int .i64 0, .int .i64 0, .slice none 0 0] 71 (0, 0)) W)
          ⟨by (repeat (first | exact Below.refl _ _ | assumption | (refine Below.drew ?_) | (refine below_drewN ?_ _) | (refine Below.alloc ?_ (by first | (simp; done) | (simp; omega) | omega) _) | (refine Below.setCell ?_ (by first | (simp; done) | (simp; omega) | omega) _) | (refine Below.trans ?_ (Below.mono (by assumption) (by first | (simp; done) | (simp; omega) | omega))))), (Blk.new _ _).alloc _, Blk.at _ _ _ (by simp)⟩ ?_
        rintro w1 ⟨b1, x1, y1⟩
        refine (HC.out _ (Hg.out.go b1) (Hr.out.go b1)).mono ?_
        rintro e w2 ⟨rfl, b2⟩
        have B2 := Lib.hid (up b1 b2)
        have X2 := Lib.hid (x1.go b2)
        have Y2 := Lib.hid (y1.go b2)
        clear b1 x1 y1 b2 HC
        go_wp2_with fail
        refine (HK.out _ (Hg.out.go B2.out) (Hro.out.go B2.out)).mono ?_
        rintro e w3 ⟨rfl, b3⟩
        have B3 := Lib.hid (up B2.out b3)
        have X3 := Lib.hid (X2.out.go b3)
        have Y3 := Lib.hid (Y2.out.go b3)
        clear b3 X2 Y2 B2 HK
        obtain ⟨q0, q1, q2⟩ := blk3_cells X3.out
        obtain ⟨j0, j1, j2⟩ := blk3_cells Y3.out
        have jf := Y3.out.frozen
        have hy := Y3.out.lt
        have GE := Lib.hid (eh_end Y3.out B3.out (by omega) (.int .i64 0) (.int .i64 0) (.slice none 0 0))
        go_wp2_with fail
        refine abs_ret (fun W => Blk (w.heap.size + 1) (.cells #[.int .i64 0, .int .i64 0, .slice none 0 0] 71 (0, 0)) W ∧ Below w.heap.size w W) GE.out ?_
        rintro W ⟨hB, hW⟩
        obtain ⟨k0, k1, k2⟩ := blk3_cells hB
        exact bodyPost_ret (v := .tuple #[.agg #[.int .i64 0, .int .i64 0, .slice none 0 0], .slice none 0 0, .int .i64 2]) (by simp [results, Tryd.results32, go_sem, k0, k1, k2]) rfl ⟨rfl, hW⟩
      · by_cases h4 : s < k
        · rw [if_pos (.inr h4)] at hR
          subst hR
          clear HEn
          go_enter Tryd.func32, Tryd.ntmps32
          go_wp2_with fail
          refine abs_run (fun W => Below w.heap.size w W ∧ Blk w.heap.size (.cells #[.int .i64 s, .int .i64 h, .slice a n c] 71 (0, 0)) W ∧ Blk (w.heap.size + 1) (.cells #[.int .i64 0, .int .i64 0, .slice none 0 0] 71 (0, 0)) W)
            ⟨by (repeat (first | exact Below.refl _ _ | assumption | (refine Below.drew ?_) | (refine below_drewN ?_ _) | (refine Below.alloc ?_ (by first | (simp; done) | (simp; omega) | omega) _) | (refine Below.setCell ?_ (by first | (simp; done) | (simp; omega) | omega) _) | (refine Below.trans ?_ (Below.mono (by assumption) (by first | (simp; done) | (simp; omega) | omega))))), (Blk.new _ _).alloc _, Blk.at _ _ _ (by simp)⟩ ?_
          rintro w1 ⟨b1, x1, y1⟩
          refine (HC.out _ (Hg.out.go b1) (Hr.out.go b1)).mono ?_
          rintro e w2 ⟨rfl, b2⟩
          have B2 := Lib.hid (up b1 b2)
          have X2 := Lib.hid (x1.go b2)
          have Y2 := Lib.hid (y1.go b2)
          clear b1 x1 y1 b2 HC
          go_wp2_with fail
          refine (HK.out _ (Hg.out.go B2.out) (Hro.out.go B2.out)).mono ?_
          rintro e w3 ⟨rfl, b3⟩
          have B3 := Lib.hid (up B2.out b3)
          have X3 := Lib.hid (X2.out.go b3)
          have Y3 := Lib.hid (Y2.out.go b3)
          clear b3 X2 Y2 B2 HK
          obtain ⟨q0, q1, q2⟩ := blk3_cells X3.out
          obtain ⟨j0, j1, j2⟩ := blk3_cells Y3.out
          have jf := Y3.out.frozen
          have hy := Y3.out.lt
          have GE := Lib.hid (eh_end Y3.out B3.out (by omega) (.int .i64 0) (.int .i64 0) (.slice none 0 0))
          go_wp2_with fail
          refine abs_ret (fun W => Blk (w.heap.size + 1) (.cells #[.int .i64 0, .int .i64 0, .slice none 0 0] 71 (0, 0)) W ∧ Below w.heap.size w W) GE.out ?_
          rintro W ⟨hB, hW⟩
          obtain ⟨k0, k1, k2⟩ := blk3_cells hB
          exact bodyPost_ret (v := .tuple #[.agg #[.int .i64 0, .int .i64 0, .slice none 0 0], .slice none 0 0, .int .i64 2]) (by simp [results, Tryd.results32, go_sem, k0, k1, k2]) rfl ⟨rfl, hW⟩
        · rw [if_neg (by omega)] at hR
          have h5 : h = 1048576 := by
            by_cases h5 : h = 1048576
            · exact h5
            · rw [if_neg h5] at hR; exact absurd hR HEn.out
          rw [if_pos h5] at hR
          subst hR
          have b5 : (h == 1048576) = true := by simpa using h5
          clear HEn h5
          go_enter Tryd.func32, Tryd.ntmps32
          go_wp2_with fail
          refine abs_run (fun W => Below w.heap.size w W ∧ Blk w.heap.size (.cells #[.int .i64 s, .int .i64 h, .slice a n c] 71 (0, 0)) W ∧ Blk (w.heap.size + 1) (.cells #[.int .i64 0, .int .i64 0, .slice none 0 0] 71 (0, 0)) W)
            ⟨by (repeat (first | exact Below.refl _ _ | assumption | (refine Below.drew ?_) | (refine below_drewN ?_ _) | (refine Below.alloc ?_ (by first | (simp; done) | (simp; omega) | omega) _) | (refine Below.setCell ?_ (by first | (simp; done) | (simp; omega) | omega) _) | (refine Below.trans ?_ (Below.mono (by assumption) (by first | (simp; done) | (simp; omega) | omega))))), (Blk.new _ _).alloc _, Blk.at _ _ _ (by simp)⟩ ?_
          rintro w1 ⟨b1, x1, y1⟩
          refine (HC.out _ (Hg.out.go b1) (Hr.out.go b1)).mono ?_
          rintro e w2 ⟨rfl, b2⟩
          have B2 := Lib.hid (up b1 b2)
          have X2 := Lib.hid (x1.go b2)
          have Y2 := Lib.hid (y1.go b2)
          clear b1 x1 y1 b2 HC
          go_wp2_with fail
          refine (HK.out _ (Hg.out.go B2.out) (Hro.out.go B2.out)).mono ?_
          rintro e w3 ⟨rfl, b3⟩
          have B3 := Lib.hid (up B2.out b3)
          have X3 := Lib.hid (X2.out.go b3)
          have Y3 := Lib.hid (Y2.out.go b3)
          clear b3 X2 Y2 B2 HK
          obtain ⟨q0, q1, q2⟩ := blk3_cells X3.out
          obtain ⟨j0, j1, j2⟩ := blk3_cells Y3.out
          have jf := Y3.out.frozen
          have hy := Y3.out.lt
          have GE := Lib.hid (eh_end Y3.out B3.out (by omega) (.int .i64 0) (.int .i64 0) (.slice none 0 0))
          go_wp2_with fail
          refine abs_ret (fun W => Blk (w.heap.size + 1) (.cells #[.int .i64 0, .int .i64 0, .slice none 0 0] 71 (0, 0)) W ∧ Below w.heap.size w W) GE.out ?_
          rintro W ⟨hB, hW⟩
          obtain ⟨k0, k1, k2⟩ := blk3_cells hB
          exact bodyPost_ret (v := .tuple #[.agg #[.int .i64 0, .int .i64 0, .slice none 0 0], .slice none 0 0, .int .i64 8]) (by simp [results, Tryd.results32, go_sem, k0, k1, k2]) rfl ⟨rfl, hW⟩
    · rw [if_pos h2] at hR
      rw [hR]
      clear hR
      have hb : (e2 == 0) = false := by simpa using h2
      clear h2 HEn
      go_enter Tryd.func32, Tryd.ntmps32
      go_wp2_with fail
      refine abs_run (fun W => Below w.heap.size w W ∧ Blk w.heap.size (.cells #[.int .i64 s, .int .i64 h, .slice a n c] 71 (0, 0)) W ∧ Blk (w.heap.size + 1) (.cells #[.int .i64 0, .int .i64 0, .slice none 0 0] 71 (0, 0)) W)
        ⟨by (repeat (first | exact Below.refl _ _ | assumption | (refine Below.drew ?_) | (refine below_drewN ?_ _) | (refine Below.alloc ?_ (by first | (simp; done) | (simp; omega) | omega) _) | (refine Below.setCell ?_ (by first | (simp; done) | (simp; omega) | omega) _) | (refine Below.trans ?_ (Below.mono (by assumption) (by first | (simp; done) | (simp; omega) | omega))))), (Blk.new _ _).alloc _, Blk.at _ _ _ (by simp)⟩ ?_
      rintro w1 ⟨b1, x1, y1⟩
      refine (HC.out _ (Hg.out.go b1) (Hr.out.go b1)).mono ?_
      rintro e w2 ⟨rfl, b2⟩
      have B2 := Lib.hid (up b1 b2)
      have X2 := Lib.hid (x1.go b2)
      have Y2 := Lib.hid (y1.go b2)
      clear b1 x1 y1 b2 HC
      go_wp2_with fail
      refine (HK.out _ (Hg.out.go B2.out) (Hro.out.go B2.out)).mono ?_
      rintro e w3 ⟨rfl, b3⟩
      have B3 := Lib.hid (up B2.out b3)
      have X3 := Lib.hid (X2.out.go b3)
      have Y3 := Lib.hid (Y2.out.go b3)
      clear b3 X2 Y2 B2 HK
      obtain ⟨q0, q1, q2⟩ := blk3_cells X3.out
      obtain ⟨j0, j1, j2⟩ := blk3_cells Y3.out
      have jf := Y3.out.frozen
      have hy := Y3.out.lt
      have GE := Lib.hid (eh_end Y3.out B3.out (by omega) (.int .i64 0) (.int .i64 0) (.slice none 0 0))
      go_wp2_with fail
      refine abs_ret (fun W => Blk (w.heap.size + 1) (.cells #[.int .i64 0, .int .i64 0, .slice none 0 0] 71 (0, 0)) W ∧ Below w.heap.size w W) GE.out ?_
      rintro W ⟨hB, hW⟩
      obtain ⟨k0, k1, k2⟩ := blk3_cells hB
      exact bodyPost_ret (v := .tuple #[.agg #[.int .i64 0, .int .i64 0, .slice none 0 0], .slice none 0 0, .int .i64 e2]) (by simp [results, Tryd.results32, go_sem, k0, k1, k2]) rfl ⟨rfl, hW⟩
  · rw [if_pos h1] at hR
    rw [hR]
    clear hR
    have hb : (e1 == 0) = false := by simpa using h1
    clear h1 HEn HAll
    go_enter Tryd.func32, Tryd.ntmps32
    go_wp2_with fail
    refine abs_run (fun W => Below w.heap.size w W ∧ Blk w.heap.size (.cells #[.int .i64 s, .int .i64 h, .slice a n c] 71 (0, 0)) W ∧ Blk (w.heap.size + 1) (.cells #[.int .i64 0, .int .i64 0, .slice none 0 0] 71 (0, 0)) W)
      ⟨by (repeat (first | exact Below.refl _ _ | assumption | (refine Below.drew ?_) | (refine below_drewN ?_ _) | (refine Below.alloc ?_ (by first | (simp; done) | (simp; omega) | omega) _) | (refine Below.setCell ?_ (by first | (simp; done) | (simp; omega) | omega) _) | (refine Below.trans ?_ (Below.mono (by assumption) (by first | (simp; done) | (simp; omega) | omega))))), (Blk.new _ _).alloc _, Blk.at _ _ _ (by simp)⟩ ?_
    rintro w1 ⟨b1, x1, y1⟩
    refine (HC.out _ (Hg.out.go b1) (Hr.out.go b1)).mono ?_
    rintro e w2 ⟨rfl, b2⟩
    have B2 := Lib.hid (up b1 b2)
    have X2 := Lib.hid (x1.go b2)
    have Y2 := Lib.hid (y1.go b2)
    clear b1 x1 y1 b2 HC
    obtain ⟨j0, j1, j2⟩ := blk3_cells Y2.out
    have jf := Y2.out.frozen
    have hy := Y2.out.lt
    have GE := Lib.hid (eh_end Y2.out B2.out (by omega) (.int .i64 0) (.int .i64 0) (.slice none 0 0))
    go_wp2_with fail
    refine abs_ret (fun W => Blk (w.heap.size + 1) (.cells #[.int .i64 0, .int .i64 0, .slice none 0 0] 71 (0, 0)) W ∧ Below w.heap.size w W) GE.out ?_
    rintro W ⟨hB, hW⟩
    obtain ⟨k0, k1, k2⟩ := blk3_cells hB
    exact bodyPost_ret (v := .tuple #[.agg #[.int .i64 0, .int .i64 0, .slice none 0 0], .slice none 0 0, .int .i64 e1]) (by simp [results, Tryd.results32, go_sem, k0, k1, k2]) rfl ⟨rfl, hW⟩
/-- edge.Hear in all -/
theorem eh_any (s h : Int) (l : List Op) (o : Op) (k : Int) (u : Bool) (a ao : Option Addr) (n c no co : Nat) (w : World) (hg : Good w) (hr : RdS (· < w.heap.size) w l a n c) (hro : RdS (· < w.heap.size) w o ao no co) (hs : I64 s) (hh : I64 h) :
    Calls Tryd.prog 32 #[.agg #[.int .i64 s, .int .i64 h, .slice a n c], .slice ao no co, .int .i64 k, .bool u] w (EhP s h l o k u w) := by
  by_cases hE : ehE0 s h l o k = 0
  · exact eh_main s h l o k u a ao n c no co w hg hr hro hs hh hE
  · refine (eh_bad s h l o k u a ao n c no co w hg hr hro hs hh hE).mono ?_
    rintro e w' ⟨rfl, hb⟩
    have e1 : ehE s h l o k u = ehE0 s h l o k := if_pos hE
    unfold EhP
    rw [e1]
    exact ⟨fun h => absurd h hE, fun _ => ⟨rfl, hb⟩⟩
end Go.Proofs.YtkhacogeffidoaaDoor
