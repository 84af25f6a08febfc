/- The first texts of this claim, one behind the other. -/
import Derived.Test.YtkhacogeffidoaaDoorEhear
import Derived.Test.YtkhacogeffidoaaDoorXf
import Derived.Test.YtkhacogeffidoaaDoorTrLaw
import Derived.Test.YtkhacogeffidoaaDoorSubP
import Derived.BigQuiet
import Derived.Test.YtkhacogeffidoaaDoorReg2
import Derived.Test.YtkhacogeffidoaaDoorText2
import Derived.Test.YtkhacogeffidoaaDoorBag
import Derived.Test.YtkhacogeffidoaaDoorOp
import Derived.Deep.Cut
import Derived.Deep.CutRange
set_option linter.unusedVariables false
set_option linter.unusedSimpArgs false
namespace Go.Proofs.YtkhacogeffidoaaDoor
open Go.RowKit

set_option maxRecDepth 100000 in
set_option maxHeartbeats 6000000 in
theorem eh_bad (s h : Int) (l : List Op) (o : Op) (k : Int) (u : Bool) (a ao : Option Addr) (n c no co : Nat) (w : World) (hg : Good w) (hr : RdS (· < w.heap.size) w l a n c) (hro : RdS (· < w.heap.size) w o ao no co) (hs : I64 s) (hh : I64 h) (hE : ehE0 s h l o k ≠ 0) :
    Calls Tryd.prog 32 #[.agg #[.int .i64 s, .int .i64 h, .slice a n c], .slice ao no co, .int .i64 k, .bool u] w fun e w' => e = .returned (.tuple #[.agg #[.int .i64 0, .int .i64 0, .slice none 0 0], .slice none 0 0, .int .i64 (ehE0 s h l o k)]) ∧ Below w.heap.size w w' := by
  have hnl := hr.1
  have HC := Lib.hid (fun W hg hr => edge_any s h l a n c W hg hr hs hh)
  have HK := Lib.hid (fun W hg hr => check_go o ao no co W hg hr)
  have hall : edgeCheck s h l = 0 → 0 ≤ s ∧ s ≤ 1048576 ∧ 0 ≤ h ∧ h ≤ 1048576 ∧ (n : Int) ≤ s := fun e => by
    obtain ⟨s0, s1, h0, h1, hls, -⟩ := edgeCheck_all e
    exact ⟨s0, s1, h0, h1, by omega⟩
  obtain ⟨R, hR⟩ : ∃ R, R = ehE0 s h l o k := ⟨_, rfl⟩
  rw [← hR] at hE ⊢
  unfold ehE0 at hR
  rw [← hnl] at hR
  have Hr := Lib.hid hr
  have Hro := Lib.hid hro
  have Hg := Lib.hid hg
  have HAll := Lib.hid hall
  clear hg hr hro hnl hs hh hall
  generalize edgeCheck s h l = e1 at *
  generalize check o = e2 at *
  have HEn := Lib.hid hE
  clear hE
  by_cases h1 : e1 = 0
  · subst h1
    obtain ⟨s0, s1, h0, hh1, hns⟩ := HAll.out rfl
    rw [if_neg (by simp)] at hR
    clear HAll
    by_cases h2 : e2 = 0
    · subst h2
      rw [if_neg (by simp)] at hR
      by_cases h3 : k < s - (n : Int)
      · rw [if_pos (.inl h3)] at hR
        subst hR
        have c3 : decide (k < s - (n : Int)) = true := by simpa using h3
        clear HEn
        go_enter Tryd.func32, Tryd.ntmps32
        go_wp2_with fail
        refine abs_run (fun W => Below w.heap.size w W ∧ Blk w.heap.size (.cells #[.int .i64 s, .int .i64 h, .slice a n c] 71 (0, 0)) W ∧ Blk (w.heap.size + 1) (.cells #[.int .i64 0, .int .i64 0, .slice none 0 0] 71 (0, 0)) W)
          ⟨by (repeat (first | exact Below.refl _ _ | assumption | (refine Below.drew ?_) | (refine below_drewN ?_ _) | (refine Below.alloc ?_ (by first | (simp; done) | (simp; omega) | omega) _) | (refine Below.setCell ?_ (by first | (simp; done) | (simp; omega) | omega) _) | (refine Below.trans ?_ (Below.mono (by assumption) (by first | (simp; done) | (simp; omega) | omega))))), (Blk.new _ _).alloc _, Blk.at _ _ _ (by simp)⟩ ?_
        rintro w1 ⟨b1, x1, y1⟩
        refine (HC.out _ (Hg.out.go b1) (Hr.out.go b1)).mono ?_
        rintro e w2 ⟨rfl, b2⟩
        have B2 := Lib.hid (up b1 b2)
        have X2 := Lib.hid (x1.go b2)
        have Y2 := Lib.hid (y1.go b2)
        clear b1 x1 y1 b2 HC
        go_wp2_with fail
        refine (HK.out _ (Hg.out.go B2.out) (Hro.out.go B2.out)).mono ?_
        rintro e w3 ⟨rfl, b3⟩
        have B3 := Lib.hid (up B2.out b3)
        have X3 := Lib.hid (X2.out.go b3)
        have Y3 := Lib.hid (Y2.out.go b3)
        clear b3 X2 Y2 B2 HK
        obtain ⟨q0, q1, q2⟩ := blk3_cells X3.out
        obtain ⟨j0, j1, j2⟩ := blk3_cells Y3.out
        have jf := Y3.out.frozen
        have hy := Y3.out.lt
        have GE := Lib.hid (eh_end Y3.out B3.out (by omega) (.int .i64 0) (.int .i64 0) (.slice none 0 0))
        go_wp2_with fail
        refine abs_ret (fun W => Blk (w.heap.size + 1) (.cells #[.int .i64 0, .int .i64 0, .slice none 0 0] 71 (0, 0)) W ∧ Below w.heap.size w W) GE.out ?_
        rintro W ⟨hB, hW⟩
        obtain ⟨k0, k1, k2⟩ := blk3_cells hB
        exact bodyPost_ret (v := .tuple #[.agg #[.int .i64 0, .int .i64 0, .slice none 0 0], .slice none 0 0, .int .i64 2]) (by simp [results, Tryd.results32, go_sem, k0, k1, k2]) rfl ⟨rfl, hW⟩
      · by_cases h4 : s < k
        · rw [if_pos (.inr h4)] at hR
          subst hR
          clear HEn
          go_enter Tryd.func32, Tryd.ntmps32
          go_wp2_with fail
          refine abs_run (fun W => Below w.heap.size w W ∧ Blk w.heap.size (.cells #[.int .i64 s, .int .i64 h, .slice a n c] 71 (0, 0)) W ∧ Blk (w.heap.size + 1) (.cells #[.int .i64 0, .int .i64 0, .slice none 0 0] 71 (0, 0)) W)
            ⟨by (repeat (first | exact Below.refl _ _ | assumption | (refine Below.drew ?_) | (refine below_drewN ?_ _) | (refine Below.alloc ?_ (by first | (simp; done) | (simp; omega) | omega) _) | (refine Below.setCell ?_ (by first | (simp; done) | (simp; omega) | omega) _) | (refine Below.trans ?_ (Below.mono (by assumption) (by first | (simp; done) | (simp; omega) | omega))))), (Blk.new _ _).alloc _, Blk.at _ _ _ (by simp)⟩ ?_
          rintro w1 ⟨b1, x1, y1⟩
          refine (HC.out _ (Hg.out.go b1) (Hr.out.go b1)).mono ?_
          rintro e w2 ⟨rfl, b2⟩
          have B2 := Lib.hid (up b1 b2)
          have X2 := Lib.hid (x1.go b2)
          have Y2 := Lib.hid (y1.go b2)
          clear b1 x1 y1 b2 HC
          go_wp2_with fail
          refine (HK.out _ (Hg.out.go B2.out) (Hro.out.go B2.out)).mono ?_
          rintro e w3 ⟨rfl, b3⟩
          have B3 := Lib.hid (up B2.out b3)
          have X3 := Lib.hid (X2.out.go b3)
          have Y3 := Lib.hid (Y2.out.go b3)
          clear b3 X2 Y2 B2 HK
          obtain ⟨q0, q1, q2⟩ := blk3_cells X3.out
          obtain ⟨j0, j1, j2⟩ := blk3_cells Y3.out
          have jf := Y3.out.frozen
          have hy := Y3.out.lt
          have GE := Lib.hid (eh_end Y3.out B3.out (by omega) (.int .i64 0) (.int .i64 0) (.slice none 0 0))
          go_wp2_with fail
          refine abs_ret (fun W => Blk (w.heap.size + 1) (.cells #[.int .i64 0, .int .i64 0, .slice none 0 0] 71 (0, 0)) W ∧ Below w.heap.size w W) GE.out ?_
          rintro W ⟨hB, hW⟩
          obtain ⟨k0, k1, k2⟩ := blk3_cells hB
          exact bodyPost_ret (v := .tuple #[.agg #[.int .i64 0, .int .i64 0, .slice none 0 0], .slice none 0 0, .int .i64 2]) (by simp [results, Tryd.results32, go_sem, k0, k1, k2]) rfl ⟨rfl, hW⟩
        · rw [if_neg (by omega)] at hR
          have h5 : h = 1048576 := by
            by_cases h5 : h = 1048576
            · exact h5
            · rw [if_neg h5] at hR; exact absurd hR HEn.out
          rw [if_pos h5] at hR
          subst hR
          have b5 : (h == 1048576) = true := by simpa using h5
          clear HEn h5
          go_enter Tryd.func32, Tryd.ntmps32
          go_wp2_with fail
          refine abs_run (fun W => Below w.heap.size w W ∧ Blk w.heap.size (.cells #[.int .i64 s, .int .i64 h, .slice a n c] 71 (0, 0)) W ∧ Blk (w.heap.size + 1) (.cells #[.int .i64 0, .int .i64 0, .slice none 0 0] 71 (0, 0)) W)
            ⟨by (repeat (first | exact Below.refl _ _ | assumption | (refine Below.drew ?_) | (refine below_drewN ?_ _) | (refine Below.alloc ?_ (by first | (simp; done) | (simp; omega) | omega) _) | (refine Below.setCell ?_ (by first | (simp; done) | (simp; omega) | omega) _) | (refine Below.trans ?_ (Below.mono (by assumption) (by first | (simp; done) | (simp; omega) | omega))))), (Blk.new _ _).alloc _, Blk.at _ _ _ (by simp)⟩ ?_
          rintro w1 ⟨b1, x1, y1⟩
          refine (HC.out _ (Hg.out.go b1) (Hr.out.go b1)).mono ?_
          rintro e w2 ⟨rfl, b2⟩
          have B2 := Lib.hid (up b1 b2)
          have X2 := Lib.hid (x1.go b2)
          have Y2 := Lib.hid (y1.go b2)
          clear b1 x1 y1 b2 HC
          go_wp2_with fail
          refine (HK.out _ (Hg.out.go B2.out) (Hro.out.go B2.out)).mono ?_
          rintro e w3 ⟨rfl, b3⟩
          have B3 := Lib.hid (up B2.out b3)
          have X3 := Lib.hid (X2.out.go b3)
          have Y3 := Lib.hid (Y2.out.go b3)
          clear b3 X2 Y2 B2 HK
          obtain ⟨q0, q1, q2⟩ := blk3_cells X3.out
          obtain ⟨j0, j1, j2⟩ := blk3_cells Y3.out
          have jf := Y3.out.frozen
          have hy := Y3.out.lt
          have GE := Lib.hid (eh_end Y3.out B3.out (by omega) (.int .i64 0) (.int .i64 0) (.slice none 0 0))
          go_wp2_with fail
          refine abs_ret (fun W => Blk (w.heap.size + 1) (.cells #[.int .i64 0, .int .i64 0, .slice none 0 0] 71 (0, 0)) W ∧ Below w.heap.size w W) GE.out ?_
          rintro W ⟨hB, hW⟩
          obtain ⟨k0, k1, k2⟩ := blk3_cells hB
          exact bodyPost_ret (v := .tuple #[.agg #[.int .i64 0, .int .i64 0, .slice none 0 0], .slice none 0 0, .int .i64 8]) (by simp [results, Tryd.results32, go_sem, k0, k1, k2]) rfl ⟨rfl, hW⟩
    · rw [if_pos h2] at hR
      rw [hR]
      clear hR
      have hb : (e2 == 0) = false := by simpa using h2
      clear h2 HEn
      go_enter Tryd.func32, Tryd.ntmps32
      go_wp2_with fail
      refine abs_run (fun W => Below w.heap.size w W ∧ Blk w.heap.size (.cells #[.int .i64 s, .int .i64 h, .slice a n c] 71 (0, 0)) W ∧ Blk (w.heap.size + 1) (.cells #[.int .i64 0, .int .i64 0, .slice none 0 0] 71 (0, 0)) W)
        ⟨by (repeat (first | exact Below.refl _ _ | assumption | (refine Below.drew ?_) | (refine below_drewN ?_ _) | (refine Below.alloc ?_ (by first | (simp; done) | (simp; omega) | omega) _) | (refine Below.setCell ?_ (by first | (simp; done) | (simp; omega) | omega) _) | (refine Below.trans ?_ (Below.mono (by assumption) (by first | (simp; done) | (simp; omega) | omega))))), (Blk.new _ _).alloc _, Blk.at _ _ _ (by simp)⟩ ?_
      rintro w1 ⟨b1, x1, y1⟩
      refine (HC.out _ (Hg.out.go b1) (Hr.out.go b1)).mono ?_
      rintro e w2 ⟨rfl, b2⟩
      have B2 := Lib.hid (up b1 b2)
      have X2 := Lib.hid (x1.go b2)
      have Y2 := Lib.hid (y1.go b2)
      clear b1 x1 y1 b2 HC
      go_wp2_with fail
      refine (HK.out _ (Hg.out.go B2.out) (Hro.out.go B2.out)).mono ?_
      rintro e w3 ⟨rfl, b3⟩
      have B3 := Lib.hid (up B2.out b3)
      have X3 := Lib.hid (X2.out.go b3)
      have Y3 := Lib.hid (Y2.out.go b3)
      clear b3 X2 Y2 B2 HK
      obtain ⟨q0, q1, q2⟩ := blk3_cells X3.out
      obtain ⟨j0, j1, j2⟩ := blk3_cells Y3.out
      have jf := Y3.out.frozen
      have hy := Y3.out.lt
      have GE := Lib.hid (eh_end Y3.out B3.out (by omega) (.int .i64 0) (.int .i64 0) (.slice none 0 0))
      go_wp2_with fail
      refine abs_ret (fun W => Blk (w.heap.size + 1) (.cells #[.int .i64 0, .int .i64 0, .slice none 0 0] 71 (0, 0)) W ∧ Below w.heap.size w W) GE.out ?_
      rintro W ⟨hB, hW⟩
      obtain ⟨k0, k1, k2⟩ := blk3_cells hB
      exact bodyPost_ret (v := .tuple #[.agg #[.int .i64 0, .int .i64 0, .slice none 0 0], .slice none 0 0, .int .i64 e2]) (by simp [results, Tryd.results32, go_sem, k0, k1, k2]) rfl ⟨rfl, hW⟩
  · rw [if_pos h1] at hR
    rw [hR]
    clear hR
    have hb : (e1 == 0) = false := by simpa using h1
    clear h1 HEn HAll
    go_enter Tryd.func32, Tryd.ntmps32
    go_wp2_with fail
    refine abs_run (fun W => Below w.heap.size w W ∧ Blk w.heap.size (.cells #[.int .i64 s, .int .i64 h, .slice a n c] 71 (0, 0)) W ∧ Blk (w.heap.size + 1) (.cells #[.int .i64 0, .int .i64 0, .slice none 0 0] 71 (0, 0)) W)
      ⟨by (repeat (first | exact Below.refl _ _ | assumption | (refine Below.drew ?_) | (refine below_drewN ?_ _) | (refine Below.alloc ?_ (by first | (simp; done) | (simp; omega) | omega) _) | (refine Below.setCell ?_ (by first | (simp; done) | (simp; omega) | omega) _) | (refine Below.trans ?_ (Below.mono (by assumption) (by first | (simp; done) | (simp; omega) | omega))))), (Blk.new _ _).alloc _, Blk.at _ _ _ (by simp)⟩ ?_
    rintro w1 ⟨b1, x1, y1⟩
    refine (HC.out _ (Hg.out.go b1) (Hr.out.go b1)).mono ?_
    rintro e w2 ⟨rfl, b2⟩
    have B2 := Lib.hid (up b1 b2)
    have X2 := Lib.hid (x1.go b2)
    have Y2 := Lib.hid (y1.go b2)
    clear b1 x1 y1 b2 HC
    obtain ⟨j0, j1, j2⟩ := blk3_cells Y2.out
    have jf := Y2.out.frozen
    have hy := Y2.out.lt
    have GE := Lib.hid (eh_end Y2.out B2.out (by omega) (.int .i64 0) (.int .i64 0) (.slice none 0 0))
    go_wp2_with fail
    refine abs_ret (fun W => Blk (w.heap.size + 1) (.cells #[.int .i64 0, .int .i64 0, .slice none 0 0] 71 (0, 0)) W ∧ Below w.heap.size w W) GE.out ?_
    rintro W ⟨hB, hW⟩
    obtain ⟨k0, k1, k2⟩ := blk3_cells hB
    exact bodyPost_ret (v := .tuple #[.agg #[.int .i64 0, .int .i64 0, .slice none 0 0], .slice none 0 0, .int .i64 e1]) (by simp [results, Tryd.results32, go_sem, k0, k1, k2]) rfl ⟨rfl, hW⟩
/-- edge.Hear in all -/
theorem eh_any (s h : Int) (l : List Op) (o : Op) (k : Int) (u : Bool) (a ao : Option Addr) (n c no co : Nat) (w : World) (hg : Good w) (hr : RdS (· < w.heap.size) w l a n c) (hro : RdS (· < w.heap.size) w o ao no co) (hs : I64 s) (hh : I64 h) :
    Calls Tryd.prog 32 #[.agg #[.int .i64 s, .int .i64 h, .slice a n c], .slice ao no co, .int .i64 k, .bool u] w (EhP s h l o k u w) := by
  by_cases hE : ehE0 s h l o k = 0
  · exact eh_main s h l o k u a ao n c no co w hg hr hro hs hh hE
  · refine (eh_bad s h l o k u a ao n c no co w hg hr hro hs hh hE).mono ?_
    rintro e w' ⟨rfl, hb⟩
    have e1 : ehE s h l o k u = ehE0 s h l o k := if_pos hE
    unfold EhP
    rw [e1]
    exact ⟨fun h => absurd h hE, fun _ => ⟨rfl, hb⟩⟩
end Go.Proofs.YtkhacogeffidoaaDoor

set_option linter.unusedVariables false
set_option linter.unusedSimpArgs false
namespace Go.Proofs.YtkhacogeffidoaaDoor
open Go.RowKit

theorem addP_self {p : P} {r : List P} (h : Can (p :: r)) : addP r p = p :: r := by
  cases r with
  | nil =>
    have hk : p.ok := h
    cases p with
    | k n => simp only [P.ok] at hk; simp only [addP]; rw [if_neg (by omega)]
    | d n => simp only [P.ok] at hk; simp only [addP]; rw [if_neg (by omega)]
    | i t => simp only [P.ok] at hk; simp only [addP]; rw [if_neg hk.1]
  | cons q r =>
    obtain ⟨hk, hc, -⟩ := h
    cases p with
    | k n => simp only [P.ok] at hk; cases q <;> first | (simp [P.clash] at hc; done) | (simp only [addP]; rw [if_neg (by omega)])
    | d n => simp only [P.ok] at hk; cases q <;> first | (simp [P.clash] at hc; done) | (simp only [addP]; rw [if_neg (by omega)])
    | i t => simp only [P.ok] at hk; cases q <;> first | (simp [P.clash] at hc; done) | (simp only [addP]; rw [if_neg hk.1])
theorem Can.suffix {a b : List P} (h : Can (a ++ b)) : Can b := by
  induction a with
  | nil => exact h
  | cons p a ih => exact ih h.tail
theorem foldl_self (l : List P) : ∀ r : List P, Can (l.reverse ++ r) → l.foldl addP r = l.reverse ++ r := by
  induction l with
  | nil => intro r _; rfl
  | cons p l ih =>
    intro r h
    rw [List.reverse_cons, List.append_assoc] at h
    have hc : Can (p :: r) := Can.suffix h
    rw [List.foldl_cons, addP_self hc, ih (p :: r) h, List.reverse_cons, List.append_assoc]
    rfl
theorem build_self {l : List P} (h : Can l.reverse) : build l = l.reverse := by
  have := foldl_self l [] (by simpa using h)
  simpa [build] using this
theorem opOfP_self {o : Op} (h : check o = 0) : opOfP (opP o) = o := by
  have hI := opIs h
  unfold opOfP
  rw [build_self hI.can, List.reverse_reverse]
  exact hI.eq.symm
/-- n runes are kept -/
def kp (n : Nat) : List P := if n = 0 then [] else [.k n]
theorem kp_pos {n : Nat} (h : n ≠ 0) : kp n = [.k n] := if_neg h
theorem kp_zero : kp 0 = [] := rfl
theorem pass_kp {n m : Nat} (h : m ≤ n) (h1 : 1 ≤ m) : pass (kp n) m = kp (n - m) := by
  rw [kp_pos (by omega)]
  by_cases hz : m = n
  · rw [pass_eq (p := .k n) hz, hz, Nat.sub_self, kp_zero]
  · rw [pass_ne (p := .k n) hz, kp_pos (by omega)]; rfl
theorem addP_kp (m n : Nat) : addP (kp m) (.k n) = kp (m + n) := by
  by_cases h0 : m = 0
  · subst h0
    rw [Nat.zero_add, kp_zero]
    by_cases h1 : n = 0
    · subst h1; rfl
    · rw [kp_pos h1]; simp only [addP]; rw [if_neg h1]
  · rw [kp_pos h0, kp_pos (by omega)]
    simp only [addP]
    by_cases h1 : n = 0
    · rw [if_pos h1, h1]; rfl
    · rw [if_neg h1]
/-- what is kept behind parts -/
def keeps : List P → List P
  | [] => []
  | .i t :: r => .k t.length :: keeps r
  | .k m :: r => .k m :: keeps r
  | .d _ :: r => keeps r
theorem keeps_fold (l : List P) : ∀ m, (keeps l).foldl addP (kp m) = kp (m + TS l) := by
  induction l with
  | nil => intro m; rfl
  | cons p l ih =>
    intro m
    cases p with
    | k n => simp only [keeps, List.foldl_cons, addP_kp, ih, TS, P.T]; congr 1; omega
    | i t => simp only [keeps, List.foldl_cons, addP_kp, ih, TS, P.T]; congr 1; omega
    | d n => simp only [keeps, ih, TS, P.T]; congr 1; omega
theorem keeps_build (l : List P) : build (keeps l) = kp (TS l) := by
  have := keeps_fold l 0
  rw [Nat.zero_add] at this
  exact this
theorem xf_keep (l : List P) : ∀ f, AllOk l → ZS l + FS l ≤ f → xf f l (kp (FS l)) = (l, keeps l) ∧ xf f (kp (FS l)) l = (keeps l, l) := by
  induction l with
  | nil => intro f _ _; simp [FS, kp_zero, keeps]; cases f <;> simp only [xf]
  | cons p l ih =>
    intro f ha hz
    obtain ⟨h1, h2⟩ := allOk_cons.1 ha
    have hp := P.ok_z h1
    obtain ⟨f, rfl⟩ : ∃ g, f = g + 1 := ⟨f - 1, by simp only [ZS] at hz; omega⟩
    have hi := ih f h2 (by simp only [ZS, FS] at hz; omega)
    cases p with
    | i t =>
      have e : FS (.i t :: l) = FS l := by simp [FS, P.F]
      rw [e, xf_i1, hi.1, xf_i2 _ _ _ _ (by intro u r h; unfold kp at h; split at h <;> cases h), hi.2]
      exact ⟨rfl, rfl⟩
    | k n =>
      simp only [P.z] at hp
      have e : FS (.k n :: l) = n + FS l := by simp [FS, P.F]
      have hk : kp (n + FS l) = [.k (n + FS l)] := kp_pos (by omega)
      have hm : min n (n + FS l) = n := by omega
      have hm2 : min (n + FS l) n = n := by omega
      have hps : pass [.k (n + FS l)] n = kp (FS l) := by rw [← hk, pass_kp (by omega) hp]; congr 1; omega
      rw [e, hk, xf_2 _ _ _ _ _ rfl rfl, xf_2 _ _ _ _ _ rfl rfl]
      simp only [P.z, hm, hm2, xe1, xe2, hps, pass_eq (p := .k n) (l := l) (n := n) rfl, hi.1, hi.2]
      exact ⟨rfl, rfl⟩
    | d n =>
      simp only [P.z] at hp
      have e : FS (.d n :: l) = n + FS l := by simp [FS, P.F]
      have hk : kp (n + FS l) = [.k (n + FS l)] := kp_pos (by omega)
      have hm : min n (n + FS l) = n := by omega
      have hm2 : min (n + FS l) n = n := by omega
      have hps : pass [.k (n + FS l)] n = kp (FS l) := by rw [← hk, pass_kp (by omega) hp]; congr 1; omega
      rw [e, hk, xf_2 _ _ _ _ _ rfl rfl, xf_2 _ _ _ _ _ rfl rfl]
      simp only [P.z, hm, hm2, xe1, xe2, hps, pass_eq (p := .d n) (l := l) (n := n) rfl, hi.1, hi.2]
      exact ⟨rfl, rfl⟩
theorem mkOp_nil (n : Nat) : mkOp (n : Int) [] = (kp n).map P.part := by
  unfold mkOp opOf opRun
  simp only [List.take_nil, List.foldl_nil]
  have h := addR_part (.k n) (fun l h => by cases h) [] (fun q h => by cases h)
  have h2 := addP_kp 0 n
  rw [Nat.zero_add, kp_zero] at h2
  rw [h2] at h
  have h3 : addR [] ⟨1, (n : Int), noText⟩ = (kp n).map P.part := h
  rw [h3]
  unfold kp
  split <;> rfl
theorem kp_can (n : Nat) : Can (kp n) := by
  unfold kp
  split
  · trivial
  · show P.ok (.k n); simp only [P.ok]; omega
end Go.Proofs.YtkhacogeffidoaaDoor

set_option linter.unusedVariables false
set_option linter.unusedSimpArgs false
namespace Go.Proofs.YtkhacogeffidoaaDoor
open Go.RowKit

/-- block b is a mason by whom parts stand, the last one first -/
structure Ms (B b : Nat) (R : List P) (v : Value) (w : World) : Prop where
  bag : Bag 115 B b v [.int .i64 0] (R.map P.part).reverse w
  can : Can R
theorem Ms.go {B b : Nat} {R : List P} {v : Value} {w w' : World} (h : Ms B b R v w) (hb : Below w.heap.size w w') : Ms B b R v w' := ⟨h.bag.below hb, h.can⟩
theorem P.mild {p : P} (hp : ∀ l, p = .i l → ∀ r ∈ l, Uni.vr r) (hz : p.z ≤ 100000) : Mild p.part := by
  cases p with
  | k n => simp only [P.z] at hz; exact ⟨by simp [P.part], by simp only [P.part]; omega, by simp only [P.part, noText_size]; omega⟩
  | d n => simp only [P.z] at hz; exact ⟨by simp [P.part], by simp only [P.part]; omega, by simp only [P.part, noText_size]; omega⟩
  | i t =>
    simp only [P.z] at hz
    have := enc_size t (hp t rfl)
    exact ⟨by simp [P.part], by simp only [P.part]; omega, by simp only [P.part]; omega⟩
theorem madd (B b : Nat) (R : List P) (v : Value) (p : P) (w : World) (h : Ms B b R v w) (hs : FS R + TS R ≤ 100000) (hp : ∀ l, p = .i l → ∀ r ∈ l, Uni.vr r) (hz : p.z ≤ 100000) :
    Calls Tryd.prog 56 #[.pointer (some ⟨b, 0, none⟩), .agg #[.int .i64 p.part.kind, .int .i64 p.part.n, .string p.part.text]] w fun e w' =>
      e = .returned (.tuple #[]) ∧ (∃ v', Ms B b (addP R p) v' w') ∧ Below B w w' := by
  have hbw := h.bag.base
  have hbl := h.bag.lt
  refine (add_any B b 0 p.part (P.mild hp hz) (R.map P.part) v w (fun q hq => (can_mild h.can hs q hq).1) (by have := can_len h.can hs; omega) h.bag).mono ?_
  rintro e w' ⟨v', rfl, hb, ht, -⟩
  rw [addR_part p hp R h.can.all] at hb
  exact ⟨rfl, ⟨v', hb, addP_can p hp R h.can⟩, ht.toBelow (by omega) (fun k hk => h.bag.sB k hk)⟩
theorem Ms.new (w : World) : Ms w.heap.size w.heap.size [] (.slice none 0 0) (w.alloc (.cells #[.slice none 0 0, .int .i64 0] 115)) :=
  ⟨⟨Nat.le_refl _, Blk.new _ _, World.ownsRow_nil _ _ _ _, by simp [Value.ownBlock]⟩, trivial⟩
/-- what a mason's parts read as -/
theorem Ms.rd {B b : Nat} {R : List P} {v : Value} {w : World} (h : Ms B b R v w) (hs : FS R + TS R ≤ 100000) : ∃ a c, v = .slice a (R.reverse.map P.part).length c ∧ RdS (fun z => B ≤ z ∧ z < w.heap.size) w (R.reverse.map P.part) a (R.reverse.map P.part).length c := by
  have := h.bag.rd (can_fit h.can hs) (A := fun z => B ≤ z ∧ z < w.heap.size) (fun g hg => h.bag.own.lt g hg)
  rw [← List.map_reverse] at this
  exact this

def hereO (n k : Nat) (t : List Nat) : Op := opOfP [.k k, .i t, .k (n - k)]
set_option maxRecDepth 100000 in
set_option maxHeartbeats 2000000 in
theorem here_any (n k : Nat) (t : List Nat) (w : World) (hv : ∀ r ∈ t, Uni.vr r) (hk : k ≤ n) (hn : n ≤ 4000) (ht : t.length ≤ 4000) :
    Calls Tryd.prog 35 #[.int .i64 (n : Int), .int .i64 (k : Int), .string (Uni.enc t)] w fun e w' => ∃ a c, e = .returned (.slice a (hereO n k t).length c) ∧
      RdS (fun z => w.heap.size ≤ z ∧ z < w'.heap.size) w' (hereO n k t) a (hereO n k t).length c ∧ Below w.heap.size w w' := by
  have hF : FS (build [.k k, .i t, .k (n - k)]) = n := by rw [build_FS]; simp only [FS, P.F]; omega
  have hT : TS (build [.k k, .i t, .k (n - k)]) = n + t.length := by rw [build_TS]; simp only [TS, P.T]; omega
  have M1 := Lib.hid (fun W v (h : Ms w.heap.size w.heap.size [] v W) => madd _ _ _ v (.k k) W h (by simp [FS, TS]) (fun l h => by cases h) (by simp only [P.z]; omega))
  have M2 := Lib.hid (fun W v (h : Ms w.heap.size w.heap.size (addP [] (.k k)) v W) => madd _ _ _ v (.i t) W h (by rw [FS_addP, TS_addP]; simp only [FS, TS, P.F, P.T]; omega) (fun l h => by cases h; exact hv) (by simp only [P.z]; omega))
  have M3 := Lib.hid (fun W v (h : Ms w.heap.size w.heap.size (addP (addP [] (.k k)) (.i t)) v W) => madd _ _ _ v (.k (n - k)) W h (by rw [FS_addP, TS_addP, FS_addP, TS_addP]; simp only [FS, TS, P.F, P.T]; omega) (fun l h => by cases h) (by simp only [P.z]; omega))
  simp only [P.part] at M1 M2 M3
  have iy : IntKind.i64.wrap ((n : Int) - (k : Int)) = ((n - k : Nat) : Int) := by rw [IntWalk.i64_in _ (by omega)]; omega
  have Hend : Hid (∀ W v, Ms w.heap.size w.heap.size (addP (addP (addP [] (.k k)) (.i t)) (.k (n - k))) v W → ∃ a c, v = .slice a (hereO n k t).length c ∧ RdS (fun z => w.heap.size ≤ z ∧ z < W.heap.size) W (hereO n k t) a (hereO n k t).length c) := by
    intro W v h
    have e : addP (addP (addP [] (.k k)) (.i t)) (.k (n - k)) = build [.k k, .i t, .k (n - k)] := rfl
    rw [e] at h
    exact Ms.rd h (by omega)
  generalize hereO n k t = H at *
  generalize H.length = lh at *
  clear hF hT
  go_enter Tryd.func35, Tryd.ntmps35
  go_wp2_with fail
  refine abs_run (fun W => (∃ v, Ms w.heap.size w.heap.size [] v W) ∧ Below w.heap.size w W) ⟨⟨_, Ms.new w⟩, (Below.refl _ _).alloc (Nat.le_refl _) _⟩ ?_
  rintro W0 ⟨⟨v0, m0⟩, b0⟩
  refine (M1.out _ _ m0).mono ?_
  rintro e w1 ⟨rfl, m1, b1⟩
  have m1 := Lib.hid m1
  have b1 := Lib.hid (b0.trans b1)
  clear m0 b0 M1
  go_wp2_with fail
  obtain ⟨v1, m1⟩ := m1.out
  refine (M2.out _ _ m1).mono ?_
  rintro e w2 ⟨rfl, m2, b2⟩
  have m2 := Lib.hid m2
  have b2 := Lib.hid (b1.out.trans b2)
  clear m1 b1 M2
  go_wp2_with fail
  obtain ⟨v2, m2⟩ := m2.out
  refine (M3.out _ _ m2).mono ?_
  rintro e w3 ⟨rfl, ⟨v3, m3⟩, b3⟩
  have b3 := Lib.hid (b2.out.trans b3)
  have c0 : w3.cell? ⟨w.heap.size, 0, none⟩ = some v3 := (show Blk w.heap.size _ w3 from m3.bag.blk).cell 0
  obtain ⟨a3, c3, rfl, r3⟩ := Hend.out _ _ m3
  have r3 := Lib.hid r3
  clear m3 m2 b2 M3 Hend
  go_wp2_with fail
  go_ret
  exact ⟨a3, c3, rfl, r3.out, b3.out⟩
end Go.Proofs.YtkhacogeffidoaaDoor

set_option linter.unusedVariables false
set_option linter.unusedSimpArgs false
namespace Go.Proofs.YtkhacogeffidoaaDoor
open Go.RowKit

set_option maxRecDepth 100000 in
set_option maxHeartbeats 2000000 in
theorem sameOp_ok (o : Op) (a b : Option Addr) (n c m d : Nat) (w : World) (h1 : RdS (· < w.heap.size) w o a n c) (h2 : RdS (· < w.heap.size) w o b m d) :
    Calls Tryd.prog 33 #[.slice a n c, .slice b m d] w fun e w' => e = .returned (.bool true) ∧ Below w.heap.size w w' := by
  obtain rfl : n = m := h1.1.trans h2.1.symm
  have hnl : n = o.length := h1.1
  have hnm : n ≤ maxLen := by have h3 := h1.2.1; have h4 := h1.2.2.1; omega
  unfold maxLen at hnm
  have hne : ((n : Int) != (n : Int)) = false := by simp
  have H1 := Lib.hid h1
  have H2 := Lib.hid h2
  have Hl := Lib.hid hnl
  clear h1 h2 hnl
  go_enter Tryd.func33, Tryd.ntmps33
  go_wp2_with fail
  go_loopw [13] (fun i wr => ∃ k : Nat, k ≤ n ∧ i = .int .i64 k ∧ Below w.heap.size w wr) (fun i _ => n - (intOf i).toNat)
  case atStart => exact ⟨0, by omega, rfl, Below.refl _ _⟩
  case round =>
    obtain ⟨k, hk, rfl, hb⟩ := hrel
    by_cases hlt : k < n
    · have r1 := H1.out.go hb
      have r2 := H2.out.go hb
      obtain ⟨b1, off1, rfl, _, hbs1, hcs1⟩ := r1.part (by omega)
      obtain ⟨b2, off2, rfl, _, hbs2, hcs2⟩ := r2.part (by omega)
      have hkl : k < o.length := by have := Hl.out; omega
      obtain ⟨hk64, hn64, ht, c0, c1, c2⟩ := hcs1 k hkl
      obtain ⟨-, -, -, d0, d1, d2⟩ := hcs2 k hkl
      generalize o[k] = p at *
      obtain ⟨pk, pn, pt⟩ := p
      simp only at c0 c1 c2 d0 d1 d2 hk64 hn64 ht
      have HB := Lib.hid hb
      clear r1 r2 hcs1 hcs2 hb hkl
      have hkn : (k : Int) < (n : Int) := by omega
      go_wp2_with fail
      go_quiet (fail)
      go_wp2_with fail
      go_roundw
      case rel => exact ⟨k + 1, by omega, by go_num, by first | exact HB.out | exact HB.out.drew | exact below_drewN HB.out _⟩
      case measure => simp [intOf]; omega
    · have hkn : k = n := by omega
      subst hkn
      have HB := Lib.hid hb
      clear hb
      go_wp2_with fail
      go_ret
      exact ⟨rfl, HB.out⟩
end Go.Proofs.YtkhacogeffidoaaDoor

set_option linter.unusedVariables false
set_option linter.unusedSimpArgs false
namespace Go.Proofs.YtkhacogeffidoaaDoor
open Go.RowKit

theorem kp_rev (n : Nat) : (kp n).reverse = kp n := by unfold kp; split <;> rfl
theorem kp_F (n : Nat) : FS (kp n) = n ∧ TS (kp n) = n ∧ ZS (kp n) = n := by
  unfold kp
  split
  · rename_i h; subst h; exact ⟨rfl, rfl, rfl⟩
  · simp [FS, TS, ZS, P.F, P.T, P.z]
theorem kp_opP (n : Nat) (h : n ≤ 4000) : opP (mkOp (n : Int) []) = kp n := by
  obtain ⟨h1, h2, -⟩ := kp_F n
  have := (opIs_of (kp_can n) (by omega) (by omega)).opP
  rw [kp_rev] at this
  rw [mkOp_nil]
  exact this
theorem tr_same {o : Op} (h : check o = 0) (n : Nat) (hn : (n : Int) = sumF o) (m : Nat) (hm : (m : Int) = sumT o) :
    trX o (mkOp n []) = o ∧ trY o (mkOp n []) = mkOp m [] ∧ trX (mkOp n []) o = mkOp m [] ∧ trY (mkOp n []) o = o := by
  have hI := opIs h
  have hf := hI.f
  have ht := hI.t
  have hfl := hI.fl
  have e1 : n = FS (opP o) := by omega
  have e2 : m = TS (opP o) := by omega
  have hk : opP (mkOp (n : Int) []) = kp (FS (opP o)) := by rw [kp_opP n (by omega), e1]
  obtain ⟨-, -, k3⟩ := kp_F (FS (opP o))
  have hx := xf_keep (opP o) (ZS (opP o) + FS (opP o)) hI.ok (Nat.le_refl _)
  have hkb : opOfP (keeps (opP o)) = mkOp (m : Int) [] := by
    unfold opOfP
    rw [keeps_build, kp_rev, mkOp_nil, e2]
  unfold trX trY
  rw [hk, k3, Nat.add_comm (FS (opP o)), hx.1, hx.2, hkb]
  exact ⟨opOfP_self h, rfl, rfl, opOfP_self h⟩

end Go.Proofs.YtkhacogeffidoaaDoor

set_option linter.unusedVariables false
set_option linter.unusedSimpArgs false
namespace Go.Proofs.YtkhacogeffidoaaDoor
open Go.RowKit

theorem kp_app (k : Nat) (t : List Nat) : app t (kp k) = t.take k := by
  unfold kp
  split
  · rename_i h; subst h; simp [app]
  · simp [app]
theorem keeps_kp (m : Nat) : keeps (kp m) = kp m := by unfold kp; split <;> rfl
theorem kp_kp (m f : Nat) (h : m + m ≤ f) : xf f (kp m) (kp m) = (kp m, kp m) := by
  obtain ⟨h1, h2, h3⟩ := kp_F m
  have := (xf_keep (kp m) f (fun p hp => (kp_can m).all p hp) (by omega)).1
  rw [h1, keeps_kp] at this
  exact this
theorem kp_noins (m : Nat) : ∀ u r, kp m ≠ .i u :: r := by
  intro u r h; unfold kp at h; split at h <;> cases h
/-- the parts of here -/
theorem here_build (k m : Nat) (x : List Nat) (hx : x ≠ []) : build [.k k, .i x, .k m] = kp m ++ .i x :: kp k := by
  have h1 := addP_kp 0 k
  rw [Nat.zero_add, kp_zero] at h1
  have h2 : addP (kp k) (.i x) = .i x :: kp k := by
    unfold kp; split <;> simp [addP, hx]
  have h3 : addP (.i x :: kp k) (.k m) = kp m ++ .i x :: kp k := by
    by_cases hm : m = 0
    · subst hm; rfl
    · rw [kp_pos hm]; simp [addP, hm]
  show addP (addP (addP [] (.k k)) (.i x)) (.k m) = _
  rw [h1, h2, h3]
theorem here_laws (n k : Nat) (x : List Nat) (hk : k ≤ n) (hn : n ≤ 2000) (hx : x ≠ []) (hv : ∀ r ∈ x, Uni.vr r) (hl : x.length ≤ 1000) :
    check (hereO n k x) = 0 ∧ sumF (hereO n k x) = n ∧ sumT (hereO n k x) = n + x.length ∧ opP (hereO n k x) = kp k ++ .i x :: kp (n - k) := by
  have hc : Can (build [.k k, .i x, .k (n - k)]) := foldl_can _ _ trivial (fun p hp t ht => by
    subst ht
    simp only [List.mem_cons, List.not_mem_nil, or_false] at hp
    rcases hp with h | h | h
    · cases h
    · cases h; exact hv
    · cases h)
  have hF : FS (build [.k k, .i x, .k (n - k)]) = n := by rw [build_FS]; simp only [FS, P.F]; omega
  have hT : TS (build [.k k, .i x, .k (n - k)]) = n + x.length := by rw [build_TS]; simp only [TS, P.T]; omega
  have hI := opIs_of hc (by omega) (by omega)
  have h1 := hI.check
  have h2 := hI.f
  have h3 := hI.t
  have h4 := hI.opP
  rw [FS_rev, hF] at h2
  rw [TS_rev, hT] at h3
  unfold hereO opOfP
  refine ⟨h1, h2, by rw [h3]; omega, ?_⟩
  rw [h4, here_build _ _ _ hx, List.reverse_append, List.reverse_cons, kp_rev', kp_rev']
  simp
where kp_rev' (n : Nat) : (kp n).reverse = kp n := by unfold kp; split <;> rfl
theorem xf_first (f k m : Nat) (x y : List Nat) (hx : x ≠ []) (hy : y ≠ []) (hf : (k + x.length + m) + (k + y.length + m) ≤ f) :
    (xf f (kp k ++ .i x :: kp m) (kp k ++ .i y :: kp m)).2 = kp k ++ (.k x.length :: .i y :: kp m) := by
  have lx := List.length_pos_iff.2 hx
  have ly := List.length_pos_iff.2 hy
  have key : ∀ g, m + m + 2 ≤ g → (xf g (.i x :: kp m) (.i y :: kp m)).2 = .k x.length :: .i y :: kp m := by
    intro g hg
    obtain ⟨g, rfl⟩ : ∃ h, g = h + 2 := ⟨g - 2, by omega⟩
    rw [show g + 2 = (g + 1) + 1 from rfl, xf_i1, xf_i2 _ _ _ _ (kp_noins m), kp_kp m g (by omega)]
  by_cases hk : k = 0
  · subst hk
    exact key f (by omega)
  · obtain ⟨f, rfl⟩ : ∃ g, f = g + 1 := ⟨f - 1, by omega⟩
    rw [kp_pos hk]
    simp only [List.cons_append, List.nil_append]
    rw [xf_2 _ _ _ _ _ rfl rfl]
    simp only [P.z, Nat.min_self, xe2, pass_eq (p := .k k) (n := k) rfl]
    rw [key f (by omega)]
    rfl
theorem first_app (n k : Nat) (x y t : List Nat) (hk : k ≤ n) (ht : t.length = n) (hx : x ≠ []) :
    app (app t (kp k ++ .i x :: kp (n - k))) (kp k ++ (.k x.length :: .i y :: kp (n - k))) = t.take k ++ x ++ y ++ t.drop k := by
  obtain ⟨k1, k2, k3⟩ := kp_F k
  have e0 : (t.drop k).take (n - k) = t.drop k := List.take_of_length_le (by rw [List.length_drop]; omega)
  have e1 : app t (kp k ++ .i x :: kp (n - k)) = t.take k ++ (x ++ t.drop k) := by
    rw [app_app, kp_app, k1]
    simp only [app, kp_app]
    rw [e0]
  have hl : (t.take k).length = k := by rw [List.length_take]; omega
  rw [e1, app_app, kp_app, k1, List.take_append_of_le_length (by omega), List.take_of_length_le (by omega : (t.take k).length ≤ k)]
  have e2 : (t.take k ++ (x ++ t.drop k)).drop k = x ++ t.drop k := by rw [List.drop_append_of_le_length (by omega), List.drop_of_length_le (by omega)]; rfl
  rw [e2]
  simp only [app, kp_app]
  rw [List.take_left, List.drop_left, e0]
  simp [List.append_assoc]
theorem trY_app {o q : Op} (h1 : check o = 0) (h2 : check q = 0) (h3 : sumF o = sumF q) (h4 : sumT o + sumT q ≤ 4000) (t : List Nat) :
    app t (opP (trY o q)) = app t (xf (ZS (opP o) + ZS (opP q)) (opP o) (opP q)).2 := by
  have hI1 := opIs h1
  have hI2 := opIs h2
  have hFF : FS (opP o) = FS (opP q) := by have := hI1.f; have := hI2.f; omega
  obtain ⟨l1, l2, l3, l4, l5, l6⟩ := xf_laws _ _ _ hI1.ok hI2.ok hFF (Nat.le_refl _)
  have lT := xf_TS (ZS (opP o) + ZS (opP q)) _ _ hI1.ok hI2.ok hFF
  have e1 := hI1.t
  have e2 := hI2.t
  have e3 := hI1.f
  unfold trY
  rw [opOfP_app l2 (by omega) (by omega)]
end Go.Proofs.YtkhacogeffidoaaDoor

set_option linter.unusedVariables false
set_option linter.unusedSimpArgs false
namespace Go.Proofs.YtkhacogeffidoaaDoor
open Go.RowKit

theorem one_text (s : Str) : (⟨#[49]⟩ : ByteArray) ++ letters s 3 = Uni.enc (49 :: lets s 3) := by
  have e : (⟨#[49]⟩ : ByteArray) = Uni.enc [49] := by kernel_rfl
  unfold letters
  rw [e, ← enc_append]
  rfl
theorem two_text (s : Str) : (⟨#[50]⟩ : ByteArray) ++ letters s 3 = Uni.enc (50 :: lets s 3) := by
  have e : (⟨#[50]⟩ : ByteArray) = Uni.enc [50] := by kernel_rfl
  unfold letters
  rw [e, ← enc_append]
  rfl
theorem here_go (n k : Nat) (t : List Nat) (w : World) (hv : ∀ r ∈ t, Uni.vr r) (hk : k ≤ n) (hn : n ≤ 4000) (ht : t.length ≤ 4000) :
    Calls Tryd.prog 35 #[.int .i64 (n : Int), .int .i64 (k : Int), .string (Uni.enc t)] w fun e w' => ∃ a c, e = .returned (.slice a (hereO n k t).length c) ∧
      RdS (· < w'.heap.size) w' (hereO n k t) a (hereO n k t).length c ∧ Below w.heap.size w w' :=
  (here_any n k t w hv hk hn ht).mono fun e w' ⟨a, c, he, hr, hb⟩ => ⟨a, c, he, hr.wide fun b hb => hb.2, hb⟩
/-- the two texts: what they make -/
theorem first_law {T : Str} (h0 : checkText T = 0) (N k : Nat) (hN : (N : Int) = rc T) (hk : k ≤ N) (hN2 : N ≤ 1000) (x y : List Nat) (hx : x ≠ []) (hy : y ≠ []) (vx : ∀ r ∈ x, Uni.vr r) (vy : ∀ r ∈ y, Uni.vr r) (lx : x.length ≤ 100) (ly : y.length ≤ 100) :
    check (hereO N k x) = 0 ∧ check (hereO N k y) = 0 ∧ sumF (hereO N k x) = sumF (hereO N k y) ∧ sumT (hereO N k x) + sumT (hereO N k y) ≤ 4000 ∧ applyE T (hereO N k x) = 0 ∧
    applyE (applyS T (hereO N k x)) (trY (hereO N k x) (hereO N k y)) = 0 ∧ check (trX (hereO N k x) (hereO N k y)) = 0 ∧ (applyS T (hereO N k x)).size ≤ 16000 ∧
    applyS (applyS T (hereO N k x)) (trY (hereO N k x) (hereO N k y)) = Uni.enc ((rns T).take k) ++ Uni.enc x ++ Uni.enc y ++ Uni.enc ((rns T).drop k) := by
  obtain ⟨o0, o1, o2, o3⟩ := here_laws N k x hk (by omega) hx vx (by omega)
  obtain ⟨q0, q1, q2, q3⟩ := here_laws N k y hk (by omega) hy vy (by omega)
  have e3 : sumF (hereO N k x) = sumF (hereO N k y) := by omega
  have e4 : sumT (hereO N k x) + sumT (hereO N k y) ≤ 4000 := by omega
  obtain ⟨x0, y0, x1, y1, xy, x2, x3, hmeet, -⟩ := tr_laws o0 q0 e3 e4
  have hY := trY_app o0 q0 e3 e4
  have hrT := rc_rns T
  obtain ⟨A1, A2, A3, A4, A5, A6⟩ := apply_good h0 o0 (by omega)
  obtain ⟨C1, C2, C3, C4, C5, C6⟩ := apply_good A5 y0 (by omega)
  refine ⟨o0, q0, e3, e4, A1, C1, x0, A6, ?_⟩
  rw [C2, rns_apply h0 o0 (by omega), hY]
  obtain ⟨k1, k2, k3⟩ := kp_F k
  have hz : ∀ z : List Nat, ZS (kp k ++ .i z :: kp (N - k)) = k + z.length + (N - k) := by
    intro z
    have h5 : ∀ a b : List P, ZS (a ++ b) = ZS a + ZS b := by
      intro a b
      induction a with
      | nil => simp [ZS]
      | cons p a ih => simp only [List.cons_append, ZS, ih]; omega
    rw [h5]
    simp only [ZS, P.z, k3, (kp_F (N - k)).2.2]; omega
  rw [o3, q3, xf_first _ _ _ _ _ hx hy (by rw [hz, hz]; omega), first_app N k x y (rns T) hk (by omega) hx]
  simp only [enc_append]
end Go.Proofs.YtkhacogeffidoaaDoor

set_option linter.unusedVariables false
set_option linter.unusedSimpArgs false
namespace Go.Proofs.YtkhacogeffidoaaDoor
open Go.RowKit

abbrev zeroEd : Array Value := #[.int .i64 0, .int .i64 0, .slice none 0 0]
theorem ed_parts_off {A : Nat → Prop} {w : World} {o : Op} {a : Option Addr} {n c g : Nat} (h : RdS A w o a n c) (hg : ∀ j s, w.cell? ⟨g, j, none⟩ ≠ some (.string s)) : RdS (fun z => A z ∧ z ≠ g) w o a n c := by
  obtain ⟨h1, h2, h3, h4, h5⟩ := h
  refine ⟨h1, h2, h3, h4, fun hn => ?_⟩
  obtain ⟨b, off, e, hA, hb, he⟩ := h5 hn
  refine ⟨b, off, e, ⟨hA, ?_⟩, hb, he⟩
  rintro rfl
  cases o with
  | nil => simp at h1; omega
  | cons x o =>
    obtain ⟨xs, ⟨rfl, -⟩, h6⟩ := he 0 x rfl
    exact hg _ _ (h6 2 _ rfl)
theorem zeroEd_nostr {g : Nat} {w : World} (h : Blk g (.cells zeroEd 71 (0, 0)) w) : ∀ j s, w.cell? ⟨g, j, none⟩ ≠ some (.string s) := by
  intro j s
  rw [h.cell j]
  match j with
  | 0 => simp
  | 1 => simp
  | 2 => simp
  | j + 3 => simp
/-- an operation stands behind a store into a new side's box -/
theorem RdS.offE {o : Op} {a : Option Addr} {n c g : Nat} {w w' : World} (h : RdS (· < w.heap.size) w o a n c) (hz : Blk g (.cells zeroEd 71 (0, 0)) w) (ht : Touch (fun z => z = g) w w') : RdS (· < w'.heap.size) w' o a n c :=
  (ed_parts_off h (zeroEd_nostr hz)).mono fun z hz => ⟨Nat.lt_of_lt_of_le hz.1 ht.size, ht.block z hz.1 hz.2⟩
/-- what edge.Send makes stands behind such a store, too -/
theorem Own.offE {X : Nat → Prop} {base : Nat} {v : Value} {l : List Op} {g : Nat} {w w' : World} (h : Own X base 28 v l w) (hz : Blk g (.cells zeroEd 71 (0, 0)) w) (ht : Touch (fun z => z = g) w w') : Own X base 28 v l w' := by
  obtain ⟨xs, h1, h2⟩ := h.row
  have hr : ∀ k, v.ownBlock = some k → k ≠ g := by
    rcases h1.2 with ⟨hv, _⟩ | ⟨k, cap, cur, hv, hb, hk, _⟩
    · intro k hk; rw [hv] at hk; cases hk
    · intro k' hk' e
      rw [hv] at hk'
      have : k = k' := by simpa [Value.ownBlock] using hk'
      subst this e
      have e2 := Option.some.inj (hk.symm.trans hz)
      injection e2 with e3 e4
      exact absurd e4 (by decide)
  refine ⟨xs, ⟨h1.1, ?_⟩, ?_⟩
  · rcases h1.2 with hn | ⟨k, cap, cur, hv, hb, hk, rest⟩
    · exact .inl hn
    · exact .inr ⟨k, cap, cur, hv, hb, (ht.block k (Array.getElem?_eq_some_iff.1 hk).1 (hr k (by rw [hv]; rfl))).trans hk, rest⟩
  · intro i x hi
    obtain ⟨ys, ⟨a, n, c, e, hrd⟩, h3⟩ := h2 i x hi
    exact ⟨ys, ⟨a, n, c, e, (ed_parts_off hrd (zeroEd_nostr hz)).mono fun z hz => ⟨⟨Nat.lt_of_lt_of_le hz.1.1 ht.size, hz.1.2⟩, ht.block z hz.1.1 hz.2⟩⟩, h3⟩
/-- edge.Send, where nothing is refused -/
theorem send_rd (s h : Int) (l : List Op) (o : Op) (a ao : Option Addr) (n c no co : Nat) (w : World) (hg : Good w) (hr : RdS (· < w.heap.size) w l a n c) (hro : RdS (· < w.heap.size) w o ao no co) (hs : I64 s) (hh : I64 h) (hE : sendE s h l o = 0) :
    Calls Tryd.prog 34 #[.agg #[.int .i64 s, .int .i64 h, .slice a n c], .slice ao no co] w fun e w' => ∃ a' c', e = .returned (.tuple #[.agg #[.int .i64 (s + 1), .int .i64 h, .slice a' (l.length + 1) c'], .int .i64 0]) ∧ RdS (· < w'.heap.size) w' (l ++ [o]) a' (l.length + 1) c' ∧ Below w.heap.size w w' := by
  refine (send_ok s h l o a ao n c no co w hg hr hro hs hh hE).mono ?_
  rintro e w' ⟨v, rfl, ho, hb⟩
  obtain ⟨a', c', rfl, hr'⟩ := ho.rdw
  have hl : (l ++ [o]).length = l.length + 1 := by simp
  rw [hl] at hr' ⊢
  exact ⟨a', c', rfl, hr', hb⟩
/-- edge.Hear, where nothing is refused -/
theorem hear_rd (s h : Int) (l : List Op) (o : Op) (k : Int) (u : Bool) (a ao : Option Addr) (n c no co : Nat) (w : World) (hg : Good w) (hr : RdS (· < w.heap.size) w l a n c) (hro : RdS (· < w.heap.size) w o ao no co) (hs : I64 s) (hh : I64 h) (hE : ehE s h l o k u = 0) :
    Calls Tryd.prog 32 #[.agg #[.int .i64 s, .int .i64 h, .slice a n c], .slice ao no co, .int .i64 k, .bool u] w fun e w' => ∃ a c b d, e = .returned (.tuple #[.agg #[.int .i64 s, .int .i64 (h + 1), .slice a (foldL u (ehD s l k) o).length c], .slice b (foldO u (ehD s l k) o).length d, .int .i64 0]) ∧
      RdS (· < w'.heap.size) w' (foldL u (ehD s l k) o) a (foldL u (ehD s l k) o).length c ∧ RdS (· < w'.heap.size) w' (foldO u (ehD s l k) o) b (foldO u (ehD s l k) o).length d ∧ Below w.heap.size w w' := by
  refine (eh_any s h l o k u a ao n c no co w hg hr hro hs hh).mono ?_
  rintro e w' ⟨h1, -⟩
  obtain ⟨a, c, b, d, h2, h3, h4, h5⟩ := h1 hE
  exact ⟨a, c, b, d, h2, h3.wide fun z hz => hz.2, h4.wide fun z hz => hz.2, h5⟩
theorem edgeCheck_one {o : Op} (h : check o = 0) {s hd : Int} (h1 : 1 ≤ s) (h2 : s ≤ 1048576) (h3 : 0 ≤ hd) (h4 : hd ≤ 1048576) : edgeCheck s hd [o] = 0 := by
  have ho : ¬ edgeOdd s hd [o] := by unfold edgeOdd; simp only [List.length_singleton]; omega
  unfold edgeCheck
  rw [if_neg ho, if_pos (by simp [chainFrom, h])]
theorem sendE_first {o : Op} (h : check o = 0) : sendE 0 0 [] o = 0 := by
  have e : edgeCheck 0 0 [] = 0 := by decide
  unfold sendE
  rw [if_neg (by rw [e]; simp), if_neg (by rw [h]; simp)]
  simp [lastT]
/-- one that is pending, and one that is heard -/
theorem ehE_one {p o : Op} (hp : check p = 0) (ho : check o = 0) (u : Bool) (hs : stepE u p o = 0) : ehE 1 0 [p] o 0 u = 0 ∧ ehD 1 [p] 0 = [p] ∧ foldL u [p] o = [stepP u p o] ∧ foldO u [p] o = stepO u p o := by
  have e1 : edgeCheck 1 0 [p] = 0 := edgeCheck_one hp (by omega) (by omega) (by omega) (by omega)
  have e2 : ehE0 1 0 [p] o 0 = 0 := by
    unfold ehE0
    rw [if_neg (by rw [e1]; simp), if_neg (by rw [ho]; simp), if_neg (by simp), if_neg (by omega)]
  have e3 : ehD 1 [p] 0 = [p] := by simp [ehD]
  refine ⟨?_, e3, rfl, rfl⟩
  unfold ehE
  rw [if_neg (by rw [e2]; simp), e3]
  simp [foldE, hs]
end Go.Proofs.YtkhacogeffidoaaDoor

set_option linter.unusedVariables false
set_option linter.unusedSimpArgs false
namespace Go.Proofs.YtkhacogeffidoaaDoor
open Go.RowKit

def P.I : P → Nat
  | .i t => t.length
  | _ => 0
def IS : List P → Nat
  | [] => 0
  | p :: r => p.I + IS r
theorem IS_app (a b : List P) : IS (a ++ b) = IS a + IS b := by
  induction a with
  | nil => simp [IS]
  | cons p a ih => simp only [List.cons_append, IS, ih]; omega
theorem IS_rev (a : List P) : IS a.reverse = IS a := by
  induction a with
  | nil => rfl
  | cons p a ih => simp only [List.reverse_cons, IS_app, IS, ih]; omega
theorem TS_IS (l : List P) : TS l ≤ FS l + IS l := by
  induction l with
  | nil => simp [TS]
  | cons p l ih => cases p <;> simp only [TS, FS, IS, P.T, P.F, P.I] <;> omega
theorem IS_addP (p : P) : ∀ r, IS (addP r p) = IS r + p.I := by
  cases p with
  | k n =>
    intro r
    unfold addP
    split
    · simp [P.I]
    · split
      · simp only [IS, P.I]; omega
      · simp only [IS, P.I]; omega
  | d n =>
    intro r
    unfold addP
    split
    · simp [P.I]
    · split
      · simp only [IS, P.I]; omega
      · simp only [IS, P.I]; omega
  | i l =>
    intro r
    induction r with
    | nil => unfold addP; split <;> simp_all [IS, P.I]
    | cons q r ih =>
      cases q with
      | k m => unfold addP; split <;> simp_all [IS, P.I]; omega
      | i m => unfold addP; split <;> simp_all [IS, P.I]; omega
      | d m =>
        unfold addP
        split
        · simp_all [IS, P.I]
        · simp only [IS, P.I] at ih ⊢; omega
theorem foldl_IS (l : List P) : ∀ r : List P, IS (l.foldl addP r) = IS r + IS l := by
  induction l with
  | nil => intro r; simp [IS]
  | cons p l ih => intro r; simp only [List.foldl_cons, ih, IS_addP, IS]; omega
theorem build_IS (l : List P) : IS (build l) = IS l := by simp [build, foldl_IS, IS]
theorem pass_I {p : P} {l : List P} {n : Nat} (hp : p.Ins = false) : IS (pass (p :: l) n) = IS (p :: l) := by
  by_cases hz : n = p.z
  · rw [pass_eq hz]
    cases p with
    | i t => cases hp
    | k m => simp [IS, P.I]
    | d m => simp [IS, P.I]
  · rw [pass_ne hz]
    cases p with
    | i t => cases hp
    | k m => simp [IS, P.I, P.cut]
    | d m => simp [IS, P.I, P.cut]
theorem xe_I (x y : P) (n : Nat) : IS (xe1 x y n) = 0 ∧ IS (xe2 x y n) = 0 := by
  cases x <;> cases y <;> simp [xe1, xe2, IS, P.I]
theorem xf_IS (f : Nat) : ∀ a b : List P, AllOk a → AllOk b → FS a = FS b → IS (xf f a b).1 ≤ IS a ∧ IS (xf f a b).2 ≤ IS b := by
  induction f with
  | zero => intro a b _ _ _; simp [xf, IS]
  | succ f ih =>
    intro a b ha hb h
    rcases two_ways ha hb h with ⟨rfl, rfl⟩ | ⟨t, r, rfl⟩ | ⟨t, r, rfl, hne⟩ | ⟨x, r, y, s, rfl, rfl, hx, hy⟩
    · simp [xf, IS]
    · have := ih r b (allOk_cons.1 ha).2 hb (by simpa [FS, P.F] using h)
      rw [xf_i1]
      simp only [IS, P.I]; omega
    · have := ih a r ha (allOk_cons.1 hb).2 (by simpa [FS, P.F] using h)
      rw [xf_i2 _ _ _ _ hne]
      simp only [IS, P.I]; omega
    · have h1 := pass_F (p := x) (l := r) (n := min x.z y.z) hx (by omega)
      have h2 := pass_F (p := y) (l := s) (n := min x.z y.z) hy (by omega)
      have := ih (pass (x :: r) (min x.z y.z)) (pass (y :: s) (min x.z y.z)) (pass_ok ha (by omega)) (pass_ok hb (by omega)) (by omega)
      rw [xf_2 _ _ _ _ _ hx hy]
      simp only [IS_app, (xe_I _ _ _).1, (xe_I _ _ _).2]
      rw [pass_I hx, pass_I hy] at this
      omega
def ins (o : Op) : Nat := IS (opP o)
theorem sumT_ins {o : Op} (h : check o = 0) : sumT o ≤ sumF o + ins o := by
  have hI := opIs h
  have := TS_IS (opP o)
  have h1 := hI.t
  have h2 := hI.f
  unfold ins
  omega
theorem tr_ins {o q : Op} (h1 : check o = 0) (h2 : check q = 0) (h3 : sumF o = sumF q) (h4 : sumT o + sumT q ≤ 4000) : ins (trX o q) ≤ ins o ∧ ins (trY o q) ≤ ins q := by
  have hI1 := opIs h1
  have hI2 := opIs h2
  have hFF : FS (opP o) = FS (opP q) := by have := hI1.f; have := hI2.f; omega
  obtain ⟨l1, l2, l3, l4, l5, l6⟩ := xf_laws _ _ _ hI1.ok hI2.ok hFF (Nat.le_refl _)
  have lT := xf_TS (ZS (opP o) + ZS (opP q)) _ _ hI1.ok hI2.ok hFF
  have lI := xf_IS (ZS (opP o) + ZS (opP q)) _ _ hI1.ok hI2.ok hFF
  have e1 := hI1.t
  have e2 := hI2.t
  have e3 := hI1.f
  unfold ins trX trY
  rw [opOfP_opP l1 (by omega) (by omega), opOfP_opP l2 (by omega) (by omega), IS_rev, IS_rev, build_IS, build_IS]
  exact lI
/-- what Op inserts -/
def lenI (p : Part) : Int := if p.kind = 2 then rc p.text else 0
def sumI (l : List Part) : Int := (l.map lenI).sum
theorem lenI_triv {p : Part} (h : triv p = true) : lenI p = 0 := by
  by_cases hk : p.kind = 2
  · have := lenT_triv h
    unfold lenT at this
    unfold lenI
    rw [if_neg (by omega), if_pos hk] at this
    rw [if_pos hk]; exact this
  · unfold lenI; rw [if_neg hk]
theorem lenI_merge {q p : Part} (hq : Proto q) (hp : Proto p) (hk : q.kind = p.kind) : lenI ⟨q.kind, q.n + p.n, q.text ++ p.text⟩ = lenI q + lenI p := by
  have hm := lenT_merge hq hp hk
  unfold lenT at hm
  unfold lenI
  simp only at hm ⊢
  by_cases h2 : q.kind = 2
  · rw [if_neg (by omega), if_pos h2, if_neg (by omega), if_pos h2, if_neg (by omega), if_pos (by omega)] at hm
    rw [if_pos h2, if_pos h2, if_pos (by omega)]
    exact hm
  · rw [if_neg h2, if_neg h2, if_neg (by omega)]; rfl
theorem addR_sumI {p : Part} (hp : Proto p) (r : List Part) (hr : Canon r) : sumI (addR r p) = sumI r + lenI p := addR_sum lenI Proto hp lenI_triv (fun _ hq hk => lenI_merge hq hp hk) r (fun q h => (hr.all q h).proto)
theorem opStep_ins {n : Int} {i : Nat} {st : List Part × Int} {f : Raw → Str} (hf : Texts f) (x : Raw) (h : Lays n i st) (hi : sumI st.1 ≤ 4 * i) : sumI (opStep f st x).1 ≤ 4 * (i + 1 : Nat) := by
  have h1 := h.left
  have ha := pk_range x.a 6 (by omega)
  have hk1 : 0 ≤ min (pk x.a 6) st.2 := by omega
  have hr := hf x
  have hr0 := rc_nonneg (f x)
  have key : ∀ r : List Part, Canon r → sumI r ≤ 4 * i → sumI (if pk x.b 2 = 0 then (addR r ⟨2, 0, f x⟩) else r) ≤ 4 * (i + 1 : Nat) := by
    intro r hc hs
    split
    · rw [addR_sumI (proto_ins _ hr.1) _ hc]
      have : lenI ⟨2, 0, f x⟩ = rc (f x) := by simp [lenI]
      rw [this]; push_cast; omega
    · push_cast; omega
  have hkeep : ∀ k, lenI ⟨1, k, noText⟩ = 0 := fun k => by simp [lenI]
  have hdel : ∀ k, lenI ⟨3, k, noText⟩ = 0 := fun k => by simp [lenI]
  unfold opStep
  simp only
  generalize min (pk x.a 6) st.2 = k at *
  by_cases c1 : pk x.kind 4 = 0 ∨ pk x.kind 4 = 1
  · rw [if_pos c1]
    have := key (addR st.1 ⟨1, k, noText⟩) (addR_canon (proto_keep k hk1) h.canon).1 (by rw [addR_sumI (proto_keep k hk1) _ h.canon, hkeep]; omega)
    split at this <;> rename_i hb
    · rw [if_pos hb]; exact this
    · rw [if_neg hb]; exact this
  · rw [if_neg c1]
    by_cases c2 : pk x.kind 4 = 2
    · rw [if_pos c2]
      have := key (addR st.1 ⟨3, k, noText⟩) (addR_canon (proto_del k hk1) h.canon).1 (by rw [addR_sumI (proto_del k hk1) _ h.canon, hdel]; omega)
      split at this <;> rename_i hb
      · rw [if_pos hb]; exact this
      · rw [if_neg hb]; exact this
    · rw [if_neg c2]
      have := key st.1 h.canon hi
      split at this <;> rename_i hb
      · rw [if_pos hb]; exact this
      · rw [if_neg hb]; exact this
theorem opRun_ins {f : Raw → Str} (hf : Texts f) (n : Int) (hn : 0 ≤ n) (l : List Raw) : ∀ k, k ≤ l.length → sumI (opRun f n (l.take k)).1 ≤ 4 * k := by
  intro k
  induction k with
  | zero => intro _; simp only [List.take_zero, opRun, List.foldl_nil]; simp [sumI]
  | succ k ih =>
    intro hk
    rw [opRun_next f n l k (by omega)]
    exact opStep_ins hf _ (opRun_lays hf n hn l k (by omega)) (ih (by omega))
theorem IS_opP (l : Op) : (IS (opP l) : Int) = sumI l := by
  induction l with
  | nil => rfl
  | cons p l ih =>
    show ((IS (toP p :: opP l) : Nat) : Int) = sumI (p :: l)
    have e : sumI (p :: l) = lenI p + sumI l := by simp [sumI]
    rw [e, ← ih]
    simp only [IS]
    have : (((toP p).I : Nat) : Int) = lenI p := by
      unfold toP lenI
      by_cases h1 : p.kind = 1
      · rw [if_pos h1, if_neg (by omega)]; rfl
      · rw [if_neg h1]
        by_cases h2 : p.kind = 2
        · rw [if_pos h2, if_pos h2, rc_rns]; rfl
        · rw [if_neg h2, if_neg h2]; rfl
    push_cast
    rw [this]
theorem mkOp_ins (n : Int) (l : List Raw) (h0 : 0 ≤ n) : ins (mkOp n l) ≤ 24 := by
  have h := opRun_lays texts_letters n h0 (l.take 6) (l.take 6).length (Nat.le_refl _)
  have h2 := opRun_ins texts_letters n h0 (l.take 6) (l.take 6).length (Nat.le_refl _)
  rw [List.take_length] at h h2
  have hl : (l.take 6).length ≤ 6 := by rw [List.length_take]; omega
  have hkeep : ∀ k, lenI ⟨1, k, noText⟩ = 0 := fun k => by simp [lenI]
  have e : (ins (mkOp n l) : Int) = sumI (mkOp n l) := IS_opP _
  have e2 : sumI (mkOp n l) = sumI (opRun rawText n (l.take 6)).1 := by
    unfold mkOp opOf
    simp only
    have hr : ∀ r : List Part, sumI r.reverse = sumI r := fun r => sum_perm lenI r
    rw [hr, addR_sumI (proto_keep _ h.left) _ h.canon, hkeep]; omega
  omega
end Go.Proofs.YtkhacogeffidoaaDoor

set_option linter.unusedVariables false
set_option linter.unusedSimpArgs false
namespace Go.Proofs.YtkhacogeffidoaaDoor
open Go.RowKit

def num (x : Int) : Bool := decide (0 ≤ x) && decide (x ≤ 1048576)
theorem number_any (x : Int) (w : World) (_ : I64 x) :
    Calls Tryd.prog 61 #[.int .i64 x] w fun e w' => e = .returned (.bool (num x)) ∧ w = w' := by
  unfold num
  by_cases h0 : 0 ≤ x
  · by_cases h1 : x ≤ 1048576
    · have d0 : decide (0 ≤ x) = true := by simpa using h0
      have d1 : decide (x ≤ 1048576) = true := by simpa using h1
      go_enter Tryd.func61, Tryd.ntmps61
      go_wp2_with fail
      go_ret
      exact ⟨by simp [d0, d1], rfl⟩
    · have d0 : decide (0 ≤ x) = true := by simpa using h0
      have d1 : decide (x ≤ 1048576) = false := by simpa using h1
      go_enter Tryd.func61, Tryd.ntmps61
      go_wp2_with fail
      go_ret
      exact ⟨by simp [d0, d1], rfl⟩
  · have d0 : decide (0 ≤ x) = false := by simpa using h0
    go_enter Tryd.func61, Tryd.ntmps61
    go_wp2_with fail
    go_ret
    exact ⟨by simp [d0], rfl⟩

def frameOdd (k h e : Int) (n : Nat) (t : Str) : Bool := ((k == 1) == decide (0 < e)) || (!(k == 1) && decide (0 < n)) || ((k == 3) && decide (0 < h)) || (!(k == 3) && !(emptyS t))
def checkFrame (k h e : Int) (o : Op) (t : Str) : Int :=
  if k < 1 ∨ 3 < k then 3 else if num h = false ∨ num e = false then 2 else if check o ≠ 0 then check o else if checkText t ≠ 0 then checkText t else if frameOdd k h e o.length t = true then 4 else 0

set_option maxRecDepth 100000 in
set_option maxHeartbeats 2000000 in
theorem checkFrame_any (A : Nat → Prop) (k h e : Int) (o : Op) (t : Str) (a : Option Addr) (n c : Nat) (w : World) (hg : Good w) (hA : ∀ b, A b → b < w.heap.size) (hr : RdS A w o a n c) (hk : I64 k) (hh : I64 h) (he : I64 e) (ht : t.size ≤ strMax) :
    Calls Tryd.prog 46 #[.agg #[.int .i64 k, .int .i64 h, .int .i64 e, .slice a n c, .string t]] w fun ee w' => ee = .returned (.int .i64 (checkFrame k h e o t)) ∧ Below w.heap.size w w' := by
  have hn : o.length = n := hr.1.symm
  have hn2 : n ≤ maxLen := Nat.le_trans hr.2.1 hr.2.2.1
  unfold maxLen at hn2
  generalize hu : checkFrame k h e o t = u
  unfold checkFrame at hu
  rw [hn] at hu
  have HC := Lib.hid (fun W (hb : Below w.heap.size w W) => check_any A o a n c W (hg.below' hb) (fun b hb' => Nat.lt_of_lt_of_le (hA b hb') hb.size) (hr.below hA hb))
  have HT := Lib.hid (fun W (hb : Below w.heap.size w W) => checkText_any t W (hg.below' hb) ht)
  have HH := Lib.hid (fun W => number_any h W hh)
  have HE := Lib.hid (fun W => number_any e W he)
  clear hr hn ht
  unfold I64 at hk hh he
  generalize check o = co at *
  generalize checkText t = ct at *
  generalize num h = nh at *
  generalize num e = ne at *
  have Hu := Lib.hid hu
  clear hu
  by_cases k1 : k < 1
  · have d : decide (k < 1) = true := by simpa using k1
    have hu := Hu.out
    rw [if_pos (.inl k1)] at hu
    subst hu
    clear Hu
    go_enter Tryd.func46, Tryd.ntmps46
    go_wp2_with fail
    go_ret
    exact ⟨rfl, by (repeat (first | exact Below.refl _ _ | assumption | (refine Below.drew ?_) | (refine below_drewN ?_ _) | (refine Below.alloc ?_ (by first | (simp; done) | (simp; omega) | omega) _) | (refine Below.setCell ?_ (by first | (simp; done) | (simp; omega) | omega) _) | (refine Below.trans ?_ (Below.mono (by assumption) (by first | (simp; done) | (simp; omega) | omega)))))⟩
  by_cases k3 : 3 < k
  · have d : decide (k < 1) = false := by simpa using k1
    have d3 : decide (3 < k) = true := by simpa using k3
    have hu := Hu.out
    rw [if_pos (.inr k3)] at hu
    subst hu
    clear Hu
    go_enter Tryd.func46, Tryd.ntmps46
    go_wp2_with fail
    go_ret
    exact ⟨rfl, by (repeat (first | exact Below.refl _ _ | assumption | (refine Below.drew ?_) | (refine below_drewN ?_ _) | (refine Below.alloc ?_ (by first | (simp; done) | (simp; omega) | omega) _) | (refine Below.setCell ?_ (by first | (simp; done) | (simp; omega) | omega) _) | (refine Below.trans ?_ (Below.mono (by assumption) (by first | (simp; done) | (simp; omega) | omega)))))⟩
  have d : decide (k < 1) = false := by simpa using k1
  have d3 : decide (3 < k) = false := by simpa using k3
  have hu := Hu.out
  rw [if_neg (by omega)] at hu
  clear Hu
  have Hu := Lib.hid hu
  clear hu
  go_enter Tryd.func46, Tryd.ntmps46
  go_wp2_with fail
  refine (HH.out _).mono ?_
  rintro ee w1 ⟨rfl, rfl⟩
  cases nh with
  | false =>
    have hu := Hu.out
    rw [if_pos (.inl rfl)] at hu
    subst hu
    clear Hu
    go_wp2_with fail
    go_ret
    exact ⟨rfl, by (repeat (first | exact Below.refl _ _ | assumption | (refine Below.drew ?_) | (refine below_drewN ?_ _) | (refine Below.alloc ?_ (by first | (simp; done) | (simp; omega) | omega) _) | (refine Below.setCell ?_ (by first | (simp; done) | (simp; omega) | omega) _) | (refine Below.trans ?_ (Below.mono (by assumption) (by first | (simp; done) | (simp; omega) | omega)))))⟩
  | true =>
  go_wp2_with fail
  refine (HE.out _).mono ?_
  rintro ee w1 ⟨rfl, rfl⟩
  cases ne with
  | false =>
    have hu := Hu.out
    rw [if_pos (.inr rfl)] at hu
    subst hu
    clear Hu
    go_wp2_with fail
    go_ret
    exact ⟨rfl, by (repeat (first | exact Below.refl _ _ | assumption | (refine Below.drew ?_) | (refine below_drewN ?_ _) | (refine Below.alloc ?_ (by first | (simp; done) | (simp; omega) | omega) _) | (refine Below.setCell ?_ (by first | (simp; done) | (simp; omega) | omega) _) | (refine Below.trans ?_ (Below.mono (by assumption) (by first | (simp; done) | (simp; omega) | omega)))))⟩
  | true =>
  have hu := Hu.out
  rw [if_neg (by simp)] at hu
  clear Hu
  go_wp2_with fail
  refine (HC.out _ (by (repeat (first | exact Below.refl _ _ | assumption | (refine Below.drew ?_) | (refine below_drewN ?_ _) | (refine Below.alloc ?_ (by first | (simp; done) | (simp; omega) | omega) _) | (refine Below.setCell ?_ (by first | (simp; done) | (simp; omega) | omega) _) | (refine Below.trans ?_ (Below.mono (by assumption) (by first | (simp; done) | (simp; omega) | omega))))))).mono ?_
  rintro ee w1 ⟨rfl, hb1⟩
  obtain ⟨hc1, hf1⟩ := bcell hb1
  have hB1 : Below w.heap.size w w1 := by (repeat (first | exact Below.refl _ _ | assumption | (refine Below.drew ?_) | (refine below_drewN ?_ _) | (refine Below.alloc ?_ (by first | (simp; done) | (simp; omega) | omega) _) | (refine Below.setCell ?_ (by first | (simp; done) | (simp; omega) | omega) _) | (refine Below.trans ?_ (Below.mono (by assumption) (by first | (simp; done) | (simp; omega) | omega)))))
  have hz1 : w.heap.size + 1 ≤ w1.heap.size := by have := hb1.size; simpa using this
  by_cases hco : co = 0
  case neg =>
    rw [if_pos hco] at hu
    subst hu
    have d4 : (co != 0) = true := by simpa using hco
    clear hco
    go_wp2_with fail
    go_ret
    exact ⟨rfl, by (repeat (first | exact Below.refl _ _ | assumption | (refine Below.drew ?_) | (refine below_drewN ?_ _) | (refine Below.alloc ?_ (by first | (simp; done) | (simp; omega) | omega) _) | (refine Below.setCell ?_ (by first | (simp; done) | (simp; omega) | omega) _) | (refine Below.trans ?_ (Below.mono (by assumption) (by first | (simp; done) | (simp; omega) | omega)))))⟩
  subst hco
  rw [if_neg (by simp)] at hu
  go_wp2_with fail
  refine (HT.out _ (by (repeat (first | exact Below.refl _ _ | assumption | (refine Below.drew ?_) | (refine below_drewN ?_ _) | (refine Below.alloc ?_ (by first | (simp; done) | (simp; omega) | omega) _) | (refine Below.setCell ?_ (by first | (simp; done) | (simp; omega) | omega) _) | (refine Below.trans ?_ (Below.mono (by assumption) (by first | (simp; done) | (simp; omega) | omega))))))).mono ?_
  rintro ee w2 ⟨rfl, hb2⟩
  obtain ⟨hc2, hf2⟩ := bcell hb2
  have hB2 := hB1.trans (hb2.mono hB1.size)
  by_cases hct : ct = 0
  case neg =>
    rw [if_pos hct] at hu
    subst hu
    have d4 : (ct != 0) = true := by simpa using hct
    clear hct
    go_wp2_with fail
    go_ret
    exact ⟨rfl, hB2⟩
  subst hct
  rw [if_neg (by simp)] at hu
  have Hu := Lib.hid hu
  clear hu
  have hrow : w2.heap[w.heap.size]? = some (.cells #[.int .i64 k, .int .i64 h, .int .i64 e, .slice a n c, .string t] 30 (0, 0)) :=
    (hb2.block _ (by omega)).trans ((hb1.block _ (by simp)).trans (heap_new_at _ _ _ rfl))
  have q0 : w2.cell? ⟨w.heap.size, 0, none⟩ = some (.int .i64 k) := by rw [cell_of_row _ _ _ _ _ _ hrow]; rfl
  have q1 : w2.cell? ⟨w.heap.size, 1, none⟩ = some (.int .i64 h) := by rw [cell_of_row _ _ _ _ _ _ hrow]; rfl
  have q2 : w2.cell? ⟨w.heap.size, 2, none⟩ = some (.int .i64 e) := by rw [cell_of_row _ _ _ _ _ _ hrow]; rfl
  have q3 : w2.cell? ⟨w.heap.size, 3, none⟩ = some (.slice a n c) := by rw [cell_of_row _ _ _ _ _ _ hrow]; rfl
  have q4 : w2.cell? ⟨w.heap.size, 4, none⟩ = some (.string t) := by rw [cell_of_row _ _ _ _ _ _ hrow]; rfl
  clear hrow hc1 hf1 hc2 hf2 hb1
  have Hb2 := Lib.hid hB2
  clear hb2
  clear hB2 hB1 HC HT HH HE hk hh he
  have hk3 : k = 1 ∨ k = 2 ∨ k = 3 := by omega
  clear k1 k3 d d3

  rcases hk3 with rfl | rfl | rfl
  · by_cases de : 0 < e
    · have d5 : decide (0 < e) = true := by simpa using de
      have hu := Hu.out
      rw [show frameOdd 1 h e n t = true by simp [frameOdd, *]] at hu
      rw [if_pos rfl] at hu
      subst hu
      clear Hu
      go_wp2_with fail
      go_ret
      exact ⟨rfl, Hb2.out⟩
    · have d5 : decide (0 < e) = false := by simpa using de
      cases em : emptyS t with
      | true =>
        have d6 : t.toList.isEmpty = true := em
        have hu := Hu.out
        rw [show frameOdd 1 h e n t = false by simp [frameOdd, *]] at hu
        rw [if_neg (by decide)] at hu
        subst hu
        clear Hu
        go_wp2_with fail
        go_ret
        exact ⟨rfl, Hb2.out⟩
      | false =>
        have d6 : t.toList.isEmpty = false := em
        have hu := Hu.out
        rw [show frameOdd 1 h e n t = true by simp [frameOdd, *]] at hu
        rw [if_pos rfl] at hu
        subst hu
        clear Hu
        go_wp2_with fail
        go_ret
        exact ⟨rfl, Hb2.out⟩
  · by_cases de : 0 < e
    · have d5 : decide (0 < e) = true := by simpa using de
      by_cases dn : 0 < n
      · have d7 : decide (0 < n) = true := by simpa using dn
        have hu := Hu.out
        rw [show frameOdd 2 h e n t = true by simp [frameOdd, *]] at hu
        rw [if_pos rfl] at hu
        subst hu
        clear Hu
        go_wp2_with fail
        go_ret
        exact ⟨rfl, Hb2.out⟩
      · have d7 : decide (0 < n) = false := by simpa using dn
        cases em : emptyS t with
        | true =>
          have d6 : t.toList.isEmpty = true := em
          have hu := Hu.out
          rw [show frameOdd 2 h e n t = false by simp [frameOdd, *]] at hu
          rw [if_neg (by decide)] at hu
          subst hu
          clear Hu
          go_wp2_with fail
          go_ret
          exact ⟨rfl, Hb2.out⟩
        | false =>
          have d6 : t.toList.isEmpty = false := em
          have hu := Hu.out
          rw [show frameOdd 2 h e n t = true by simp [frameOdd, *]] at hu
          rw [if_pos rfl] at hu
          subst hu
          clear Hu
          go_wp2_with fail
          go_ret
          exact ⟨rfl, Hb2.out⟩
    · have d5 : decide (0 < e) = false := by simpa using de
      have hu := Hu.out
      rw [show frameOdd 2 h e n t = true by simp [frameOdd, *]] at hu
      rw [if_pos rfl] at hu
      subst hu
      clear Hu
      go_wp2_with fail
      go_ret
      exact ⟨rfl, Hb2.out⟩
  · by_cases de : 0 < e
    · have d5 : decide (0 < e) = true := by simpa using de
      by_cases dn : 0 < n
      · have d7 : decide (0 < n) = true := by simpa using dn
        have hu := Hu.out
        rw [show frameOdd 3 h e n t = true by simp [frameOdd, *]] at hu
        rw [if_pos rfl] at hu
        subst hu
        clear Hu
        go_wp2_with fail
        go_ret
        exact ⟨rfl, Hb2.out⟩
      · have d7 : decide (0 < n) = false := by simpa using dn
        by_cases dh : 0 < h
        · have d8 : decide (0 < h) = true := by simpa using dh
          have hu := Hu.out
          rw [show frameOdd 3 h e n t = true by simp [frameOdd, *]] at hu
          rw [if_pos rfl] at hu
          subst hu
          clear Hu
          go_wp2_with fail
          go_ret
          exact ⟨rfl, Hb2.out⟩
        · have d8 : decide (0 < h) = false := by simpa using dh
          have hu := Hu.out
          rw [show frameOdd 3 h e n t = false by simp [frameOdd, *]] at hu
          rw [if_neg (by decide)] at hu
          subst hu
          clear Hu
          go_wp2_with fail
          go_ret
          exact ⟨rfl, Hb2.out⟩
    · have d5 : decide (0 < e) = false := by simpa using de
      have hu := Hu.out
      rw [show frameOdd 3 h e n t = true by simp [frameOdd, *]] at hu
      rw [if_pos rfl] at hu
      subst hu
      clear Hu
      go_wp2_with fail
      go_ret
      exact ⟨rfl, Hb2.out⟩
end Go.Proofs.YtkhacogeffidoaaDoor

set_option linter.unusedVariables false
set_option linter.unusedSimpArgs false
namespace Go.Proofs.YtkhacogeffidoaaDoor
open Go.RowKit

structure Fr where
  kind : Int
  heard : Int
  epoch : Int
  op : Op
  text : Str
instance : Rep Fr where
  n := 5
  rd := fun A w f cs => ∃ a n c, cs = [.int .i64 f.kind, .int .i64 f.heard, .int .i64 f.epoch, .slice a n c, .string f.text] ∧ RdS A w f.op a n c ∧ I64 f.kind ∧ I64 f.heard ∧ I64 f.epoch ∧ f.text.size ≤ strMax
  len := fun ⟨_, _, _, h, _⟩ => by rw [h]; rfl
  mono := fun h ⟨a, n, c, e, hr, h2⟩ => ⟨a, n, c, e, hr.mono h, h2⟩
  one := fun ⟨_, _, _, h, _⟩ => by rw [h]; simp [Value.oneCell']
  pos := by decide
def Fr.check (f : Fr) : Int := checkFrame f.kind f.heard f.epoch f.op f.text
/-- a frame whose numbers fit -/
def Fr.fits (f : Fr) : Prop := I64 f.kind ∧ I64 f.heard ∧ I64 f.epoch ∧ f.text.size ≤ strMax
structure Pkt where
  epoch : Int
  number : Int
  bare : Bool
  ack : Int
  f : Fr
def bareFr : Fr := ⟨0, 0, 0, [], noText⟩
instance : Rep Pkt where
  n := 9
  rd := fun A w p cs => ∃ a n c, cs = [.int .i64 p.epoch, .int .i64 p.number, .bool p.bare, .int .i64 p.ack, .int .i64 p.f.kind, .int .i64 p.f.heard, .int .i64 p.f.epoch, .slice a n c, .string p.f.text] ∧ RdS A w p.f.op a n c ∧ I64 p.epoch ∧ I64 p.number ∧ I64 p.ack ∧ p.f.fits
  len := fun ⟨_, _, _, h, _⟩ => by rw [h]; rfl
  mono := fun h ⟨a, n, c, e, hr, h2⟩ => ⟨a, n, c, e, hr.mono h, h2⟩
  one := fun ⟨_, _, _, h, _⟩ => by rw [h]; simp [Value.oneCell']
  pos := by decide
/-- one side of a session -/
structure Lk where
  epoch : Int
  next : Int
  sent : List Fr
  queue : List Fr
  heard : Int
/-- one of two sides that keep a text together -/
structure Ed where
  sent : Int
  heard : Int
  pending : List Op
/-- one frame of a slice of frames -/
theorem RdS.frame {A : Nat → Prop} {w : World} {l : List Fr} {a : Option Addr} {n c : Nat} (hr : RdS A w l a n c) (hn : 0 < n) :
    ∃ b off, a = some ⟨b, off, none⟩ ∧ A b ∧ b < w.heap.size ∧ ∀ i (h : i < l.length), ∃ a' n' c', RdS A w l[i].op a' n' c' ∧ l[i].fits ∧ w.cell? ⟨b, off + i * 5, none⟩ = some (.int .i64 l[i].kind) ∧ w.cell? ⟨b, off + i * 5 + 1, none⟩ = some (.int .i64 l[i].heard) ∧
      w.cell? ⟨b, off + i * 5 + 1 + 1, none⟩ = some (.int .i64 l[i].epoch) ∧ w.cell? ⟨b, off + i * 5 + 1 + 1 + 1, none⟩ = some (.slice a' n' c') ∧ w.cell? ⟨b, off + i * 5 + 1 + 1 + 1 + 1, none⟩ = some (.string l[i].text) := by
  obtain ⟨b, off, e, hA, hb, he⟩ := hr.2.2.2.2 hn
  refine ⟨b, off, e, hA, hb, fun i h => ?_⟩
  obtain ⟨xs, ⟨a', n', c', rfl, h1, h2⟩, h4⟩ := he i l[i] (List.getElem?_eq_getElem h)
  exact ⟨a', n', c', h1, h2, h4 0 _ rfl, h4 1 _ rfl, h4 2 _ rfl, h4 3 _ rfl, h4 4 _ rfl⟩
theorem RdS.rowO {α : Type} [Rep α] {A : Nat → Prop} {w : World} {ls : List (List α)} {a : Option Addr} {n c : Nat} (hr : RdS A w ls a n c) (hn : 0 < n) :
    ∃ b off, a = some ⟨b, off, none⟩ ∧ A b ∧ b < w.heap.size ∧ ∀ i (h : i < ls.length), ∃ a' n' c', RdS A w ls[i] a' n' c' ∧ w.cell? ⟨b, off + i, none⟩ = some (.slice a' n' c') := by
  obtain ⟨b, off, e, hA, hb, he⟩ := hr.2.2.2.2 hn
  refine ⟨b, off, e, hA, hb, fun i h => ?_⟩
  obtain ⟨xs, ⟨a', n', c', rfl, h1⟩, h4⟩ := he i ls[i] (List.getElem?_eq_getElem h)
  have h5 := h4 0 _ rfl
  refine ⟨a', n', c', h1, ?_⟩
  have e1 : off + i * Rep.n (List α) + 0 = off + i := by show off + i * 1 + 0 = off + i; omega
  rw [e1] at h5
  exact h5
end Go.Proofs.YtkhacogeffidoaaDoor

set_option linter.unusedVariables false
set_option linter.unusedSimpArgs false
namespace Go.Proofs.YtkhacogeffidoaaDoor
open Go.RowKit

/-! ### one operation behind many -/
theorem step_ok (u : Bool) {p o : Op} (hp : check p = 0) (ho : check o = 0) (hF : sumF p = sumF o) (hs : sumT p + sumT o ≤ 4000) :
    stepE u p o = 0 ∧ check (stepP u p o) = 0 ∧ check (stepO u p o) = 0 ∧ sumF (stepP u p o) = sumT o ∧ sumF (stepO u p o) = sumT p ∧ sumT (stepP u p o) = sumT (stepO u p o) ∧ ins (stepP u p o) ≤ ins p ∧ ins (stepO u p o) ≤ ins o ∧
    ∀ t : List Nat, (t.length : Int) = sumF p → app (app t (opP p)) (opP (stepO u p o)) = app (app t (opP o)) (opP (stepP u p o)) := by
  cases u with
  | true =>
    have hE := trE_good hp ho hF hs
    obtain ⟨x0, y0, x1, y1, xy, x2, x3, hm, -⟩ := tr_laws hp ho hF hs
    obtain ⟨i1, i2⟩ := tr_ins hp ho hF hs
    have eA : trA p o = trX p o := if_pos hE
    have eB : trB p o = trY p o := if_pos hE
    unfold stepE stepP stepO
    simp only [if_true, eA, eB]
    exact ⟨hE, x0, y0, x1, y1, xy, i1, i2, fun t ht => (hm t ht).symm⟩
  | false =>
    have hs' : sumT o + sumT p ≤ 4000 := by omega
    have hE := trE_good ho hp hF.symm hs'
    obtain ⟨x0, y0, x1, y1, xy, x2, x3, hm, -⟩ := tr_laws ho hp hF.symm hs'
    obtain ⟨i1, i2⟩ := tr_ins ho hp hF.symm hs'
    have eA : trA o p = trX o p := if_pos hE
    have eB : trB o p = trY o p := if_pos hE
    unfold stepE stepP stepO
    simp only [Bool.false_eq_true, if_false, eA, eB]
    exact ⟨hE, y0, x0, y1, x1, xy.symm, i2, i1, fun t ht => hm t (by omega)⟩
def apps : List Nat → List Op → List Nat
  | t, [] => t
  | t, p :: l => apps (app t (opP p)) l
def Fit : List Nat → List Op → Prop
  | _, [] => True
  | t, p :: l => check p = 0 ∧ sumF p = t.length ∧ ins p ≤ 24 ∧ Fit (app t (opP p)) l
theorem app_size {t : List Nat} {p : Op} (h : check p = 0) (hF : sumF p = t.length) : ((app t (opP p)).length : Int) = sumT p := by
  have hI := opIs h
  rw [app_len _ _ (by have := hI.f; omega), hI.t]
theorem apps_app : ∀ (t : List Nat) (a b : List Op), apps t (a ++ b) = apps (apps t a) b
  | _, [], _ => rfl
  | t, p :: a, b => by show apps (app t (opP p)) (a ++ b) = _; rw [apps_app]; rfl
theorem Fit_app : ∀ (t : List Nat) (a b : List Op), Fit t (a ++ b) ↔ Fit t a ∧ Fit (apps t a) b
  | _, [], _ => by simp [Fit, apps]
  | t, p :: a, b => by
    show (check p = 0 ∧ sumF p = t.length ∧ ins p ≤ 24 ∧ Fit (app t (opP p)) (a ++ b)) ↔ _
    rw [Fit_app]
    simp only [Fit, apps]
    constructor
    · rintro ⟨h1, h2, h3, h4, h5⟩; exact ⟨⟨h1, h2, h3, h4⟩, h5⟩
    · rintro ⟨⟨h1, h2, h3, h4⟩, h5⟩; exact ⟨h1, h2, h3, h4, h5⟩
theorem apps_len : ∀ (l : List Op) (t : List Nat), Fit t l → (apps t l).length ≤ t.length + 24 * l.length
  | [], _, _ => by simp [apps]
  | p :: l, t, h => by
    have h1 := apps_len l _ h.2.2.2
    have h2 := app_size h.1 h.2.1
    have h3 := sumT_ins h.1
    have h4 := h.2.1
    have h5 := h.2.2.1
    show (apps (app t (opP p)) l).length ≤ _
    simp only [List.length_cons]
    omega
/-- an operation behind all of P, and P behind it -/
theorem fold_ok (u : Bool) : ∀ (P : List Op) (t : List Nat) (o : Op), Fit t P → check o = 0 → sumF o = t.length → ins o ≤ 24 → t.length + 24 * (P.length + 1) ≤ 1990 →
    foldE u P o = 0 ∧ Fit (app t (opP o)) (foldL u P o) ∧ check (foldO u P o) = 0 ∧ sumF (foldO u P o) = (apps t P).length ∧ ins (foldO u P o) ≤ 24 ∧ app (apps t P) (opP (foldO u P o)) = apps (app t (opP o)) (foldL u P o)
  | [], t, o, _, ho, hF, hi, _ => ⟨rfl, trivial, ho, hF, hi, rfl⟩
  | q :: Q, t, o, hP, ho, hF, hi, hs => by
    obtain ⟨q1, q2, q3, q4⟩ := hP
    have s1 := sumT_ins q1
    have s2 := sumT_ins ho
    simp only [List.length_cons] at hs
    obtain ⟨e0, e1, e2, e3, e4, e5, e6, e7, e8⟩ := step_ok u q1 ho (by omega) (by omega)
    have l1 := app_size q1 q2
    have l2 := app_size ho hF
    obtain ⟨f0, f1, f2, f3, f4, f5⟩ := fold_ok u Q (app t (opP q)) (stepO u q o) q4 e2 (by omega) (by omega) (by omega)
    have hm := e8 t (by omega)
    rw [hm] at f1 f5
    refine ⟨by rw [foldE_cons e0]; exact f0, ⟨e1, by omega, by omega, f1⟩, f2, f3, f4, f5⟩
theorem fold_app (u : Bool) : ∀ (a b : List Op) (o : Op), foldE u a o = 0 → foldE u (a ++ b) o = foldE u b (foldO u a o) ∧ foldL u (a ++ b) o = foldL u a o ++ foldL u b (foldO u a o) ∧ foldO u (a ++ b) o = foldO u b (foldO u a o)
  | [], _, _, _ => ⟨rfl, rfl, rfl⟩
  | p :: a, b, o, h => by
    have h0 : stepE u p o = 0 := by
      by_cases h0 : stepE u p o = 0
      · exact h0
      · rw [foldE_bad h0] at h; exact absurd h h0
    rw [foldE_cons h0] at h
    obtain ⟨f1, f2, f3⟩ := fold_app u a b (stepO u p o) h
    refine ⟨?_, ?_, ?_⟩
    · show foldE u (p :: (a ++ b)) o = _
      rw [foldE_cons h0, f1]; rfl
    · show stepP u p o :: foldL u (a ++ b) (stepO u p o) = _
      rw [f2]; rfl
    · exact f3
theorem step_not (u : Bool) (p q : Op) : stepE u p q = stepE (!u) q p ∧ stepO u p q = stepP (!u) q p ∧ stepP u p q = stepO (!u) q p := by
  cases u <;> exact ⟨rfl, rfl, rfl⟩
theorem foldE_zero {u : Bool} {p : Op} {ps : List Op} {o : Op} (h : foldE u (p :: ps) o = 0) : stepE u p o = 0 ∧ foldE u ps (stepO u p o) = 0 := by
  by_cases h0 : stepE u p o = 0
  · rw [foldE_cons h0] at h; exact ⟨h0, h⟩
  · rw [foldE_bad h0] at h; exact absurd h h0
/-! ### what is on the way -/
/-- frames that are on the way to a side which has L pending, the number a + 1 on, and of which the sender knows; P: the same operations as they are at the sender -/
def flyOK (u : Bool) : Int → List Op → List Fr → List Op → Prop
  | _, _, [], [] => True
  | a, L, f :: F, p :: P => (a ≤ f.heard ∧ f.heard ≤ a + L.length ∧ check f.op = 0 ∧ foldE u (L.drop (f.heard - a).toNat) f.op = 0 ∧ foldO u (L.drop (f.heard - a).toNat) f.op = p) ∧ flyOK u f.heard (foldL u (L.drop (f.heard - a).toNat) f.op) F P
  | _, _, [], _ :: _ => False
  | _, _, _ :: _, [] => False
theorem fly_len {u : Bool} : ∀ {F : List Fr} {P : List Op} {a : Int} {L : List Op}, flyOK u a L F P → F.length = P.length
  | [], [], _, _, _ => rfl
  | f :: F, p :: P, _, _, h => by simp only [List.length_cons]; rw [fly_len h.2]
  | [], _ :: _, _, _, h => h.elim
  | _ :: _, [], _, _, h => h.elim
/-- the sender edits -/
theorem fly_snoc {u : Bool} : ∀ {F : List Fr} {P : List Op} {a : Int} {L : List Op} (g : Fr), flyOK u a L F P → check g.op = 0 → g.heard = a + L.length → flyOK u a L (F ++ [g]) (P ++ [g.op])
  | [], [], a, L, g, _, hb, hg => by
    have hd : L.drop (g.heard - a).toNat = [] := List.drop_of_length_le (by omega)
    show (_ ∧ _ ∧ _ ∧ _ ∧ _) ∧ flyOK u _ _ [] []
    rw [hd]
    exact ⟨⟨by omega, by omega, hb, rfl, rfl⟩, trivial⟩
  | f :: F, p :: P, a, L, g, h, hb, hg => by
    refine ⟨h.1, fly_snoc g h.2 hb ?_⟩
    rw [foldL_length, List.length_drop]
    have h1 := h.1.1
    have h2 := h.1.2.1
    omega
  | [], _ :: _, _, _, _, h, _, _ => h.elim
  | _ :: _, [], _, _, _, h, _, _ => h.elim
/-- the sender hears one more -/
theorem fly_more {u : Bool} : ∀ {F : List Fr} {P : List Op} {a : Int} {L : List Op} (p : Op), flyOK u a L F P → foldE (!u) P p = 0 → flyOK u a (L ++ [p]) F (foldL (!u) P p)
  | [], [], _, _, _, _, _ => trivial
  | f :: F, q :: Q, a, L, p, h, hE => by
    obtain ⟨⟨h1, h2, h3, h4, h5⟩, h6⟩ := h
    obtain ⟨g0, g1⟩ := foldE_zero hE
    obtain ⟨n1, n2, n3⟩ := step_not u p q
    have hd : (L ++ [p]).drop (f.heard - a).toNat = L.drop (f.heard - a).toNat ++ [p] := List.drop_append_of_le_length (by omega)
    obtain ⟨f1, f2, f3⟩ := fold_app u (L.drop (f.heard - a).toNat) [p] f.op h4
    rw [h5] at f1 f2 f3
    have e1 : foldE u [p] q = 0 := by rw [foldE_cons (n1.trans g0)]; rfl
    have ih := fly_more (stepO (!u) q p) h6 g1
    show (_ ∧ _ ∧ _ ∧ _ ∧ _) ∧ flyOK u f.heard _ F (foldL (!u) Q (stepO (!u) q p))
    rw [hd, f1, f2, f3]
    refine ⟨⟨h1, by simp only [List.length_append, List.length_singleton]; push_cast; omega, h3, e1, n2⟩, ?_⟩
    show flyOK u f.heard (foldL u (L.drop (f.heard - a).toNat) f.op ++ [stepP u p q]) F _
    rw [n3]
    exact ih
  | [], _ :: _, _, _, _, h, _ => h.elim
  | _ :: _, [], _, _, _, h, _ => h.elim
/-! ### a side's own order -/
theorem chain_drop : ∀ (k : Nat) (l : List Op), chainFrom none l = true → chainFrom none (l.drop k) = true
  | 0, _, h => h
  | k + 1, [], _ => rfl
  | k + 1, p :: l, h => by
    have hp : check p = 0 := by
      by_cases h0 : check p = 0
      · exact h0
      · rw [chain_bad h0] at h; cases h
    rw [chain_none hp] at h
    have h2 : chainFrom none l = true := by
      cases l with
      | nil => rfl
      | cons q l =>
        have hq : check q = 0 := by
          by_cases h0 : check q = 0
          · exact h0
          · rw [chain_bad h0] at h; cases h
        rw [chain_none hq]
        have hs : sumF q = sumT p := by
          by_cases h0 : sumF q = sumT p
          · exact h0
          · rw [chain_off h0] at h; cases h
        rw [chain_on hq hs] at h
        exact h
    exact chain_drop k l h2
theorem chain_fold (u : Bool) : ∀ (l : List Op) (o : Op) (q : Option Int), foldE u l o = 0 → (∀ t, q = some t → t = sumT o) → chainFrom q (foldL u l o) = true
  | [], _, q, _, _ => rfl
  | p :: l, o, q, h, hq => by
    obtain ⟨g0, g1⟩ := foldE_zero h
    have key : check (stepP u p o) = 0 ∧ sumF (stepP u p o) = sumT o ∧ sumT (stepP u p o) = sumT (stepO u p o) := by
      cases u with
      | true =>
        have h0 : trE p o = 0 := g0
        obtain ⟨-, -, -, c1, c2, eA, eB⟩ := trE_inv h0
        obtain ⟨f1, f2, f3, -, -⟩ := trE_laws h0
        unfold stepP stepO
        simp only [if_true, eA, eB]
        exact ⟨c1, f1, f3⟩
      | false =>
        have h0 : trE o p = 0 := g0
        obtain ⟨-, -, -, c1, c2, eA, eB⟩ := trE_inv h0
        obtain ⟨f1, f2, f3, -, -⟩ := trE_laws h0
        unfold stepP stepO
        simp only [Bool.false_eq_true, if_false, eA, eB]
        exact ⟨c2, f2, f3.symm⟩
    have ih := chain_fold u l (stepO u p o) (some (sumT (stepP u p o))) g1 (fun t ht => by injection ht with ht; omega)
    show chainFrom q (stepP u p o :: foldL u l (stepO u p o)) = true
    cases q with
    | none => rw [chain_none key.1]; exact ih
    | some t =>
      have := hq t rfl
      rw [chain_on key.1 (by omega)]; exact ih
theorem lastT_cons {p q : Op} {l : List Op} : lastT (p :: q :: l) = lastT (q :: l) := by unfold lastT; rw [List.getLast?_cons_cons]
theorem last_fold (u : Bool) : ∀ (l : List Op) (o : Op), foldE u l o = 0 → lastT (foldL u l o) = none ∨ lastT (foldL u l o) = some (sumT (foldO u l o))
  | [], _, _ => .inl rfl
  | [p], o, h => by
    obtain ⟨g0, -⟩ := foldE_zero h
    right
    show lastT [stepP u p o] = some (sumT (stepO u p o))
    have key : sumT (stepP u p o) = sumT (stepO u p o) := by
      cases u with
      | true =>
        have h0 : trE p o = 0 := g0
        obtain ⟨-, -, -, -, -, eA, eB⟩ := trE_inv h0
        unfold stepP stepO
        simp only [if_true, eA, eB]
        exact (trE_laws h0).2.2.1
      | false =>
        have h0 : trE o p = 0 := g0
        obtain ⟨-, -, -, -, -, eA, eB⟩ := trE_inv h0
        unfold stepP stepO
        simp only [Bool.false_eq_true, if_false, eA, eB]
        exact (trE_laws h0).2.2.1.symm
    rw [← key]; rfl
  | p :: q :: l, o, h => by
    obtain ⟨g0, g1⟩ := foldE_zero h
    have ih := last_fold u (q :: l) (stepO u p o) g1
    show lastT (stepP u p o :: stepP u q (stepO u p o) :: foldL u l (stepO u q (stepO u p o))) = none ∨ lastT _ = some (sumT (foldO u (q :: l) (stepO u p o)))
    rw [lastT_cons]
    exact ih
theorem chain_snoc : ∀ (l : List Op) (q : Option Int) (o : Op), chainFrom q l = true → check o = 0 → (l = [] → ∀ t, q = some t → sumF o = t) → (∀ t, lastT l = some t → sumF o = t) → chainFrom q (l ++ [o]) = true
  | [], q, o, _, ho, h1, _ => by
    cases q with
    | none => show chainFrom none [o] = true; rw [chain_none ho]; rfl
    | some t => show chainFrom (some t) [o] = true; rw [chain_on ho (h1 rfl t rfl)]; rfl
  | p :: l, q, o, h, ho, _, h2 => by
    have hp : check p = 0 := by
      by_cases h0 : check p = 0
      · exact h0
      · rw [chain_bad h0] at h; cases h
    have hl : chainFrom (some (sumT p)) l = true := by
      cases q with
      | none => rw [chain_none hp] at h; exact h
      | some t =>
        have hs : sumF p = t := by
          by_cases h0 : sumF p = t
          · exact h0
          · rw [chain_off h0] at h; cases h
        rw [chain_on hp hs] at h; exact h
    have ih := chain_snoc l (some (sumT p)) o hl ho (fun e t ht => by
      subst e; injection ht with ht; subst ht; exact h2 _ rfl) (fun t ht => by
      cases l with
      | nil => cases ht
      | cons r l => exact h2 t (by rw [lastT_cons]; exact ht))
    show chainFrom q (p :: (l ++ [o])) = true
    cases q with
    | none => rw [chain_none hp]; exact ih
    | some t =>
      have hs : sumF p = t := by
        by_cases h0 : sumF p = t
        · exact h0
        · rw [chain_off h0] at h; cases h
      rw [chain_on hp hs]; exact ih
theorem edge_chain {s h : Int} {l : List Op} (hc : edgeCheck s h l = 0) : chainFrom none l = true := by
  unfold edgeCheck at hc
  by_cases ho : edgeOdd s h l
  · rw [if_pos ho] at hc; omega
  · rw [if_neg ho] at hc
    by_cases h1 : chainFrom none l = true
    · exact h1
    · rw [if_neg h1] at hc; omega
theorem edge_mk {s h : Int} {l : List Op} (s0 : 0 ≤ s) (s1 : s ≤ 1048576) (h0 : 0 ≤ h) (h1 : h ≤ 1048576) (hl : (l.length : Int) ≤ s) (hc : chainFrom none l = true) : edgeCheck s h l = 0 := by
  have ho : ¬ edgeOdd s h l := by unfold edgeOdd; omega
  unfold edgeCheck
  rw [if_neg ho, if_pos hc]
end Go.Proofs.YtkhacogeffidoaaDoor

set_option linter.unusedVariables false
set_option linter.unusedSimpArgs false
namespace Go.Proofs.YtkhacogeffidoaaDoor
open Go.RowKit

/-- a side: its text, how many it sent and heard, what is pending, and what is on the way to the other side -/
structure Sd where
  t : Str
  s : Int
  h : Int
  l : List Op
  f : List Fr
structure MeetI (u : Bool) (E : Int) (x y : Sd) (c : List Nat) (L0 P0 L1 P1 : List Op) (a0 a1 : Int) : Prop where
  l0 : x.l = L0 ++ P0
  l1 : y.l = L1 ++ P1
  s0 : x.s = a0 + x.l.length
  s1 : y.s = a1 + y.l.length
  h1 : y.h = a0 + L0.length
  h0 : x.h = a1 + L1.length
  p0 : 0 ≤ a0
  p1 : 0 ≤ a1
  f1 : flyOK u a0 L0 y.f P1
  f0 : flyOK (!u) a1 L1 x.f P0
  fit0 : Fit c P0
  fit1 : Fit c P1
  t0 : checkText x.t = 0
  t1 : checkText y.t = 0
  r0 : rns x.t = apps c P0
  r1 : rns y.t = apps c P1
  len : (c.length : Int) ≤ 20 + 24 * (x.h + y.h)
  many : x.s + y.s ≤ E
  e0 : edgeCheck x.s x.h x.l = 0
  e1 : edgeCheck y.s y.h y.l = 0
  b0 : lastT x.l = none ∨ lastT x.l = some (rc x.t)
  b1 : lastT y.l = none ∨ lastT y.l = some (rc y.t)
def Meet (u : Bool) (E : Int) (x y : Sd) : Prop := ∃ c L0 P0 L1 P1 a0 a1, MeetI u E x y c L0 P0 L1 P1 a0 a1
theorem Meet.swap {u : Bool} {E : Int} {x y : Sd} (h : Meet u E x y) : Meet (!u) E y x := by
  obtain ⟨c, L0, P0, L1, P1, a0, a1, k⟩ := h
  exact ⟨c, L1, P1, L0, P0, a1, a0, ⟨k.l1, k.l0, k.s1, k.s0, k.h0, k.h1, k.p1, k.p0, k.f0, by rw [Bool.not_not]; exact k.f1, k.fit1, k.fit0, k.t1, k.t0, k.r1, k.r0, by have := k.len; omega, by have := k.many; omega, k.e1, k.e0, k.b1, k.b0⟩⟩
theorem Meet.start {T : Str} (h : checkText T = 0) (hr : rc T ≤ 20) : Meet true 0 ⟨T, 0, 0, [], []⟩ ⟨T, 0, 0, [], []⟩ := by
  have e : edgeCheck 0 0 [] = 0 := by decide
  have h2 := rc_rns T
  exact ⟨rns T, [], [], [], [], 0, 0, ⟨rfl, rfl, rfl, rfl, rfl, rfl, by omega, by omega, trivial, trivial, trivial, trivial, h, h, rfl, rfl, by simp only; omega, by simp only; omega, e, e, .inl rfl, .inl rfl⟩⟩
theorem MeetI.counts {u : Bool} {E : Int} {x y : Sd} {c : List Nat} {L0 P0 L1 P1 : List Op} {a0 a1 : Int} (k : MeetI u E x y c L0 P0 L1 P1 a0 a1) : (P0.length : Int) = x.s - y.h ∧ (P1.length : Int) = y.s - x.h ∧ 0 ≤ x.h ∧ 0 ≤ y.h := by
  have h1 := k.s0
  have h2 := k.s1
  have h3 := k.h1
  have h4 := k.h0
  have h5 := k.p0
  have h6 := k.p1
  rw [k.l0, List.length_append] at h1
  rw [k.l1, List.length_append] at h2
  omega
theorem Meet.small {u : Bool} {E : Int} {x y : Sd} (h : Meet u E x y) (hE : E ≤ 30) : checkText x.t = 0 ∧ checkText y.t = 0 ∧ 0 ≤ rc x.t ∧ rc x.t ≤ 1000 ∧ 0 ≤ x.h ∧ x.h ≤ 30 ∧ 0 ≤ x.s ∧ x.s ≤ 30 ∧ edgeCheck x.s x.h x.l = 0 ∧ edgeCheck y.s y.h y.l = 0 ∧ (x.f.length : Int) ≤ 30 ∧ (y.f.length : Int) ≤ 30 := by
  obtain ⟨c, L0, P0, L1, P1, a0, a1, k⟩ := h
  obtain ⟨n1, n2, n3, n4⟩ := k.counts
  have h1 := rc_rns x.t
  rw [k.r0] at h1
  have h2 := apps_len P0 c k.fit0
  have h3 := k.len
  have h4 := k.many
  have h5 := k.p0
  have h6 := k.p1
  have h7 := fly_len k.f0
  have h8 := fly_len k.f1
  have h9 := k.s0
  have h10 := k.s1
  exact ⟨k.t0, k.t1, by omega, by omega, n3, by omega, by omega, by omega, k.e0, k.e1, by omega, by omega⟩
/-- a side edits -/
theorem Meet.edit {u : Bool} {E : Int} {x y : Sd} (h : Meet u E x y) (hE : E + 1 ≤ 30) (o : Op) (ho : check o = 0) (hF : sumF o = rc x.t) (hi : ins o ≤ 24) :
    sendE x.s x.h x.l o = 0 ∧ applyE x.t o = 0 ∧ Meet u (E + 1) ⟨applyS x.t o, x.s + 1, x.h, x.l ++ [o], x.f ++ [⟨0, x.h, 0, o, noText⟩]⟩ y := by
  obtain ⟨-, -, q1, q2, q3, q4, q5, q6, -⟩ := h.small (by omega)
  obtain ⟨c, L0, P0, L1, P1, a0, a1, k⟩ := h
  obtain ⟨n1, n2, n3, n4⟩ := k.counts
  obtain ⟨A1, A2, A3, A4, A5, A6⟩ := apply_good k.t0 ho hF
  have hrn := rns_apply k.t0 ho hF
  have hch := edge_chain k.e0
  obtain ⟨es0, es1, eh0, eh1, els, -⟩ := edgeCheck_all k.e0
  have hlast : ∀ t, lastT x.l = some t → sumF o = t := by
    intro t ht
    rcases k.b0 with h | h
    · rw [h] at ht; cases ht
    · rw [h] at ht; injection ht with ht; omega
  have hS : sendE x.s x.h x.l o = 0 := by
    unfold sendE
    rw [if_neg (by rw [k.e0]; simp), if_neg (by rw [ho]; simp)]
    rcases k.b0 with h | h
    · rw [h]
      simp only
      rw [if_neg (by simp), if_neg (by omega)]
    · rw [h]
      simp only [hF, decide_true]
      rw [if_neg (by simp), if_neg (by omega)]
  refine ⟨hS, A1, c, L0, P0 ++ [o], L1, P1, a0, a1, ⟨?_, k.l1, ?_, k.s1, k.h1, k.h0, k.p0, k.p1, k.f1, ?_, ?_, k.fit1, A5, k.t1, ?_, k.r1, k.len, ?_, ?_, k.e1, ?_, k.b1⟩⟩
  · show x.l ++ [o] = _
    rw [k.l0, List.append_assoc]
  · show x.s + 1 = a0 + ((x.l ++ [o]).length : Nat)
    have := k.s0
    rw [List.length_append, List.length_singleton]; push_cast; omega
  · exact fly_snoc ⟨0, x.h, 0, o, noText⟩ k.f0 ho k.h0
  · rw [Fit_app]
    exact ⟨k.fit0, ho, by rw [hF, rc_rns, k.r0], hi, trivial⟩
  · show rns (applyS x.t o) = apps c (P0 ++ [o])
    rw [hrn, apps_app, k.r0]; rfl
  · show x.s + 1 + y.s ≤ E + 1
    have := k.many; omega
  · refine edge_mk (by show 0 ≤ x.s + 1; omega) (by show x.s + 1 ≤ _; omega) eh0 eh1 ?_ (chain_snoc _ _ _ hch ho (fun _ t ht => by cases ht) hlast)
    show ((x.l ++ [o]).length : Int) ≤ x.s + 1
    rw [List.length_append, List.length_singleton]; push_cast; omega
  · right
    show lastT (x.l ++ [o]) = some (rc (applyS x.t o))
    rw [A4]
    unfold lastT
    rw [List.getLast?_append]
    simp
/-- a side hears the next one -/
theorem Meet.hear {u : Bool} {E : Int} {x y : Sd} {f : Fr} {F : List Fr} (h : Meet u E x y) (hE : E ≤ 30) (hf : y.f = f :: F) :
    ehE x.s x.h x.l f.op f.heard u = 0 ∧ applyE x.t (foldO u (ehD x.s x.l f.heard) f.op) = 0 ∧
    Meet u E ⟨applyS x.t (foldO u (ehD x.s x.l f.heard) f.op), x.s, x.h + 1, foldL u (ehD x.s x.l f.heard) f.op, x.f⟩ ⟨y.t, y.s, y.h, y.l, F⟩ := by
  obtain ⟨-, -, q1, q2, q3, q4, q5, q6, -⟩ := h.small hE
  obtain ⟨c, L0, P0, L1, P1, a0, a1, k⟩ := h
  obtain ⟨n1, n2, n3, n4⟩ := k.counts
  have hfl := k.f1
  rw [hf] at hfl
  cases hP : P1 with
  | nil => rw [hP] at hfl; exact hfl.elim
  | cons p Q1 =>
    rw [hP] at hfl
    obtain ⟨⟨g1, g2, g3, g4, g5⟩, g6⟩ := hfl
    have hfit1 := k.fit1
    rw [hP] at hfit1
    obtain ⟨p1, p2, p3, p4⟩ := hfit1
    have hch := edge_chain k.e0
    obtain ⟨es0, es1, eh0, eh1, els, -⟩ := edgeCheck_all k.e0
    have hm := k.many
    have hlen := k.len
    have hs0 := k.s0
    have hh1 := k.h1
    have hp0 := k.p0
    have hll := congrArg List.length k.l0
    rw [List.length_append] at hll
    -- what stays pending
    have hD : ehD x.s x.l f.heard = L0.drop (f.heard - a0).toNat ++ P0 := by
      unfold ehD
      rw [show f.heard - (x.s - (x.l.length : Int)) = f.heard - a0 by omega, k.l0]
      exact List.drop_append_of_le_length (by omega)
    obtain ⟨w0, w1, w2, w3, w4, w5⟩ := fold_ok u P0 c p k.fit0 p1 p2 p3 (by omega)
    obtain ⟨v1, v2, v3⟩ := fold_app u (L0.drop (f.heard - a0).toNat) P0 f.op g4
    rw [g5] at v1 v2 v3
    have hE0 : ehE0 x.s x.h x.l f.op f.heard = 0 := by
      unfold ehE0
      rw [if_neg (by rw [k.e0]; simp), if_neg (by rw [g3]; simp), if_neg (by omega), if_neg (by omega)]
    have hFE : foldE u (ehD x.s x.l f.heard) f.op = 0 := by rw [hD, v1]; exact w0
    have hEE : ehE x.s x.h x.l f.op f.heard u = 0 := by
      unfold ehE
      rw [if_neg (by rw [hE0]; simp)]; exact hFE
    have hO : foldO u (ehD x.s x.l f.heard) f.op = foldO u P0 p := by rw [hD, v3]
    have hrc : rc x.t = (apps c P0).length := by rw [rc_rns, k.r0]
    have hF : sumF (foldO u P0 p) = rc x.t := by rw [w3, hrc]
    obtain ⟨A1, A2, A3, A4, A5, A6⟩ := apply_good k.t0 w2 hF
    have hrn := rns_apply k.t0 w2 hF
    have hlast := last_fold u (ehD x.s x.l f.heard) f.op hFE
    have hchain := chain_fold u (ehD x.s x.l f.heard) f.op none hFE (fun t ht => by cases ht)
    have hflen : (foldL u (ehD x.s x.l f.heard) f.op).length = (ehD x.s x.l f.heard).length := foldL_length _ _ _
    have hDl : (ehD x.s x.l f.heard).length = L0.length - (f.heard - a0).toNat + P0.length := by rw [hD, List.length_append, List.length_drop]
    have hcl := app_size p1 p2
    have hst := sumT_ins p1
    refine ⟨hEE, by rw [hO]; exact A1, app c (opP p), foldL u (L0.drop (f.heard - a0).toNat) f.op, foldL u P0 p, L1 ++ [p], Q1, f.heard, a1, ?_⟩
    refine ⟨?_, ?_, ?_, k.s1, ?_, ?_, ?_, k.p1, g6, ?_, w1, p4, ?_, k.t1, ?_, ?_, ?_, k.many, ?_, k.e1, ?_, k.b1⟩
    · show foldL u (ehD x.s x.l f.heard) f.op = _
      rw [hD, v2]
    · show y.l = (L1 ++ [p]) ++ Q1
      rw [k.l1, hP, List.append_assoc]; rfl
    · show x.s = f.heard + ((foldL u (ehD x.s x.l f.heard) f.op).length : Nat)
      rw [hflen, hDl]; omega
    · show y.h = f.heard + ((foldL u (L0.drop (f.heard - a0).toNat) f.op).length : Nat)
      rw [foldL_length, List.length_drop]; omega
    · show x.h + 1 = a1 + ((L1 ++ [p]).length : Nat)
      have := k.h0
      rw [List.length_append, List.length_singleton]; push_cast; omega
    · show 0 ≤ f.heard
      omega
    · have := fly_more (u := !u) p k.f0 (by rw [Bool.not_not]; exact w0)
      rw [Bool.not_not] at this
      exact this
    · show checkText (applyS x.t (foldO u (ehD x.s x.l f.heard) f.op)) = 0
      rw [hO]; exact A5
    · show rns (applyS x.t (foldO u (ehD x.s x.l f.heard) f.op)) = _
      rw [hO, hrn, k.r0]; exact w5
    · show rns y.t = _
      rw [k.r1, hP]; rfl
    · show ((app c (opP p)).length : Int) ≤ 20 + 24 * (x.h + 1 + y.h)
      omega
    · refine edge_mk es0 es1 (by show 0 ≤ x.h + 1; omega) (by show x.h + 1 ≤ _; omega) ?_ hchain
      show ((foldL u (ehD x.s x.l f.heard) f.op).length : Int) ≤ x.s
      rw [hflen, hDl]; omega
    · show lastT (foldL u (ehD x.s x.l f.heard) f.op) = none ∨ lastT _ = some (rc (applyS x.t (foldO u (ehD x.s x.l f.heard) f.op)))
      rcases hlast with h | h
      · exact .inl h
      · right
        rw [h, hO, A4]
/-- all is heard -/
theorem Meet.done {u : Bool} {E : Int} {x y : Sd} (h : Meet u E x y) (hx : x.f = []) (hy : y.f = []) : x.t = y.t ∧ x.s = y.h ∧ y.s = x.h := by
  obtain ⟨c, L0, P0, L1, P1, a0, a1, k⟩ := h
  obtain ⟨n1, n2, n3, n4⟩ := k.counts
  have h7 := fly_len k.f0
  have h8 := fly_len k.f1
  rw [hx] at h7
  rw [hy] at h8
  have e0 : P0 = [] := List.eq_nil_of_length_eq_zero h7.symm
  have e1 : P1 = [] := List.eq_nil_of_length_eq_zero h8.symm
  have r0 := k.r0
  have r1 := k.r1
  rw [e0] at r0 n1
  rw [e1] at r1 n2
  refine ⟨?_, by simp at n1; omega, by simp at n2; omega⟩
  rw [← enc_rns (valid_of k.t0).1, ← enc_rns (valid_of k.t1).1, r0, r1]
end Go.Proofs.YtkhacogeffidoaaDoor

set_option linter.unusedVariables false
set_option linter.unusedSimpArgs false
namespace Go.Proofs.YtkhacogeffidoaaDoor
open Go.RowKit

/-- a slice of operations in memory of its own: the row is one of operations -/
def EdL (B : Nat) (l : List Op) (a : Option Addr) (c : Nat) (w : World) : Prop := RdS (fun z => B ≤ z ∧ z < w.heap.size) w l a l.length c ∧ ∀ z, (Value.slice a l.length c).ownBlock = some z → ∃ cs, Blk z (.cells cs 28 (0, 0)) w
theorem EdL.go {B : Nat} {l : List Op} {a : Option Addr} {c : Nat} {w w' : World} (h : EdL B l a c w) (hb : Below w.heap.size w w') : EdL B l a c w' :=
  ⟨h.1.freshB hb, fun z hz => by obtain ⟨cs, hc⟩ := h.2 z hz; exact ⟨cs, hc.go hb⟩⟩
theorem own_typed {X : Nat → Prop} {base e : Nat} {v : Value} {l : List Op} {w : World} (h : Own X base e v l w) : ∀ z, v.ownBlock = some z → ∃ cs, Blk z (.cells cs e (0, 0)) w := by
  obtain ⟨xs, h1, -⟩ := h.row
  rcases h1.2 with ⟨hv, _⟩ | ⟨k, cap, cur, hv, hb, hk, _⟩
  · intro z hz; rw [hv] at hz; cases hz
  · intro z hz
    rw [hv] at hz
    have : k = z := by simpa [Value.ownBlock] using hz
    subst this
    exact ⟨cur, hk⟩
set_option maxRecDepth 100000 in
set_option maxHeartbeats 16000000 in
theorem eh_T (s h : Int) (l : List Op) (o : Op) (k : Int) (u : Bool) (a ao : Option Addr) (n c no co : Nat) (w : World) (hg : Good w) (hr : RdS (· < w.heap.size) w l a n c) (hro : RdS (· < w.heap.size) w o ao no co) (hs : I64 s) (hh : I64 h) (hEE : ehE s h l o k u = 0) :
    Calls Tryd.prog 32 #[.agg #[.int .i64 s, .int .i64 h, .slice a n c], .slice ao no co, .int .i64 k, .bool u] w fun e w' => ∃ a c b d, e = .returned (.tuple #[.agg #[.int .i64 s, .int .i64 (h + 1), .slice a (foldL u (ehD s l k) o).length c], .slice b (foldO u (ehD s l k) o).length d, .int .i64 0]) ∧ EdL w.heap.size (foldL u (ehD s l k) o) a c w' ∧ RdS (fun z => w.heap.size ≤ z ∧ z < w'.heap.size) w' (foldO u (ehD s l k) o) b (foldO u (ehD s l k) o).length d ∧ Below w.heap.size w w' := by
  have hE : ehE0 s h l o k = 0 := by
    by_cases h0 : ehE0 s h l o k = 0
    · exact h0
    · unfold ehE at hEE; rw [if_pos h0] at hEE; exact hEE
  have hFE : foldE u (ehD s l k) o = 0 := by unfold ehE at hEE; rw [if_neg (by rw [hE]; simp)] at hEE; exact hEE
  obtain ⟨e1, e2, e3, e4, e5⟩ := ehE0_zero hE
  obtain ⟨s0, s1, h0, h1, hls, hall⟩ := edgeCheck_all e1
  have hnl := hr.1
  obtain ⟨kk, hkk⟩ : ∃ kk : Nat, k - (s - (n : Int)) = (kk : Int) := ⟨(k - (s - (n : Int))).toNat, by omega⟩
  have hkn : kk ≤ n := by omega
  have hD : ehD s l k = l.drop kk := by unfold ehD; congr 1; omega
  rw [hD] at hFE ⊢
  have hDl : (l.drop kk).length = n - kk := by rw [List.length_drop]; omega
  have HC := Lib.hid (fun W hg hr => edge_any s h l a n c W hg hr hs hh)
  rw [e1] at HC
  have HK := Lib.hid (fun W hg hr => check_go o ao no co W hg hr)
  rw [e2] at HK
  have HW := Lib.hid (fun W hr => own_any s h l a n c W hr (fun o ho => by have := (check_zero (hall o ho)).1; omega) (by omega))
  have hno := hro.1
  subst hno
  have hlo : o.length ≤ 1000000000 := by have := (check_zero e2).1; omega
  have Hcl0 := Lib.hid (fun W hr => clone_any o ao o.length co W hr hlo)
  have Hr := Lib.hid hr
  have Hro := Lib.hid hro
  have Hg := Lib.hid hg
  have HDl := Lib.hid hDl
  have HTr := Lib.hid (fun p q a b c d W hg h1 h2 => transform_tot p q a b p.length c q.length d W hg h1 h2)
  have hh4 : (h == 1048576) = false := by simpa using e5
  have hlk : ¬ k < s - (n : Int) := by omega
  have hns : (n : Int) ≤ s := by omega
  have hks : ¬ s < k := by omega
  have hnc : n ≤ c := hr.2.1
  obtain ⟨DD, hDD⟩ : ∃ DD, DD = l.drop kk := ⟨_, rfl⟩
  rw [← hDD] at hFE ⊢
  have HFE := Lib.hid hFE
  obtain ⟨POST, hPOST⟩ : ∃ POST : Ending → World → Prop, POST = fun e w' => ∃ a c b d, e = .returned (.tuple #[.agg #[.int .i64 s, .int .i64 (h + 1), .slice a (foldL u DD o).length c], .slice b (foldO u DD o).length d, .int .i64 0]) ∧ EdL w.heap.size (foldL u DD o) a c w' ∧ RdS (fun z => w.heap.size ≤ z ∧ z < w'.heap.size) w' (foldO u DD o) b (foldO u DD o).length d ∧ Below w.heap.size w w' := ⟨_, rfl⟩
  rw [← hPOST]
  have HEnd := Lib.hid hPOST
  have H64 := Lib.hid (And.intro s0 (And.intro s1 (And.intro h0 h1)))
  have HOwn : Hid (∀ base v W, Own (fun z => z < base) base 28 v l W → OwnO (fun z => z < base) base v l W) := fun base v W h => OwnO.of h
  have Hl := Lib.hid hnl
  have HDD := Lib.hid hDD
  clear hE hEE hFE hPOST e1 e2 hall hr hro hs hh hls hD hDl hlo hg hnl
  go_enter Tryd.func32, Tryd.ntmps32
  go_wp2_with fail
  refine abs_run (fun W => Below w.heap.size w W ∧ Blk w.heap.size (.cells #[.int .i64 s, .int .i64 h, .slice a n c] 71 (0, 0)) W ∧ Blk (w.heap.size + 1) (.cells #[.int .i64 0, .int .i64 0, .slice none 0 0] 71 (0, 0)) W)
    ⟨by (repeat (first | exact Below.refl _ _ | assumption | (refine Below.drew ?_) | (refine below_drewN ?_ _) | (refine Below.alloc ?_ (by first | (simp; done) | (simp; omega) | omega) _) | (refine Below.setCell ?_ (by first | (simp; done) | (simp; omega) | omega) _) | (refine Below.trans ?_ (Below.mono (by assumption) (by first | (simp; done) | (simp; omega) | omega))))), (Blk.new _ _).alloc _, Blk.at _ _ _ (by simp)⟩ ?_
  rintro w1 ⟨b1, x1, y1⟩
  refine (HC.out _ (Hg.out.go b1) (Hr.out.go b1)).mono ?_
  rintro e w2 ⟨rfl, b2⟩
  have B2 := Lib.hid (up b1 b2)
  have X2 := Lib.hid (x1.go b2)
  have Y2 := Lib.hid (y1.go b2)
  clear b1 x1 y1 b2 HC
  go_wp2_with fail
  refine (HK.out _ (Hg.out.go B2.out) (Hro.out.go B2.out)).mono ?_
  rintro e w3 ⟨rfl, b3⟩
  have B3 := Lib.hid (up B2.out b3)
  have X3 := Lib.hid (X2.out.go b3)
  have Y3 := Lib.hid (Y2.out.go b3)
  clear b3 X2 Y2 B2 HK
  obtain ⟨q0, q1, q2⟩ := blk3_cells X3.out
  go_wp2_with fail
  refine (HW.out _ (Hr.out.go B3.out)).mono ?_
  rintro e w4 ⟨v, rfl, hown, b4⟩
  have B4 := Lib.hid (up B3.out b4)
  have Y4 := Lib.hid (Y3.out.go b4)
  have hz3 := Y3.out.lt
  have hz34 := b4.size
  have HO4 := Lib.hid (HOwn.out _ _ _ hown)
  have hty := own_typed hown
  clear b4 hown X3 Y3 B3 HW q0 q1 q2 HOwn
  obtain ⟨av, cv, rfl, hncv, hcm, hav⟩ := HO4.out.form
  have hln : l.length = n := Hl.out.symm
  rw [hln] at hncv HO4 hty ⊢
  clear hln
  have TY4 := Lib.hid hty
  clear hty
  go_upto_region 14 with fail
  have hOb : ∀ z, (Value.slice av n cv).ownBlock = some z → z < w4.heap.size := fun z hz => (HO4.out.rowlt z hz).2
  refine abs_w (fun W => Below w4.heap.size w4 W ∧ Blk w4.heap.size (.cells #[.int .i64 s, .int .i64 (h + 1), .slice av n cv] 71 (0, 0)) W) ⟨by (repeat (first | exact Below.refl _ _ | assumption | (refine Below.drew ?_) | (refine below_drewN ?_ _) | (refine Below.alloc ?_ (by first | (simp; done) | (simp; omega) | omega) _) | (refine Below.setCell ?_ (by first | (simp; done) | (simp; omega) | omega) _) | (refine Below.trans ?_ (Below.mono (by assumption) (by first | (simp; done) | (simp; omega) | omega))))), Blk.new w4 _⟩ ?_
  rintro w5 ⟨b5, z5⟩
  have B5 := Lib.hid (up B4.out b5)
  have Y5 := Lib.hid (Y4.out.go b5)
  have Z5 := Lib.hid z5
  have HO5 : Hid (OwnO (fun z => z < w3.heap.size ∨ z = w4.heap.size) w3.heap.size (.slice av n cv) l w5) := (HO4.out.more (X' := fun z => z < w3.heap.size ∨ z = w4.heap.size) (fun z hz h => by rcases h with h | h <;> omega)).go b5
  have TY5 : Hid (∀ z, (Value.slice av n cv).ownBlock = some z → ∃ cs, Blk z (.cells cs 28 (0, 0)) w5) := fun z hz => by obtain ⟨cs, hc⟩ := TY4.out z hz; exact ⟨cs, hc.go b5⟩
  clear TY4
  have hOne : Hid (∀ z, (Value.slice av n cv).ownBlock = some z → z ≠ w4.heap.size) := fun z hz e => by have := hOb z hz; omega
  have hz45 := z5.lt
  clear b5 z5 Y4 B4 HO4 hOb
  obtain ⟨S1, HS1⟩ : ∃ S1 : World → Prop, Hid (S1 = fun W => ∃ a' n' c', Blk w4.heap.size (.cells #[.int .i64 s, .int .i64 (h + 1), .slice a' n' c'] 71 (0, 0)) W ∧ n' = n - kk ∧ OwnO (fun z => z < w3.heap.size ∨ z = w4.heap.size) w3.heap.size (.slice a' n' c') DD W ∧ (∀ z, (Value.slice a' n' c').ownBlock = some z → z ≠ w4.heap.size) ∧ (∀ z, (Value.slice a' n' c').ownBlock = some z → ∃ cs, Blk z (.cells cs 28 (0, 0)) W) ∧ Blk (w.heap.size + 1) (.cells #[.int .i64 0, .int .i64 0, .slice none 0 0] 71 (0, 0)) W ∧ Below w.heap.size w W) := ⟨_, rfl⟩
  have Hmk : Hid (∀ a' n' c', n' = n - kk → OwnO (fun z => z < w3.heap.size ∨ z = w4.heap.size) w3.heap.size (.slice a' n' c') DD w5 → (Value.slice a' n' c').ownBlock = (Value.slice av n cv).ownBlock → S1 (w5.setCell ⟨w4.heap.size, 2, none⟩ (.slice a' n' c'))) := by
    intro a' n' c' hn' hO hb
    rw [HS1.out]
    have t := touch1 (w := w5) (g := w4.heap.size) (i := 2) (.slice a' n' c')
    have bz := B5.out.size
    exact ⟨a', n', c', Z5.out.set 2 _, hn', hO.touch t (fun k _ hs => ⟨.inr hs, fun e => hOne.out k (by rw [← hb]; exact e) hs⟩), fun z hz => hOne.out z (by rw [← hb]; exact hz), (fun z hz => by obtain ⟨cs, hc⟩ := TY5.out z (by rw [← hb]; exact hz); exact ⟨cs, hc.touch t (fun e => hOne.out z (by rw [← hb]; exact hz) e)⟩), Y5.out.touch t (by omega), B5.out.trans (t.toBelow bz (fun z hz => by omega))⟩
  obtain ⟨q0, q1, q2⟩ := blk3_cells Z5.out
  have qf := Z5.out.frozen
  have hI : k - (s - (n : Int)) = (kk : Int) := hkk
  have hh2 : h + 1 ≤ 1048576 := by omega
  go_cut [] from 56 to 62 (fun W => S1 W)
  case first =>
    have hrow := HO5.out.row
    rcases hrow with ⟨a', hv, hl0, -⟩ | ⟨g, off, cap, hv, -, -, hcap, -⟩
    · injection hv with e1 e2 e3
      subst e1 e3
      have hk0 : kk = 0 := by omega
      have hal : Option.map (fun x : Addr => x.add 0) av = av := by cases av <;> simp [Addr.add]
      have G := Lib.hid (Hmk.out av 0 0 (by omega) (by rw [HDD.out, hk0]; rw [e2] at HO5; exact HO5.out) (by cases av <;> rfl))
      clear Hmk HO5 hOne TY5 hkk e2
      subst hk0
      have hn00 : (0 : Int) ≤ (n : Int) := by omega
      go_wp2_with fail
      go_meet
      case rel => exact G.out
    · injection hv with e1 e2 e3
      subst e1 e3
      rw [← e2] at hcap
      clear e2
      have hkI : (kk : Int) ≤ (n : Int) := by omega
      by_cases hkc : kk < cv
      · have hcI : (n : Int) ≤ (cv : Int) := by omega
        have e6 : off + kk * Rep.n Op = off + kk := by show off + kk * 1 = off + kk; omega
        have G := Lib.hid (Hmk.out (some ⟨g, off + kk, none⟩) (n - kk) (cv - kk) rfl (by rw [HDD.out]; have := HO5.out.drop_in hkn hkc; rwa [e6] at this) rfl)
        clear Hmk HO5 hOne TY5
        go_wp2_with fail
        go_meet
        case rel => exact G.out
      · have hk0 : kk = n := by omega
        have hc0 : cv = n := by omega
        have G := Lib.hid (Hmk.out (some ⟨g, off, none⟩) 0 0 (by omega) (by rw [HDD.out]; exact HO5.out.drop_all hk0) rfl)
        clear Hmk HO5 hOne TY5
        go_wp2_with fail
        go_meet
        case rel => exact G.out
  case rest =>
    rw [HS1.out] at hcut
    obtain ⟨a6, n6, c6, z6, hn6, o6, ne6, ty6, y6, b6⟩ := hcut
    have TY6 := Lib.hid ty6
    obtain ⟨w6, rfl⟩ : ∃ x : World, x = wc := ⟨_, rfl⟩
    have B6 := Lib.hid b6
    have Y6 := Lib.hid y6
    have Z6 := Lib.hid z6
    have O6 := Lib.hid o6
    have N6 := Lib.hid ne6
    have hz6 := z6.lt
    have hn6b : n6 ≤ 1048576 := by omega
    have Hn6 := Lib.hid hn6
    clear hn6 b6 y6 z6 o6 ne6 ty6 TY5 HS1 Hmk HO5 Y5 Z5 B5 hOne q0 q1 q2 qf
    go_wp2_with fail
    refine (Hcl0.out _ (Hro.out.go B6.out)).mono ?_
    rintro e w7 ⟨a7, c7, rfl, r7, b7⟩
    have B7 := Lib.hid (up B6.out b7)
    have Y7 := Lib.hid (Y6.out.go b7)
    have Z7 := Lib.hid (Z6.out.go b7)
    have O7 := Lib.hid (O6.out.go b7)
    have TY7 : Hid (∀ z, (Value.slice a6 n6 c6).ownBlock = some z → ∃ cs, Blk z (.cells cs 28 (0, 0)) w7) := fun z hz => by obtain ⟨cs, hc⟩ := TY6.out z hz; exact ⟨cs, hc.go b7⟩
    clear TY6
    have hz67 := b7.size
    have R7 : Hid (RdS (fun z => w3.heap.size ≤ z ∧ z < w7.heap.size ∧ z ≠ w4.heap.size ∧ (Value.slice a6 n6 c6).ownBlock ≠ some z) w7 o a7 o.length c7) := r7.mono fun z hz => ⟨⟨by omega, hz.2, by omega, fun e => by have := (O6.out.rowlt z e).2; omega⟩, rfl⟩
    clear b7 r7 B6 Y6 Z6 O6 Hcl0
    obtain ⟨q0, q1, q2⟩ := blk3_cells Z7.out
    go_wp2_with fail
    go_loopw [1, 68] (fun vo vi wr => ∃ (i : Nat) (dn : List Op) (oc : Op) (ac : Option Addr) (cc : Nat), i ≤ n6 ∧ vi = .int .i64 i ∧ vo = .slice ac oc.length cc ∧ dn.length = i ∧ foldE u DD o = foldE u (DD.drop i) oc ∧ foldL u DD o = dn ++ foldL u (DD.drop i) oc ∧ foldO u DD o = foldO u (DD.drop i) oc ∧
      Below w.heap.size w wr ∧ Blk (w.heap.size + 1) (.cells #[.int .i64 0, .int .i64 0, .slice none 0 0] 71 (0, 0)) wr ∧ Blk w4.heap.size (.cells #[.int .i64 s, .int .i64 (h + 1), .slice a6 n6 c6] 71 (0, 0)) wr ∧ OwnO (fun z => z < w3.heap.size ∨ z = w4.heap.size) w3.heap.size (.slice a6 n6 c6) (dn ++ DD.drop i) wr ∧
      RdS (fun z => w3.heap.size ≤ z ∧ z < wr.heap.size ∧ z ≠ w4.heap.size ∧ (Value.slice a6 n6 c6).ownBlock ≠ some z) wr oc ac oc.length cc ∧ (∀ z, (Value.slice a6 n6 c6).ownBlock = some z → ∃ cs, Blk z (.cells cs 28 (0, 0)) wr)) (fun _ i _ => n6 - (intOf i).toNat)
    case atStart => exact ⟨0, [], o, a7, c7, by omega, rfl, rfl, rfl, by simp, by simp, by simp, B7.out, Y7.out, Z7.out, by simpa using O7.out, R7.out, TY7.out⟩
    case round =>
      obtain ⟨i, dn, oc, ac, cc, hi, rfl, rfl, hdn, f1, f2, f3, b8, y8, z8, o8, r8, ty8⟩ := hrel
      have TY8 := Lib.hid ty8
      clear ty8 TY7
      clear B7 Y7 Z7 O7 R7 q0 q1 q2
      have B8 := Lib.hid b8
      have Y8 := Lib.hid y8
      have Z8 := Lib.hid z8
      have O8 := Lib.hid o8
      have R8 := Lib.hid r8
      have F8 := Lib.hid (And.intro f1 (And.intro f2 f3))
      clear b8 y8 z8 o8 r8 f1 f2 f3
      have hDl : DD.length = n6 := by rw [HDD.out, HDl.out, Hn6.out]
      by_cases hlt : i < n6
      · have hiD : i < DD.length := by omega
        have hdr := Lib.hid (List.drop_eq_getElem_cons hiD)
        obtain ⟨pa, pn, hpv, hprd⟩ := O8.out.rd (A := fun z => w3.heap.size ≤ z ∧ z < wr.heap.size ∧ z ≠ w4.heap.size) (fun b hb hx => ⟨by omega, hb, fun e => hx (.inr e)⟩) (fun z hz => ⟨(O8.out.rowlt z hz).1, (O8.out.rowlt z hz).2, N6.out z hz⟩)
        injection hpv with g1 g2 g3
        subst g1 g3
        have hll : (dn ++ DD.drop i).length = n6 := by rw [List.length_append, List.length_drop]; omega
        rw [hll] at hprd
        obtain ⟨g, off, rfl, hAg, hgz, hcs⟩ := hprd.row (by omega)
        obtain ⟨pa', pn', pc', hpr, hpc⟩ := hcs i (by omega)
        have hgi : (dn ++ DD.drop i)[i]'(by omega) = DD[i] := by
          rw [List.getElem_append_right (by omega)]
          simp [hdn]
        rw [hgi] at hpr
        have hpn := hpr.1
        subst hpn
        generalize hpp : DD[i] = p at *
        have HPR := Lib.hid hpr
        have hzz := Z8.out.lt
        have hw3 : w.heap.size ≤ w3.heap.size := by omega
        clear hcs hprd hpr hgi g2
        have GD := Lib.hid (Hg.out.go B8.out)
        have hZ3 := Y8.out.lt
        have hx0 := Z8.out.frozen
        cases u with
        | true =>
          go_wp2_with fail
          refine (HTr.out p oc pa' ac pc' cc _ GD.out (HPR.out.wide fun z hz => hz.2.1) (R8.out.wide fun z hz => hz.2.1)).mono ?_
          rintro e w9 ⟨a1, c1, a2, c2, rfl, hA, hB, b9⟩
          have B9 := Lib.hid (up B8.out b9)
          have Y9 := Lib.hid (Y8.out.go b9)
          have Z9 := Lib.hid (Z8.out.go b9)
          have O9 := Lib.hid (O8.out.go b9)
          have TY9 : Hid (∀ z, (Value.slice (some ⟨g, off, none⟩) n6 c6).ownBlock = some z → ∃ cs, Blk z (.cells cs 28 (0, 0)) w9) := fun z hz => by obtain ⟨cs, hc⟩ := TY8.out z hz; exact ⟨cs, hc.go b9⟩
          clear TY8
          have hz9 := b9.size
          have RA := Lib.hid hA
          have RB := Lib.hid hB
          clear b9 hA hB B8 Y8 Z8 O8 R8 HPR GD
          have hsE : stepE true p oc = trE p oc := rfl
          by_cases hE : trE p oc = 0
          · have F9 : foldE true DD o = foldE true (DD.drop (i + 1)) (trB p oc) ∧ foldL true DD o = (dn ++ [trA p oc]) ++ foldL true (DD.drop (i + 1)) (trB p oc) ∧ foldO true DD o = foldO true (DD.drop (i + 1)) (trB p oc) := by
              obtain ⟨f1, f2, f3⟩ := F8.out
              rw [f1, f2, f3, hdr.out]
              refine ⟨foldE_cons (hsE.trans hE), ?_, rfl⟩
              simp [foldL, stepP, stepO]
            have FF := Lib.hid F9
            have hset : (dn ++ DD.drop i).set i (trA p oc) = (dn ++ [trA p oc]) ++ DD.drop (i + 1) := by
              rw [hdr.out, List.set_append_right _ _ (by omega), hdn, Nat.sub_self]
              simp
            have Hset := Lib.hid hset
            rw [hE] at *
            clear F9 hset hE hsE F8 hdr
            generalize trA p oc = pA at *
            generalize trB p oc = oB at *
            obtain ⟨q0, q1, q2⟩ := blk3_cells Z9.out
            have hff : w9.frozen? ⟨g, off + i, none⟩ = false := by
              rcases O9.out.row with ⟨a', hv, hl0, -⟩ | ⟨g', off', cap, hv, -, -, hcap, -, h5, -⟩
              · injection hv with _ e2 _
                omega
              · injection hv with e1 e2 e3
                injection e1 with e1
                injection e1 with e4 e5
                subst e4 e5
                exact (h5 i (by show i < cap * 1; omega)).2
            have hcc : (w9.cell? ⟨g, off + i, none⟩).isSome = true := by
              rcases O9.out.row with ⟨a', hv, hl0, -⟩ | ⟨g', off', cap, hv, -, -, hcap, -, h5, -⟩
              · injection hv with _ e2 _
                omega
              · injection hv with e1 e2 e3
                injection e1 with e1
                injection e1 with e4 e5
                subst e4 e5
                exact (h5 i (by show i < cap * 1; omega)).1
            obtain ⟨vc, hvc⟩ := Option.isSome_iff_exists.1 hcc
            have hgne : g ≠ w4.heap.size := N6.out g rfl
            have hg3 := (O9.out.rowlt g rfl).1
            have hg9 : g < w9.heap.size := (O9.out.rowlt g rfl).2
            go_wp2_with fail
            case roundEnd =>
              have hT := touch1 (w := w9) (g := g) (i := off + i) (.slice a1 pA.length c1)
              have hO := O9.out.set i (by omega) pA a1 pA.length c1 (RA.out.mono fun z hz => ⟨⟨hz.2, fun h => by rcases h with h | h <;> omega, by omega⟩, rfl⟩)
              rw [Hset.out] at hO
              have hty : ∀ z, (Value.slice (some ⟨g, off, none⟩) n6 c6).ownBlock = some z → ∃ cs, Blk z (.cells cs 28 (0, 0)) (w9.setCell ⟨g, off + i, none⟩ (.slice a1 pA.length c1)) := fun z hz => by
                obtain ⟨cs, hc⟩ := TY9.out z hz
                have e' : g = z := by simpa [Value.ownBlock] using hz
                subst e'
                exact ⟨_, hc.set (off + i) _⟩
              have hzT := hT.size
              generalize w9.setCell ⟨g, off + i, none⟩ (.slice a1 pA.length c1) = WS at *
              have bz := B9.out.size
              refine ⟨⟨i + 1, dn ++ [pA], oB, _, _, by omega, by push_cast; rfl, rfl, by simp [hdn], FF.out.1, FF.out.2.1, FF.out.2.2, B9.out.trans (hT.toBelow bz (fun z hz => by omega)), Y9.out.touch hT (by omega), Z9.out.touch hT (fun e => hgne e.symm), hO, RB.out.mono fun z hz => ⟨⟨by omega, by omega, by omega, fun e => by
                have e' : g = z := by simpa [Value.ownBlock] using e
                omega⟩, hT.block z hz.2 (by omega)⟩, hty⟩, ?_⟩
              simp [intOf]
              omega
          · have hEE : foldE true DD o = trE p oc := by
              rw [F8.out.1, hdr.out]
              exact foldE_bad (fun h => hE (hsE.symm.trans h))
            exact absurd (hEE.symm.trans HFE.out) hE
        | false =>
          go_wp2_with fail
          refine (HTr.out oc p ac pa' cc pc' _ GD.out (R8.out.wide fun z hz => hz.2.1) (HPR.out.wide fun z hz => hz.2.1)).mono ?_
          rintro e w9 ⟨a1, c1, a2, c2, rfl, hA, hB, b9⟩
          have B9 := Lib.hid (up B8.out b9)
          have Y9 := Lib.hid (Y8.out.go b9)
          have Z9 := Lib.hid (Z8.out.go b9)
          have O9 := Lib.hid (O8.out.go b9)
          have TY9 : Hid (∀ z, (Value.slice (some ⟨g, off, none⟩) n6 c6).ownBlock = some z → ∃ cs, Blk z (.cells cs 28 (0, 0)) w9) := fun z hz => by obtain ⟨cs, hc⟩ := TY8.out z hz; exact ⟨cs, hc.go b9⟩
          clear TY8
          have hz9 := b9.size
          have RA := Lib.hid hB
          have RB := Lib.hid hA
          clear b9 hA hB B8 Y8 Z8 O8 R8 HPR GD
          have hsE : stepE false p oc = trE oc p := rfl
          by_cases hE : trE oc p = 0
          · have F9 : foldE false DD o = foldE false (DD.drop (i + 1)) (trA oc p) ∧ foldL false DD o = (dn ++ [trB oc p]) ++ foldL false (DD.drop (i + 1)) (trA oc p) ∧ foldO false DD o = foldO false (DD.drop (i + 1)) (trA oc p) := by
              obtain ⟨f1, f2, f3⟩ := F8.out
              rw [f1, f2, f3, hdr.out]
              refine ⟨foldE_cons (hsE.trans hE), ?_, rfl⟩
              simp [foldL, stepP, stepO]
            have FF := Lib.hid F9
            have hset : (dn ++ DD.drop i).set i (trB oc p) = (dn ++ [trB oc p]) ++ DD.drop (i + 1) := by
              rw [hdr.out, List.set_append_right _ _ (by omega), hdn, Nat.sub_self]
              simp
            have Hset := Lib.hid hset
            rw [hE] at *
            clear F9 hset hE hsE F8 hdr
            generalize trB oc p = pA at *
            generalize trA oc p = oB at *
            obtain ⟨q0, q1, q2⟩ := blk3_cells Z9.out
            have hff : w9.frozen? ⟨g, off + i, none⟩ = false := by
              rcases O9.out.row with ⟨a', hv, hl0, -⟩ | ⟨g', off', cap, hv, -, -, hcap, -, h5, -⟩
              · injection hv with _ e2 _
                omega
              · injection hv with e1 e2 e3
                injection e1 with e1
                injection e1 with e4 e5
                subst e4 e5
                exact (h5 i (by show i < cap * 1; omega)).2
            have hcc : (w9.cell? ⟨g, off + i, none⟩).isSome = true := by
              rcases O9.out.row with ⟨a', hv, hl0, -⟩ | ⟨g', off', cap, hv, -, -, hcap, -, h5, -⟩
              · injection hv with _ e2 _
                omega
              · injection hv with e1 e2 e3
                injection e1 with e1
                injection e1 with e4 e5
                subst e4 e5
                exact (h5 i (by show i < cap * 1; omega)).1
            obtain ⟨vc, hvc⟩ := Option.isSome_iff_exists.1 hcc
            have hgne : g ≠ w4.heap.size := N6.out g rfl
            have hg3 := (O9.out.rowlt g rfl).1
            have hg9 : g < w9.heap.size := (O9.out.rowlt g rfl).2
            go_wp2_with fail
            case roundEnd =>
              have hT := touch1 (w := w9) (g := g) (i := off + i) (.slice a2 pA.length c2)
              have hO := O9.out.set i (by omega) pA a2 pA.length c2 (RA.out.mono fun z hz => ⟨⟨hz.2, fun h => by rcases h with h | h <;> omega, by omega⟩, rfl⟩)
              rw [Hset.out] at hO
              have hty : ∀ z, (Value.slice (some ⟨g, off, none⟩) n6 c6).ownBlock = some z → ∃ cs, Blk z (.cells cs 28 (0, 0)) (w9.setCell ⟨g, off + i, none⟩ (.slice a2 pA.length c2)) := fun z hz => by
                obtain ⟨cs, hc⟩ := TY9.out z hz
                have e' : g = z := by simpa [Value.ownBlock] using hz
                subst e'
                exact ⟨_, hc.set (off + i) _⟩
              have hzT := hT.size
              generalize w9.setCell ⟨g, off + i, none⟩ (.slice a2 pA.length c2) = WS at *
              have bz := B9.out.size
              refine ⟨⟨i + 1, dn ++ [pA], oB, _, _, by omega, by push_cast; rfl, rfl, by simp [hdn], FF.out.1, FF.out.2.1, FF.out.2.2, B9.out.trans (hT.toBelow bz (fun z hz => by omega)), Y9.out.touch hT (by omega), Z9.out.touch hT (fun e => hgne e.symm), hO, RB.out.mono fun z hz => ⟨⟨by omega, by omega, by omega, fun e => by
                have e' : g = z := by simpa [Value.ownBlock] using e
                omega⟩, hT.block z hz.2 (by omega)⟩, hty⟩, ?_⟩
              simp [intOf]
              omega
          · have hEE : foldE false DD o = trE oc p := by
              rw [F8.out.1, hdr.out]
              exact foldE_bad (fun h => hE (hsE.symm.trans h))
            exact absurd (hEE.symm.trans HFE.out) hE
      · have hiN : i = n6 := by omega
        obtain ⟨a9, c9, hpv9, hprd⟩ := O8.out.rd (A := fun z => w.heap.size ≤ z ∧ z < wr.heap.size ∧ z ≠ w.heap.size + 1) (fun b hb hx => ⟨by omega, hb, fun e => hx (.inl (by omega))⟩) (fun z hz => ⟨by have := (O8.out.rowlt z hz).1; omega, (O8.out.rowlt z hz).2, by have := (O8.out.rowlt z hz).1; omega⟩)
        have hdz : DD.drop i = [] := List.drop_of_length_le (by omega)
        rw [hdz, List.append_nil] at hprd hpv9
        injection hpv9 with g1 g2 g3
        subst g1 g3
        obtain ⟨f1, f2, f3⟩ := F8.out
        rw [hdz] at f1 f2 f3
        simp only [foldE, foldL, foldO, List.append_nil] at f1 f2 f3
        have FF := Lib.hid (And.intro f1 (And.intro f2 f3))
        have RP := Lib.hid hprd
        have hgl := Lib.hid g2
        have ROW := Lib.hid O8.out.rowlt
        clear f1 f2 f3 hprd hdz g2 F8 O8
        obtain ⟨q0, q1, q2⟩ := blk3_cells Z8.out
        obtain ⟨j0, j1, j2⟩ := blk3_cells Y8.out
        have jf := Y8.out.frozen
        have hy8 := Y8.out.lt
        have hz8 := B8.out.size
        have hyz := Y8.out.lt
        have hbad : ¬ ((i : Int) < (n6 : Int)) := by omega
        subst hiN
        go_wp2_with fail
        have GE := eh_end Y8.out B8.out (by omega) (.int .i64 s) (.int .i64 (h + 1)) (.slice a6 i c6)
        have hT := touch3 (g := w.heap.size + 1) (w := wr) (.int .i64 s) (.int .i64 (h + 1)) (.slice a6 i c6)
        refine abs_ret (fun W => Blk (w.heap.size + 1) (.cells #[.int .i64 s, .int .i64 (h + 1), .slice a6 i c6] 71 (0, 0)) W ∧ Below w.heap.size w W ∧ Touch (fun z => z = w.heap.size + 1) wr W) ⟨GE.1, GE.2, hT⟩ ?_
        rintro W ⟨hB, hW, hTW⟩
        obtain ⟨k0, k1, k2⟩ := blk3_cells hB
        refine bodyPost_ret (v := .tuple #[.agg #[.int .i64 s, .int .i64 (h + 1), .slice a6 i c6], .slice ac oc.length cc, .int .i64 0]) (by simp [results, Tryd.results32, go_sem, k0, k1, k2]) rfl ?_
        rw [HEnd.out, FF.out.2.1, FF.out.2.2]
        refine ⟨a6, c6, ac, cc, by rw [hdn], ⟨?_, ?_⟩, ?_, hW⟩
        · rw [hdn]
          have hRP := RP.out
          rw [hdn] at hRP
          exact hRP.mono fun z hz => ⟨⟨hz.1, Nat.lt_of_lt_of_le hz.2.1 hTW.size⟩, hTW.block z hz.2.1 hz.2.2⟩
        · rw [hdn]
          intro z hz
          obtain ⟨cs, hc⟩ := TY8.out z hz
          have := (ROW.out z hz).1
          exact ⟨cs, hc.touch hTW (by omega)⟩
        · exact R8.out.mono fun z hz => ⟨⟨by omega, Nat.lt_of_lt_of_le hz.2.1 hTW.size⟩, hTW.block z hz.2.1 (by omega)⟩
end Go.Proofs.YtkhacogeffidoaaDoor

set_option linter.unusedVariables false
set_option linter.unusedSimpArgs false
namespace Go.Proofs.YtkhacogeffidoaaDoor
open Go.RowKit

section
variable {α : Type} [Rep α] {X X' : Nat → Prop} {base : Nat} {v : Value} {l : List α} {w w' : World}
theorem OwnO.keepTo (h : OwnO X base v l w) (hs : w.heap.size ≤ w'.heap.size) (hk : ∀ k, k < w.heap.size → (¬ X k ∨ v.ownBlock = some k) → w'.heap[k]? = w.heap[k]?) (hX : ∀ k, k < w.heap.size → X' k → X k) : OwnO X' base v l w' := by
  rcases h.row with ⟨a, hv, hl, h2⟩ | ⟨g, off, cap, hv, h1, h2, h3, h4, h5, h6⟩
  · exact ⟨.inl ⟨a, hv, hl, fun k hk => ⟨(h2 k hk).1, Nat.lt_of_lt_of_le (h2 k hk).2 hs⟩⟩⟩
  · have hg := hk g h2 (.inr (by rw [hv]; rfl))
    refine ⟨.inr ⟨g, off, cap, hv, h1, Nat.lt_of_lt_of_le h2 hs, h3, h4, fun j hj => ?_, h6.imp hg fun b hb => ⟨⟨Nat.lt_of_lt_of_le hb.1 hs, fun hx => hb.2.1 (hX b hb.1 hx), hb.2.2⟩, hk b hb.1 (.inl hb.2.1)⟩⟩⟩
    rw [cell_keep hg, World.frozen?_of_block (a := ⟨g, off + j, none⟩) hg]
    exact h5 j hj
end
/-- what neither the block nor the two rows hold -/
def PC (base g : Nat) (vx vy : Value) (w : World) (z : Nat) : Prop := base ≤ z ∧ z < w.heap.size ∧ z ≠ g ∧ vx.ownBlock ≠ some z ∧ vy.ownBlock ≠ some z
abbrev pairCells (x y : Sd) (ax : Option Addr) (cx : Nat) (ay : Option Addr) (cy : Nat) (ux uy : Value) : Array Value := #[.string x.t, .string y.t, .int .i64 x.s, .int .i64 x.h, .slice ax x.l.length cx, .int .i64 y.s, .int .i64 y.h, .slice ay y.l.length cy, ux, uy]
structure PairG (base g : Nat) (x y : Sd) (ux uy vx vy : Value) (w : World) : Prop where
  box : ∃ ax cx ay cy, Blk g (.cells (pairCells x y ax cx ay cy ux uy) 86 (0, 0)) w ∧ RdS (PC base g vx vy w) w x.l ax x.l.length cx ∧ RdS (PC base g vx vy w) w y.l ay y.l.length cy
  fx : OwnO (fun z => z < base ∨ z = g ∨ vy.ownBlock = some z) base vx x.f w
  fy : OwnO (fun z => z < base ∨ z = g ∨ vx.ownBlock = some z) base vy y.f w
  gb : base ≤ g
  nx : ∀ z, vx.ownBlock = some z → z ≠ g ∧ vy.ownBlock ≠ some z
  ny : ∀ z, vy.ownBlock = some z → z ≠ g
abbrev PairM (base g : Nat) (x y : Sd) (vx vy : Value) (w : World) : Prop := PairG base g x y vx vy vx vy w
section
variable {base g : Nat} {x y : Sd} {ux uy vx vy : Value} {w w' : World}
theorem PairG.lt (h : PairG base g x y ux uy vx vy w) : g < w.heap.size := by
  obtain ⟨_, _, _, _, b, -⟩ := h.box
  exact b.lt
theorem PairG.go (h : PairG base g x y ux uy vx vy w) (hb : Below w.heap.size w w') : PairG base g x y ux uy vx vy w' := by
  obtain ⟨ax, cx, ay, cy, b, r1, r2⟩ := h.box
  have hm : ∀ z, PC base g vx vy w z → PC base g vx vy w' z ∧ w'.heap[z]? = w.heap[z]? := fun z hz => ⟨⟨hz.1, Nat.lt_of_lt_of_le hz.2.1 hb.size, hz.2.2⟩, hb.block z hz.2.1⟩
  exact ⟨⟨ax, cx, ay, cy, b.go hb, r1.mono hm, r2.mono hm⟩, h.fx.go hb, h.fy.go hb, h.gb, h.nx, h.ny⟩
/-- all but the block stands behind a store into it -/
theorem PairG.rest (h : PairG base g x y ux uy vx vy w) (ht : Touch (fun z => z = g) w w') : (∃ ax cx ay cy, Blk g (.cells (pairCells x y ax cx ay cy ux uy) 86 (0, 0)) w ∧ RdS (PC base g vx vy w') w' x.l ax x.l.length cx ∧ RdS (PC base g vx vy w') w' y.l ay y.l.length cy) ∧
    OwnO (fun z => z < base ∨ z = g ∨ vy.ownBlock = some z) base vx x.f w' ∧ OwnO (fun z => z < base ∨ z = g ∨ vx.ownBlock = some z) base vy y.f w' := by
  obtain ⟨ax, cx, ay, cy, b, r1, r2⟩ := h.box
  have hm : ∀ z, PC base g vx vy w z → PC base g vx vy w' z ∧ w'.heap[z]? = w.heap[z]? := fun z hz => ⟨⟨hz.1, Nat.lt_of_lt_of_le hz.2.1 ht.size, hz.2.2⟩, ht.block z hz.2.1 hz.2.2.1⟩
  exact ⟨⟨ax, cx, ay, cy, b, r1.mono hm, r2.mono hm⟩, h.fx.touch ht (fun k _ hs => ⟨.inr (.inl hs), fun e => (h.nx k e).1 hs⟩), h.fy.touch ht (fun k _ hs => ⟨.inr (.inl hs), fun e => h.ny k e hs⟩)⟩
/-- the first side's slice grows -/
theorem PairG.growx {v' : Value} {fr : Fr} (h : PairG base g x y ux uy vx vy w) (hg : w.grownBy w' vx.ownBlock) (ho : OwnO (fun z => z < base ∨ z = g ∨ vy.ownBlock = some z) base v' (x.f ++ [fr]) w') (hv : ∀ k, v'.ownBlock = some k → vx.ownBlock = some k ∨ w.heap.size ≤ k) : PairG base g ⟨x.t, x.s, x.h, x.l, x.f ++ [fr]⟩ y ux uy v' vy w' := by
  obtain ⟨ax, cx, ay, cy, b, r1, r2⟩ := h.box
  have hl := h.lt
  have hm : ∀ z, PC base g vx vy w z → PC base g v' vy w' z ∧ w'.heap[z]? = w.heap[z]? := fun z hz => ⟨⟨hz.1, Nat.lt_of_lt_of_le hz.2.1 hg.size, hz.2.2.1, fun e => by
    rcases hv z e with e' | e'
    · exact hz.2.2.2.1 e'
    · have := hz.2.1; omega, hz.2.2.2.2⟩, hg.block z hz.2.1 (fun e => hz.2.2.2.1 e.symm)⟩
  refine ⟨⟨ax, cx, ay, cy, b.grown hg (fun e => (h.nx g e.symm).1 rfl), r1.mono hm, r2.mono hm⟩, ho, ?_, h.gb, fun z hz => ?_, h.ny⟩
  · refine h.fy.keepTo hg.size (fun k hk hx => hg.block k hk fun e => ?_) (fun k hk hx => ?_)
    · rcases hx with hx | hx
      · exact hx (.inr (.inr e.symm))
      · exact (h.nx k e.symm).2 hx
    · rcases hx with hx | hx | hx
      · exact .inl hx
      · exact .inr (.inl hx)
      · rcases hv k hx with e' | e'
        · exact .inr (.inr e')
        · omega
  · rcases hv z hz with e' | e'
    · exact h.nx z e'
    · exact ⟨by omega, fun e => by have := (h.fy.rowlt z e).2; omega⟩
/-- .. the second side's -/
theorem PairG.growy {v' : Value} {fr : Fr} (h : PairG base g x y ux uy vx vy w) (hg : w.grownBy w' vy.ownBlock) (ho : OwnO (fun z => z < base ∨ z = g ∨ vx.ownBlock = some z) base v' (y.f ++ [fr]) w') (hv : ∀ k, v'.ownBlock = some k → vy.ownBlock = some k ∨ w.heap.size ≤ k) : PairG base g x ⟨y.t, y.s, y.h, y.l, y.f ++ [fr]⟩ ux uy vx v' w' := by
  obtain ⟨ax, cx, ay, cy, b, r1, r2⟩ := h.box
  have hl := h.lt
  have hxy : ∀ z, vy.ownBlock = some z → vx.ownBlock ≠ some z := fun z hz e => (h.nx z e).2 hz
  have hm : ∀ z, PC base g vx vy w z → PC base g vx v' w' z ∧ w'.heap[z]? = w.heap[z]? := fun z hz => ⟨⟨hz.1, Nat.lt_of_lt_of_le hz.2.1 hg.size, hz.2.2.1, hz.2.2.2.1, fun e => by
    rcases hv z e with e' | e'
    · exact hz.2.2.2.2 e'
    · have := hz.2.1; omega⟩, hg.block z hz.2.1 (fun e => hz.2.2.2.2 e.symm)⟩
  refine ⟨⟨ax, cx, ay, cy, b.grown hg (fun e => h.ny g e.symm rfl), r1.mono hm, r2.mono hm⟩, ?_, ho, h.gb, fun z hz => ⟨(h.nx z hz).1, fun e => ?_⟩, fun z hz => ?_⟩
  · refine h.fx.keepTo hg.size (fun k hk hx => hg.block k hk fun e => ?_) (fun k hk hx => ?_)
    · rcases hx with hx | hx
      · exact hx (.inr (.inr e.symm))
      · exact hxy k e.symm hx
    · rcases hx with hx | hx | hx
      · exact .inl hx
      · exact .inr (.inl hx)
      · rcases hv k hx with e' | e'
        · exact .inr (.inr e')
        · omega
  · rcases hv z e with e' | e'
    · exact (h.nx z hz).2 e'
    · have := (h.fx.rowlt z hz).2; omega
  · rcases hv z hz with e' | e'
    · exact h.ny z e'
    · omega
theorem PairG.put {ux' uy' : Value} (h : PairG base g x y ux uy vx vy w) (ht : Touch (fun z => z = g) w w') (hb : ∀ ax cx ay cy, Blk g (.cells (pairCells x y ax cx ay cy ux uy) 86 (0, 0)) w → Blk g (.cells (pairCells x y ax cx ay cy ux' uy') 86 (0, 0)) w') : PairG base g x y ux' uy' vx vy w' := by
  obtain ⟨⟨ax, cx, ay, cy, b, r1, r2⟩, o1, o2⟩ := h.rest ht
  exact ⟨⟨ax, cx, ay, cy, hb _ _ _ _ b, r1, r2⟩, o1, o2, h.gb, h.nx, h.ny⟩
end
theorem EdL.offE {B : Nat} {l : List Op} {a : Option Addr} {c g : Nat} {w w' : World} (h : EdL B l a c w) (hz : Blk g (.cells zeroEd 71 (0, 0)) w) (ht : Touch (fun z => z = g) w w') : EdL B l a c w' := by
  have hr : ∀ k, (Value.slice a l.length c).ownBlock = some k → k ≠ g := by
    intro k hk e
    obtain ⟨cs, hc⟩ := h.2 k hk
    subst e
    have e2 := Option.some.inj (hc.symm.trans hz)
    injection e2 with e3 e4
    exact absurd e4 (by decide)
  refine ⟨?_, fun z hz' => by
    obtain ⟨cs, hc⟩ := h.2 z hz'
    exact ⟨cs, hc.touch ht (hr z hz')⟩⟩
  obtain ⟨h1, h2, h3, h4, h5⟩ := h.1
  refine ⟨h1, h2, h3, h4, fun hn => ?_⟩
  obtain ⟨b, off, e, hA, hb, he⟩ := h5 hn
  have hbg := hr b (by rw [e]; rfl)
  refine ⟨b, off, e, ⟨hA.1, Nat.lt_of_lt_of_le hA.2 ht.size⟩, Nat.lt_of_lt_of_le hb ht.size, fun i x hx => ?_⟩
  obtain ⟨ys, ⟨a', n', c', e', hrd⟩, h3'⟩ := he i x hx
  exact ⟨ys, ⟨a', n', c', e', (ed_parts_off hrd (zeroEd_nostr hz)).mono fun z hz => ⟨⟨hz.1.1, Nat.lt_of_lt_of_le hz.1.2 ht.size⟩, ht.block z hz.1.2 hz.2⟩⟩, fun j u hu => (cell_keep (ht.block b hb hbg)).trans (h3' j u hu)⟩
theorem RdS.offEf {B : Nat} {o : Op} {a : Option Addr} {n c g : Nat} {w w' : World} (h : RdS (fun z => B ≤ z ∧ z < w.heap.size) w o a n c) (hz : Blk g (.cells zeroEd 71 (0, 0)) w) (ht : Touch (fun z => z = g) w w') : RdS (fun z => B ≤ z ∧ z < w'.heap.size) w' o a n c :=
  (ed_parts_off h (zeroEd_nostr hz)).mono fun z hz => ⟨⟨hz.1.1, Nat.lt_of_lt_of_le hz.1.2 ht.size⟩, ht.block z hz.1.2 hz.2⟩
theorem own_rdf {B : Nat} {v : Value} {l : List Op} {w : World} (h : Own (· < B) B 28 v l w) : ∃ a c, v = .slice a l.length c ∧ RdS (fun z => B ≤ z ∧ z < w.heap.size) w l a l.length c := by
  obtain ⟨a, c, hv, hr⟩ := h.rd (fun k hk hx => by have := (h.rowlt k hk).1; have hx2 : k < B := hx; omega)
  exact ⟨a, c, hv, hr.mono fun b hb => ⟨⟨Nat.le_of_not_lt hb.2, hb.1⟩, rfl⟩⟩
theorem blk10_cells {w : World} {g T : Nat} {c0 c1 c2 c3 c4 c5 c6 c7 c8 c9 : Value} (h : Blk g (.cells #[c0, c1, c2, c3, c4, c5, c6, c7, c8, c9] T (0, 0)) w) : w.cell? ⟨g, 0, none⟩ = some c0 ∧ w.cell? ⟨g, 1, none⟩ = some c1 ∧ w.cell? ⟨g, 2, none⟩ = some c2 ∧ w.cell? ⟨g, 3, none⟩ = some c3 ∧ w.cell? ⟨g, 4, none⟩ = some c4 ∧ w.cell? ⟨g, 5, none⟩ = some c5 ∧ w.cell? ⟨g, 6, none⟩ = some c6 ∧ w.cell? ⟨g, 7, none⟩ = some c7 ∧ w.cell? ⟨g, 8, none⟩ = some c8 ∧ w.cell? ⟨g, 9, none⟩ = some c9 :=
  ⟨h.cell 0, h.cell 1, h.cell 2, h.cell 3, h.cell 4, h.cell 5, h.cell 6, h.cell 7, h.cell 8, h.cell 9⟩
end Go.Proofs.YtkhacogeffidoaaDoor
