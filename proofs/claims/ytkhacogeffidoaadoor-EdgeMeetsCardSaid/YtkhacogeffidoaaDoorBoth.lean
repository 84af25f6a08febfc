/- The walks of text.both and text.fits. -/
import Derived.Test.YtkhacogeffidoaaDoorSubP
set_option linter.unusedVariables false
set_option linter.unusedSimpArgs false
namespace Go.Proofs.YtkhacogeffidoaaDoor
open Go.RowKit

def bothE (a b : Op) : Int := if check a ≠ 0 then check a else if check b ≠ 0 then check b else if sumF a ≠ sumF b then 10 else 0
theorem bothE_zero {a b : Op} : bothE a b = 0 ↔ check a = 0 ∧ check b = 0 ∧ sumF a = sumF b := by
  unfold bothE
  by_cases h1 : check a = 0
  · by_cases h2 : check b = 0
    · by_cases h3 : sumF a = sumF b <;> simp [h1, h2, h3]
    · simp [h1, h2]
  · simp [h1]

set_option maxHeartbeats 1000000 in
theorem both_any (o q : Op) (a b : Option Addr) (n c m d : Nat) (w : World) (hg : Good w) (h1 : RdS (· < w.heap.size) w o a n c) (h2 : RdS (· < w.heap.size) w q b m d) :
    Calls Tryd.prog 66 #[.slice a n c, .slice b m d] w fun e w' => e = .returned (.int .i64 (bothE o q)) ∧ Below w.heap.size w w' := by
  have C1 := Lib.hid (check_go o a n c w hg h1)
  have C2 := Lib.hid (fun W (hW : Below w.heap.size w W) => check_go q b m d W (hg.go hW) (h2.go hW))
  generalize hR : bothE o q = R
  unfold bothE at hR
  by_cases e1 : check o = 0
  · rw [if_neg (by simpa using e1)] at hR
    rw [e1] at C1
    by_cases e2 : check q = 0
    · rw [if_neg (by simpa using e2)] at hR
      rw [e2] at C2
      have L1 := Lib.hid (fun W (hW : Below w.heap.size w W) => lengths_go o a n c W (h1.go hW) e1)
      have L2 := Lib.hid (fun W (hW : Below w.heap.size w W) => lengths_go q b m d W (h2.go hW) e2)
      clear h1 h2 e1 e2 hg
      generalize sumF o = x at *
      generalize sumT o = x' at *
      generalize sumF q = y at *
      generalize sumT q = y' at *
      have HR := Lib.hid hR
      clear hR
      by_cases e3 : x = y
      · have hne : (x != y) = false := by simp [e3]
        have H0 : Hid (R = 0) := by unfold Hid; rw [← HR.out, if_neg (by simpa using e3)]
        clear e3 HR
        go_enter Tryd.func66, Tryd.ntmps66
        go_wp2_with fail
        refine C1.out.mono ?_
        rintro e w1 ⟨rfl, u1⟩
        go_wp2_with fail
        refine (C2.out _ u1).mono ?_
        rintro e w2 ⟨rfl, u2⟩
        have v2 := up u1 u2
        go_wp2_with fail
        refine (L1.out _ v2).mono ?_
        rintro e w3 ⟨rfl, u3⟩
        have v3 := up v2 u3
        go_wp2_with fail
        refine (L2.out _ v3).mono ?_
        rintro e w4 ⟨rfl, u4⟩
        have v4 := up v3 u4
        go_wp2_with fail
        go_ret
        exact ⟨ret_int H0.out.symm, v4⟩
      · have hne : (x != y) = true := by simpa using e3
        have H0 : Hid (R = 10) := by unfold Hid; rw [← HR.out, if_pos e3]
        clear e3 HR
        go_enter Tryd.func66, Tryd.ntmps66
        go_wp2_with fail
        refine C1.out.mono ?_
        rintro e w1 ⟨rfl, u1⟩
        go_wp2_with fail
        refine (C2.out _ u1).mono ?_
        rintro e w2 ⟨rfl, u2⟩
        have v2 := up u1 u2
        go_wp2_with fail
        refine (L1.out _ v2).mono ?_
        rintro e w3 ⟨rfl, u3⟩
        have v3 := up v2 u3
        go_wp2_with fail
        refine (L2.out _ v3).mono ?_
        rintro e w4 ⟨rfl, u4⟩
        have v4 := up v3 u4
        go_wp2_with fail
        go_ret
        exact ⟨ret_int H0.out.symm, v4⟩
    · rw [if_pos e2] at hR
      have hne : (check q != 0) = true := by simpa using e2
      have HR := Lib.hid hR
      clear h1 h2 e1 e2 hg hR
      generalize check q = C at *
      go_enter Tryd.func66, Tryd.ntmps66
      go_wp2_with fail
      refine C1.out.mono ?_
      rintro e w1 ⟨rfl, u1⟩
      go_wp2_with fail
      refine (C2.out _ u1).mono ?_
      rintro e w2 ⟨rfl, u2⟩
      have v2 := up u1 u2
      go_wp2_with fail
      go_ret
      exact ⟨ret_int HR.out, v2⟩
  · rw [if_pos e1] at hR
    have hne : (check o != 0) = true := by simpa using e1
    have HR := Lib.hid hR
    clear h1 h2 e1 hg hR C2
    generalize check o = C at *
    go_enter Tryd.func66, Tryd.ntmps66
    go_wp2_with fail
    refine C1.out.mono ?_
    rintro e w1 ⟨rfl, u1⟩
    go_wp2_with fail
    go_ret
    exact ⟨ret_int HR.out, u1⟩

set_option maxHeartbeats 2000000 in
theorem fits_ok (o q : Op) (a b : Option Addr) (n c m d : Nat) (w : World) (hg : Good w) (h1 : RdS (· < w.heap.size) w o a n c) (h2 : RdS (· < w.heap.size) w q b m d) (e1 : check o = 0) (e2 : check q = 0) :
    Calls Tryd.prog 68 #[.slice a n c, .slice b m d] w fun e w' => e = .returned (.tuple #[.slice a n c, .slice b m d, .int .i64 0]) ∧ Below w.heap.size w w' := by
  have C1 := Lib.hid (fun W (hW : Below w.heap.size w W) => check_go o a n c W (hg.go hW) (h1.go hW))
  have C2 := Lib.hid (fun W (hW : Below w.heap.size w W) => check_go q b m d W (hg.go hW) (h2.go hW))
  rw [e1] at C1
  rw [e2] at C2
  clear e1 e2 h1 h2 hg
  go_enter Tryd.func68, Tryd.ntmps68
  go_wp2_with fail
  refine abs_w (fun W => Below w.heap.size w W ∧ Blk w.heap.size (.cells #[.slice a n c, .slice b m d] 28 (0, 0)) W) ⟨by (repeat (first | exact Below.refl _ _ | assumption | (refine Below.drew ?_) | (refine below_drewN ?_ _) | (refine Below.alloc ?_ (by first | (simp; done) | (simp; omega) | omega) _) | (refine Below.setCell ?_ (by first | (simp; done) | (simp; omega) | omega) _) | (refine Below.trans ?_ (Below.mono (by assumption) (by first | (simp; done) | (simp; omega) | omega))))), Blk.new _ _⟩ ?_
  rintro w1 ⟨u1, x1⟩
  have H1 := Lib.hid u1
  have X1 := Lib.hid x1
  clear u1 x1
  go_loopw [14] (fun i wr => ∃ k : Nat, k ≤ 2 ∧ i = .int .i64 k ∧ Below w.heap.size w wr ∧ Blk w.heap.size (.cells #[.slice a n c, .slice b m d] 28 (0, 0)) wr) (fun i _ => 2 - (intOf i).toNat)
  case atStart => exact ⟨0, by omega, rfl, H1.out, X1.out⟩
  case round =>
    obtain ⟨k, hk, rfl, hb, hx⟩ := hrel
    clear H1 X1
    have c0 : wr.cell? ⟨w.heap.size, 0, none⟩ = some (.slice a n c) := hx.cell 0
    have c1 : wr.cell? ⟨w.heap.size, 1, none⟩ = some (.slice b m d) := hx.cell 1
    have HB := Lib.hid hb
    have HX := Lib.hid hx
    clear hb hx
    match k, hk with
    | 0, _ =>
      go_wp2_with fail
      refine (C1.out _ HB.out).mono ?_
      rintro e w2 ⟨rfl, u2⟩
      have HB2 := Lib.hid (up HB.out u2)
      have HX2 := Lib.hid (HX.out.go u2)
      clear u2
      go_wp2_with fail
      go_roundw
      case rel => exact ⟨1, by omega, by go_num, HB2.out, HX2.out⟩
      case measure => simp [intOf]
    | 1, _ =>
      go_wp2_with fail
      refine (C2.out _ HB.out).mono ?_
      rintro e w2 ⟨rfl, u2⟩
      have HB2 := Lib.hid (up HB.out u2)
      have HX2 := Lib.hid (HX.out.go u2)
      clear u2
      go_wp2_with fail
      go_roundw
      case rel => exact ⟨2, by omega, by go_num, HB2.out, HX2.out⟩
      case measure => simp [intOf]
    | 2, _ =>
      go_wp2_with fail
      go_ret3
      exact ⟨rfl, HB.out⟩
/-- what fits refuses -/
def fitE (o q : Op) : Int := if check o ≠ 0 then check o else check q
set_option maxHeartbeats 2000000 in
theorem fits_bad (o q : Op) (a b : Option Addr) (n c m d : Nat) (w : World) (hg : Good w) (h1 : RdS (· < w.heap.size) w o a n c) (h2 : RdS (· < w.heap.size) w q b m d) (hE : fitE o q ≠ 0) :
    Calls Tryd.prog 68 #[.slice a n c, .slice b m d] w fun e w' => e = .returned (.tuple #[.slice none 0 0, .slice none 0 0, .int .i64 (fitE o q)]) ∧ Below w.heap.size w w' := by
  have C1 := Lib.hid (fun W (hW : Below w.heap.size w W) => check_go o a n c W (hg.go hW) (h1.go hW))
  have C2 := Lib.hid (fun W (hW : Below w.heap.size w W) => check_go q b m d W (hg.go hW) (h2.go hW))
  unfold fitE at hE ⊢
  generalize check o = e1 at *
  generalize check q = e2 at *
  have HE := Lib.hid hE
  obtain ⟨F, hF⟩ : ∃ F, F = if e1 ≠ 0 then e1 else e2 := ⟨_, rfl⟩
  rw [← hF]
  have HF := Lib.hid hF
  clear h1 h2 hg hE hF
  go_enter Tryd.func68, Tryd.ntmps68
  go_wp2_with fail
  refine abs_w (fun W => Below w.heap.size w W ∧ Blk w.heap.size (.cells #[.slice a n c, .slice b m d] 28 (0, 0)) W) ⟨by (repeat (first | exact Below.refl _ _ | assumption | (refine Below.drew ?_) | (refine below_drewN ?_ _) | (refine Below.alloc ?_ (by first | (simp; done) | (simp; omega) | omega) _) | (refine Below.setCell ?_ (by first | (simp; done) | (simp; omega) | omega) _) | (refine Below.trans ?_ (Below.mono (by assumption) (by first | (simp; done) | (simp; omega) | omega))))), Blk.new _ _⟩ ?_
  rintro w1 ⟨u1, x1⟩
  have H1 := Lib.hid u1
  have X1 := Lib.hid x1
  clear u1 x1
  go_loopw [14] (fun i wr => ∃ k : Nat, k ≤ 1 ∧ i = .int .i64 k ∧ (k = 1 → e1 = 0) ∧ Below w.heap.size w wr ∧ Blk w.heap.size (.cells #[.slice a n c, .slice b m d] 28 (0, 0)) wr) (fun i _ => 1 - (intOf i).toNat)
  case atStart => exact ⟨0, by omega, rfl, fun h => by omega, H1.out, X1.out⟩
  case round =>
    obtain ⟨k, hk, rfl, hk1, hb, hx⟩ := hrel
    clear H1 X1
    have c0 : wr.cell? ⟨w.heap.size, 0, none⟩ = some (.slice a n c) := hx.cell 0
    have c1 : wr.cell? ⟨w.heap.size, 1, none⟩ = some (.slice b m d) := hx.cell 1
    have HB := Lib.hid hb
    have HX := Lib.hid hx
    have Hk1 := Lib.hid hk1
    clear hb hx hk1
    match k, hk with
    | 0, _ =>
      by_cases h0 : e1 = 0
      · have hb0 : (e1 != 0) = false := by simpa using h0
        have H0 := Lib.hid h0
        clear h0
        go_wp2_with fail
        refine (C1.out _ HB.out).mono ?_
        rintro e w2 ⟨rfl, u2⟩
        have HB2 := Lib.hid (up HB.out u2)
        have HX2 := Lib.hid (HX.out.go u2)
        clear u2
        go_wp2_with fail
        go_roundw
        case rel => exact ⟨1, by omega, by go_num, fun _ => H0.out, HB2.out, HX2.out⟩
        case measure => simp [intOf]
      · have hb0 : (e1 != 0) = true := by simpa using h0
        have hf := HF.out
        rw [if_pos h0] at hf
        subst hf
        clear h0
        go_wp2_with fail
        refine (C1.out _ HB.out).mono ?_
        rintro e w2 ⟨rfl, u2⟩
        have HB2 := Lib.hid (up HB.out u2)
        clear u2
        go_wp2_with fail
        go_ret3
        exact ⟨rfl, HB2.out⟩
    | 1, _ =>
      have h0 : e1 = 0 := Hk1.out rfl
      have he := HE.out
      rw [if_neg (by simpa using h0)] at he
      have hf := HF.out
      rw [if_neg (by simpa using h0)] at hf
      subst hf
      have hb0 : (F != 0) = true := by simpa using he
      clear h0 he
      go_wp2_with fail
      refine (C2.out _ HB.out).mono ?_
      rintro e w2 ⟨rfl, u2⟩
      have HB2 := Lib.hid (up HB.out u2)
      clear u2
      go_wp2_with fail
      go_ret3
      exact ⟨rfl, HB2.out⟩
end Go.Proofs.YtkhacogeffidoaaDoor
