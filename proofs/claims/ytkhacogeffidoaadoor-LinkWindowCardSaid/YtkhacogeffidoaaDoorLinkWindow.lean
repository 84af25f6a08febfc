/- The walk of LinkWindow. -/
import Derived.Test.YtkhacogeffidoaaDoorWinLaw
set_option linter.unusedVariables false
set_option linter.unusedSimpArgs false
namespace Go.Proofs.YtkhacogeffidoaaDoor
open Go.RowKit

set_option maxRecDepth 100000 in
set_option maxHeartbeats 8000000 in
theorem linkWindow_walk (w : World) (hg : Good w) (na : Int) (hna : I64 na) :
    Calls Tryd.prog 3 #[.int .i64 na] w fun e w' => e = .returned (.bool true) ∧ Below w.heap.size w w' := by
  have hkr := pk_range na 30 (by omega)
  have HP := Lib.hid (fun W => (picked_any na 30 W hna (by omega) (by omega)).mono fun e w' (h : e = .returned (.int .i64 (pk na 30)) ∧ W = w') => (⟨h.1, h.2 ▸ Below.refl _ _⟩ : e = .returned (.int .i64 (pk na 30)) ∧ Below W.heap.size W w'))
  generalize pk na 30 = KI at *
  obtain ⟨K, rfl⟩ : ∃ k : Nat, KI = (k : Int) := ⟨KI.toNat, by omega⟩
  have hK : K ≤ 29 := by omega
  have HPl := Lib.hid (fun W => plug_any 1 W (by omega) (by omega))
  have Hg := Lib.hid hg
  clear hkr hg hna
  go_enter Tryd.func3, Tryd.ntmps3
  go_wp2_with fail
  refine (HP.out _).mono ?_
  rintro e w1 ⟨rfl, b1⟩
  have B1 := Lib.hid b1
  clear b1 HP
  go_wp2_with fail
  refine (HPl.out _).mono ?_
  rintro e w2 ⟨g, rfl, m2, b2⟩
  have B2 := Lib.hid (up B1.out b2)
  have hz01 := B1.out.size
  have hz12 := b2.size
  have M2 := Lib.hid m2
  have hbase := m2.gb
  have e0 : openLk 1 = lkW 0 := by unfold openLk lkW; simp
  have HC0 : Hid ((cab0 1).e0 = lkW 0) := e0
  clear b2 m2 B1 HPl e0
  go_wp2_with fail
  go_loopw [5, 6] (fun ok vi wr => ∃ (i : Nat) (c : Cb) (vs : Nat → Value), i ≤ K ∧ ok = .bool true ∧ vi = .int .i64 (i : Int) ∧ Below w.heap.size w wr ∧ c.e0 = lkW i ∧ c.f1.length = min i 8 ∧ c.s0.length = i ∧ CabM w1.heap.size g c vs wr) (fun _ vi _ => K - (intOf vi).toNat)
  case atStart => exact ⟨0, cab0 1, _, by omega, rfl, rfl, B2.out, HC0.out, rfl, rfl, M2.out⟩
  case round =>
    obtain ⟨i, c, vs, hi, rfl, rfl, b4, hc, hf1, hs0, m4⟩ := hrel
    clear B2 M2 HC0
    have B4 := Lib.hid b4
    have M4 := Lib.hid m4
    have hgw := m4.lt
    clear b4 m4
    by_cases hlt : i < K
    · obtain ⟨l1, l2, l3⟩ := lkW_send (k := i) (by omega)
      obtain ⟨n1, n2⟩ := lkW_len i
      have hlt' : (i : Int) < (K : Int) := by omega
      have hi30 : (i : Int) ≤ 30 := by omega
      have HSd := Lib.hid (fun W (hW : Good W) (h : CabM w1.heap.size g c vs W) => cab_send0 w1.heap.size g c vs (jw i) none 0 W hW h (RdS.nil _ _) (by rw [hc]; exact lkW_fits (by omega)) (jw_fits i (by omega)) (by rw [hc]; omega) (by rw [hc]; omega) (by omega) (by omega))
      rw [hc, l1, l2] at HSd
      have hb0 : ((0 : Int) == 0) = true := rfl
      rw [hb0] at HSd
      have HJ := Lib.hid (show (jw i).kind = 2 ∧ (jw i).heard = 0 ∧ (jw i).epoch = (i : Int) + 1 ∧ (jw i).op = [] ∧ (jw i).text = noText from ⟨rfl, rfl, rfl, rfl, rfl⟩)
      simp only [jw] at HSd
      have Hl3 := Lib.hid l3
      have Hf1 := Lib.hid hf1
      have Hs0 := Lib.hid hs0
      clear l1 l2 l3 n1 n2 hc hf1 hs0 hb0
      go_wp2_with fail
      refine (HSd.out _ (Hg.out.go B4.out) M4.out).mono ?_
      rintro e w5 ⟨rfl, ⟨vs5, m5⟩, hb⟩
      have B5 := Lib.hid (B4.out.trans ((Touch.of_belowC hb).toBelow (by have := B4.out.size; omega) (fun z hz => by omega)))
      have M5 := Lib.hid m5
      clear hb m5 B4 M4 HSd
      go_wp2_with fail
      case roundEnd =>
        refine ⟨⟨i + 1, _, vs5, by omega, rfl, by push_cast; rfl, B5.out, ?_, ?_, ?_, M5.out⟩, ?_⟩
        · rfl
        · show (c.f1 ++ (lkW i).sendP (jw i)).length = min (i + 1) 8
          rw [List.length_append, Hl3.out, Hf1.out]; omega
        · show (c.s0 ++ [jw i]).length = i + 1
          rw [List.length_append, Hs0.out]; rfl
        · simp [intOf]
          omega
    · have hiK : i = K := by omega
      subst hiK
      obtain ⟨n1, n2⟩ := lkW_len i
      obtain ⟨a0, c0, b0, d0, a1, c1, b1, d1, bx, -⟩ := M4.out.box
      obtain ⟨va, vn, hvj, -⟩ := M4.out.o1.form
      rw [hf1] at hvj
      unfold cabCells at bx
      rw [hc, n1, n2] at bx
      obtain ⟨⟨p0, p1, p2, p3, p4⟩, -, p10, p11, -⟩ := blk16_cells bx
      rw [hvj] at p11
      have hnx : (lkW i).next = 1 + ((min i 8 : Nat) : Int) := rfl
      rw [hnx] at p1
      generalize hN : min i 8 = N8 at *
      have hm : min (i : Int) 8 = (N8 : Int) := by omega
      have hq : (i : Int) - (N8 : Int) = ((i - 8 : Nat) : Int) := by omega
      have hq2 : (N8 : Int) ≤ 8 := by omega
      clear bx hvj n1 n2 hc hf1 hs0 hN hnx M4
      go_wp2_with fail
      go_ret
      exact ⟨rfl, up B4.out (by (repeat (first | exact Below.refl _ _ | assumption | (refine Below.drew ?_) | (refine below_drewN ?_ _) | (refine Below.alloc ?_ (by first | (simp; done) | (simp; omega) | omega) _) | (refine Below.setCell ?_ (by first | (simp; done) | (simp; omega) | omega) _) | (refine Below.trans ?_ (Below.mono (by assumption) (by first | (simp; done) | (simp; omega) | omega))))))⟩
end Go.Proofs.YtkhacogeffidoaaDoor
