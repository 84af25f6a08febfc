/- The walk of LinkOnce. -/
import Derived.Test.YtkhacogeffidoaaDoorShake
import Derived.Test.YtkhacogeffidoaaDoorCabRight
set_option linter.unusedVariables false
set_option linter.unusedSimpArgs false
namespace Go.Proofs.YtkhacogeffidoaaDoor
open Go.RowKit

theorem Once.right' {E : Nat} {c : Cb} (h : Once E c) : c.t0.length ≤ c.s1.length ∧ ∀ (k : Nat) (f : Fr), c.t0[k]? = some f → c.s1[k]? = some f := by
  obtain ⟨h1, h2⟩ := h.right
  refine ⟨h1, fun k f hf => ?_⟩
  obtain ⟨hk, e⟩ := List.getElem?_eq_some_iff.1 hf
  rw [List.getElem?_eq_getElem (by omega), ← h2 k hk (by omega), e]
set_option maxRecDepth 100000 in
set_option maxHeartbeats 8000000 in
theorem linkOnce_walk (w : World) (hg : Good w) (l : List Raw) (a : Option Addr) (n cp : Nat) (hr : RdS (· < w.heap.size) w l a n cp) :
    Calls Tryd.prog 8 #[.slice a n cp] w fun e w' => e = .returned (.bool true) ∧ Below w.heap.size w w' := by
  have HS := Lib.hid (fun W (hg : Good W) (hr : RdS (· < W.heap.size) W l a n cp) => shake_any l a n cp W hg hr)
  have Hg := Lib.hid hg
  have Hr := Lib.hid hr
  clear hg hr
  go_enter Tryd.func8, Tryd.ntmps8
  go_wp2_with fail
  refine (HS.out _ Hg.out Hr.out).mono ?_
  rintro e w1 ⟨g, rfl, ⟨c, vs, m1, ho, -, -⟩, b1⟩
  have B1 := Lib.hid b1
  have M1 := Lib.hid m1
  obtain ⟨r1, r2⟩ := ho.right'
  obtain ⟨s1, s2⟩ := ho.turn.right'
  obtain ⟨k0, k1, l0, l1, -⟩ := ho.ok (by omega)
  have HR0 := Lib.hid (fun W h => cab_right0 w.heap.size g c vs W h r1 r2)
  have HR1 := Lib.hid (fun W h => cab_right1 w.heap.size g c vs W h s1 s2)
  have HC0 := Lib.hid (fun a b cc d W hW hr hq => lkCheck_any c.e0 a b c.e0.sent.length cc c.e0.queue.length d W hW hr hq l0)
  have HC1 := Lib.hid (fun a b cc d W hW hr hq => lkCheck_any c.e1 a b c.e1.sent.length cc c.e1.queue.length d W hW hr hq l1)
  unfold lkV at HC0 HC1
  rw [k0] at HC0
  rw [k1] at HC1
  clear m1 b1 r1 r2 s1 s2 k0 k1 l0 l1 ho HS
  go_wp2_with fail
  refine (HR0.out _ M1.out).mono ?_
  rintro e w2 ⟨rfl, b2⟩
  have M2 := Lib.hid (M1.out.go b2)
  have B2 := Lib.hid (up B1.out b2)
  clear b2 HR0
  go_wp2_with fail
  refine (HR1.out _ M2.out).mono ?_
  rintro e w3 ⟨rfl, b3⟩
  have M3 := Lib.hid (M2.out.go b3)
  have B3 := Lib.hid (up B2.out b3)
  clear b3 HR1
  obtain ⟨a0, c0, b0, d0, a1, c1, b1, d1, bx, r0, r1, r2, r3⟩ := M3.out.box
  obtain ⟨⟨p0, p1, p2, p3, p4⟩, ⟨p5, p6, p7, p8, p9⟩, -⟩ := blk16_cells bx
  have hgw := bx.lt
  have R0 := Lib.hid (r0.mono fun z hz => ⟨hz.2.1, rfl⟩ : RdS (· < w3.heap.size) w3 c.e0.sent a0 c.e0.sent.length c0)
  have R1 := Lib.hid (r1.mono fun z hz => ⟨hz.2.1, rfl⟩ : RdS (· < w3.heap.size) w3 c.e0.queue b0 c.e0.queue.length d0)
  have R2 := Lib.hid (r2.mono fun z hz => ⟨hz.2.1, rfl⟩ : RdS (· < w3.heap.size) w3 c.e1.sent a1 c.e1.sent.length c1)
  have R3 := Lib.hid (r3.mono fun z hz => ⟨hz.2.1, rfl⟩ : RdS (· < w3.heap.size) w3 c.e1.queue b1 c.e1.queue.length d1)
  have BX := Lib.hid bx
  clear bx r0 r1 r2 r3
  go_wp2_with fail
  refine (HC0.out _ _ _ _ _ (Hg.out.go B3.out) R0.out R1.out).mono ?_
  rintro e w4 ⟨rfl, b4⟩
  have B4 := Lib.hid b4
  obtain ⟨-, ⟨q5, q6, q7, q8, q9⟩, -⟩ := blk16_cells (BX.out.go b4)
  clear p0 p1 p2 p3 p4 p5 p6 p7 p8 p9 b4
  go_wp2_with fail
  refine (HC1.out _ _ _ _ _ (Hg.out.go (up B3.out B4.out)) (R2.out.go B4.out) (R3.out.go B4.out)).mono ?_
  rintro e w5 ⟨rfl, b5⟩
  have B5 := Lib.hid (up (up B3.out B4.out) b5)
  clear b5 q5 q6 q7 q8 q9
  go_wp2_with fail
  go_ret
  exact ⟨rfl, B5.out⟩
end Go.Proofs.YtkhacogeffidoaaDoor
