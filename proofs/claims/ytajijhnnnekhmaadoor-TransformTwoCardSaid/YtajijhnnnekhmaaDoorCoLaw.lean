/- Compose, as laws use it. -/
import Derived.Test.YtajijhnnnekhmaaDoorCompose
import Derived.Test.YtajijhnnnekhmaaDoorInvert
set_option linter.unusedSimpArgs false
namespace Go.Proofs.YtajijhnnnekhmaaDoor
open Go.RowKit

theorem compose_go (o q : Op) (a b : Option Addr) (n c m d : Nat) (w : World) (hg : Good w) (h1 : RdS (· < w.heap.size) w o a n c) (h2 : RdS (· < w.heap.size) w q b m d) (e1 : check o = 0) (e2 : check q = 0) (e3 : sumT o = sumF q) :
    Calls Tryd.prog 21 #[.slice a n c, .slice b m d] w fun e w' => ∃ (a1 : Option Addr) (c1 : Nat), e = .returned (.tuple #[.slice a1 (coOp o q).length c1, .int .i64 0]) ∧
      RdS (· < w'.heap.size) w' (coOp o q) a1 (coOp o q).length c1 ∧ Below w.heap.size w w' :=
  (compose_ok o q a b n c m d w hg h1 h2 e1 e2 e3).mono fun e w' ⟨a1, c1, he, r1, hb⟩ => ⟨a1, c1, he, r1.wide fun b hb => hb.2, hb⟩
theorem co_apply {t : Str} {o q : Op} (h0 : checkText t = 0) (h1 : check o = 0) (h2 : check q = 0) (h3 : sumF o = rc t) (h4 : sumT o = sumF q) :
    applyE t (coOp o q) = 0 ∧ applyS t (coOp o q) = applyS (applyS t o) q := by
  obtain ⟨z0, z1, z2, z3⟩ := co_laws h1 h2 h4
  obtain ⟨a1, a2, a3, a4, a5, a6⟩ := apply_good h0 h1 h3
  obtain ⟨b1, b2, -⟩ := apply_good a5 h2 (by omega)
  obtain ⟨c1, c2, -⟩ := apply_good h0 z0 (by omega)
  have hrt := rc_rns t
  exact ⟨c1, by rw [c2, b2, rns_apply h0 h1 h3, z3 _ (by omega)]⟩
set_option maxRecDepth 100000 in
set_option maxHeartbeats 1000000 in
theorem compose_miss (o q : Op) (a b : Option Addr) (n c m d : Nat) (w : World) (hg : Good w) (h1 : RdS (· < w.heap.size) w o a n c) (h2 : RdS (· < w.heap.size) w q b m d) (e1 : check o = 0) (e2 : check q = 0) (e3 : sumT o ≠ sumF q) :
    Calls Tryd.prog 21 #[.slice a n c, .slice b m d] w fun e w' => e = .returned (.tuple #[.slice none 0 0, .int .i64 10]) ∧ Below w.heap.size w w' := by
  have C1 := Lib.hid (check_go o a n c w hg h1)
  have C2 := Lib.hid (fun W (hW : Below w.heap.size w W) => check_go q b m d W (hg.go hW) (h2.go hW))
  rw [e1] at C1
  rw [e2] at C2
  have L1 := Lib.hid (fun W (hW : Below w.heap.size w W) => lengths_go o a n c W (h1.go hW) e1)
  have L2 := Lib.hid (fun W (hW : Below w.heap.size w W) => lengths_go q b m d W (h2.go hW) e2)
  have hne : (sumT o != sumF q) = true := by simpa using e3
  clear h1 h2 hg e1 e2 e3
  generalize sumF o = so at *
  generalize sumT o = tto at *
  generalize sumF q = sq at *
  generalize sumT q = tq at *
  go_enter Tryd.func21, Tryd.ntmps21
  go_wp2_with fail
  refine C1.out.mono ?_
  rintro e v1 ⟨rfl, u1⟩
  have V1 := Lib.hid u1
  clear C1 u1
  go_wp2_with fail
  refine (C2.out _ V1.out).mono ?_
  rintro e v2 ⟨rfl, u2⟩
  have V2 := Lib.hid (up V1.out u2)
  clear C2 u2 V1
  go_wp2_with fail
  refine (L1.out _ V2.out).mono ?_
  rintro e v3 ⟨rfl, u3⟩
  have V3 := Lib.hid (up V2.out u3)
  clear L1 u3 V2
  go_wp2_with fail
  refine (L2.out _ V3.out).mono ?_
  rintro e w1 ⟨rfl, u4⟩
  have V4 := Lib.hid (up V3.out u4)
  clear L2 u4 V3
  go_wp2_with fail
  go_ret2
  exact ⟨rfl, V4.out⟩
end Go.Proofs.YtajijhnnnekhmaaDoor
