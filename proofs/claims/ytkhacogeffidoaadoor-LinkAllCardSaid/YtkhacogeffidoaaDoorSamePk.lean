/- The walks of sameFrame and samePacket, at two that read alike. -/
import Derived.Test.YtkhacogeffidoaaDoorSameOp
import Derived.Test.YtkhacogeffidoaaDoorFirst
import Derived.Test.YtkhacogeffidoaaDoorPacketMake
set_option linter.unusedVariables false
set_option linter.unusedSimpArgs false
namespace Go.Proofs.YtkhacogeffidoaaDoor
open Go.RowKit

set_option maxRecDepth 100000 in
set_option maxHeartbeats 2000000 in
theorem sameFrame_ok (f : Fr) (a b : Option Addr) (n c m d : Nat) (w : World) (h1 : RdS (· < w.heap.size) w f.op a n c) (h2 : RdS (· < w.heap.size) w f.op b m d) :
    Calls Tryd.prog 47 #[.agg #[.int .i64 f.kind, .int .i64 f.heard, .int .i64 f.epoch, .slice a n c, .string f.text], .agg #[.int .i64 f.kind, .int .i64 f.heard, .int .i64 f.epoch, .slice b m d, .string f.text]] w fun e w' => e = .returned (.bool true) ∧ Below w.heap.size w w' := by
  have HS := Lib.hid (fun W (hW : Below w.heap.size w W) => sameOp_ok f.op a b n c m d W (h1.go hW) (h2.go hW))
  obtain ⟨k, h, e, o, t⟩ := f
  simp only at *
  have e1 : (k == k) = true := by simp
  have e2 : (h == h) = true := by simp
  have e3 : (e == e) = true := by simp
  clear h1 h2
  go_enter Tryd.func47, Tryd.ntmps47
  go_wp2_with fail
  refine abs_run (fun W => Below w.heap.size w W) (by (repeat (first | exact Below.refl _ _ | assumption | (refine Below.drew ?_) | (refine below_drewN ?_ _) | (refine Below.alloc ?_ (by first | (simp; done) | (simp; omega) | omega) _) | (refine Below.setCell ?_ (by first | (simp; done) | (simp; omega) | omega) _) | (refine Below.trans ?_ (Below.mono (by assumption) (by first | (simp; done) | (simp; omega) | omega)))))) ?_
  intro W hW
  refine (HS.out W hW).mono ?_
  rintro x w2 ⟨rfl, u2⟩
  have U2 := Lib.hid (up hW u2)
  clear hW u2 HS
  go_wp2_with fail
  go_ret
  exact ⟨rfl, U2.out⟩
set_option maxRecDepth 100000 in
set_option maxHeartbeats 2000000 in
theorem samePacket_ok (p : Pkt) (a b : Option Addr) (n c m d : Nat) (w : World) (h1 : RdS (· < w.heap.size) w p.f.op a n c) (h2 : RdS (· < w.heap.size) w p.f.op b m d) :
    Calls Tryd.prog 22 #[.agg #[.int .i64 p.epoch, .int .i64 p.number, .bool p.bare, .int .i64 p.ack, .int .i64 p.f.kind, .int .i64 p.f.heard, .int .i64 p.f.epoch, .slice a n c, .string p.f.text], .agg #[.int .i64 p.epoch, .int .i64 p.number, .bool p.bare, .int .i64 p.ack, .int .i64 p.f.kind, .int .i64 p.f.heard, .int .i64 p.f.epoch, .slice b m d, .string p.f.text]] w fun e w' => e = .returned (.bool true) ∧ Below w.heap.size w w' := by
  have HS := Lib.hid (fun W (hW : Below w.heap.size w W) => sameFrame_ok p.f a b n c m d W (h1.go hW) (h2.go hW))
  obtain ⟨ep, nu, ba, ac, k, h, e, o, t⟩ := p
  simp only at *
  have e1 : (ep == ep) = true := by simp
  have e2 : (nu == nu) = true := by simp
  have e3 : (ba == ba) = true := by simp
  have e4 : (ac == ac) = true := by simp
  clear h1 h2
  go_enter Tryd.func22, Tryd.ntmps22
  go_wp2_with fail
  refine abs_run (fun W => Below w.heap.size w W) (by (repeat (first | exact Below.refl _ _ | assumption | (refine Below.drew ?_) | (refine below_drewN ?_ _) | (refine Below.alloc ?_ (by first | (simp; done) | (simp; omega) | omega) _) | (refine Below.setCell ?_ (by first | (simp; done) | (simp; omega) | omega) _) | (refine Below.trans ?_ (Below.mono (by assumption) (by first | (simp; done) | (simp; omega) | omega)))))) ?_
  intro W hW
  refine (HS.out W hW).mono ?_
  rintro x w2 ⟨rfl, u2⟩
  have U2 := Lib.hid (up hW u2)
  clear hW u2 HS
  go_wp2_with fail
  go_ret
  exact ⟨rfl, U2.out⟩
end Go.Proofs.YtkhacogeffidoaaDoor
