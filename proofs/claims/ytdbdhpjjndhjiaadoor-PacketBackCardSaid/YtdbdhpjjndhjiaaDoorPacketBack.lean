/- The walk of PacketBack. -/
import Derived.Test.YtdbdhpjjndhjiaaDoorFirst
set_option linter.unusedSimpArgs false
namespace Go.Proofs.YtdbdhpjjndhjiaaDoor
open Go.RowKit

theorem encPkt_go (p : Pkt) (a : Option Addr) (n c : Nat) (w : World) (hg : Good w) (hr : RdS (· < w.heap.size) w p.f.op a n c) (hc : p.check = 0) :
    Calls Tryd.prog 25 #[.agg (pktC p (.slice a n c))] w fun e w' => ∃ (a' : Option Addr) (c' : Nat), e = .returned (.tuple #[.slice a' (pkB p).length c', .int .i64 0]) ∧ RdS (· < w'.heap.size) w' (pkB p) a' (pkB p).length c' ∧ Below w.heap.size w w' :=
  (encPkt_ok p a n c w hg hr hc).mono fun e w' ⟨a', c', h1, _, h3, h4⟩ => ⟨a', c', h1, h3.wide fun k hk => hk.2, h4⟩
theorem decPkt_go (b : Bs) (a : Option Addr) (n c : Nat) (w : World) (hg : Good w) (hr : RdS (· < w.heap.size) w b a n c) :
    Calls Tryd.prog 23 #[.slice a n c] w fun e w' => ∃ (a' : Option Addr) (c' : Nat), e = .returned (.tuple #[.agg (pktC (decPkt b).1 (.slice a' (decPkt b).1.f.op.length c')), .int .i64 (decPkt b).2]) ∧ RdS (· < w'.heap.size) w' (decPkt b).1.f.op a' (decPkt b).1.f.op.length c' ∧ Below w.heap.size w w' :=
  (decPkt_any b a n c w hg hr).mono fun e w' ⟨a', c', h1, h2, h3⟩ => ⟨a', c', h1, h2.wide fun k hk => hk.2, h3⟩
theorem packet_go (r : Raw) (l : List Raw) (a : Option Addr) (n c : Nat) (w : World) (hr : RdS (· < w.heap.size) w l a n c) (hk : r.ok) :
    Calls Tryd.prog 24 #[rawV r, .slice a n c] w fun e w' => ∃ (a' : Option Addr) (c' : Nat), e = .returned (.agg (pktC (packetOf r l) (.slice a' (packetOf r l).f.op.length c'))) ∧ RdS (· < w'.heap.size) w' (packetOf r l).f.op a' (packetOf r l).f.op.length c' ∧ Below w.heap.size w w' :=
  (packet_any r l a n c w hr hk).mono fun e w' ⟨a', c', h1, h2, h3⟩ => ⟨a', c', h1, h2.wide fun k hk => hk.2, h3⟩
theorem rd_two (w : World) (x y : UInt8) (u v : Int) (hu : u = (x.toNat : Int)) (hv : v = (y.toNat : Int)) : RdS (· < (w.alloc (.cells #[.int .u8 u, .int .u8 v] 5)).heap.size) (w.alloc (.cells #[.int .u8 u, .int .u8 v] 5)) [x, y] (some ⟨w.heap.size, 0, none⟩) 2 2 := by
  subst hu hv
  have hb : Blk w.heap.size (.cells #[.int .u8 (x.toNat : Int), .int .u8 (y.toNat : Int)] 5 (0, 0)) (w.alloc (.cells #[.int .u8 (x.toNat : Int), .int .u8 (y.toNat : Int)] 5)) := Blk.new _ _
  refine ⟨rfl, Nat.le_refl _, by unfold maxLen; omega, (fun h => by cases h), fun _ => ⟨w.heap.size, 0, rfl, hb.lt, hb.lt, fun i z hi => ?_⟩⟩
  match i, hi with
  | 0, hi =>
    simp at hi; subst hi
    refine ⟨_, rfl, fun j u hj => ?_⟩
    cases j with
    | succ j => simp at hj
    | zero => simp at hj; subst hj; exact hb.cell 0
  | 1, hi =>
    simp at hi; subst hi
    refine ⟨_, rfl, fun j u hj => ?_⟩
    cases j with
    | succ j => simp at hj
    | zero => simp at hj; subst hj; exact hb.cell 1
  | i + 2, hi => simp at hi
theorem box_twoP {w5 w6 W2 : World} {cs : Array Value} {t base n b : Nat} (ht : t ≠ 5) (hb : Blk b (.cells cs t (0, 0)) w5) {v : Value} {xs : List Value} {o1 : Obj} (hgrow : w5.grownBy w6 (Value.slice none 0 0).ownBlock) (hown : w6.ownsRow base 5 1 v n xs) (hgrow2 : (w6.alloc o1).grownBy W2 v.ownBlock) :
    Blk b (.cells cs t (0, 0)) W2 := by
  have h1 : Blk b (.cells cs t (0, 0)) (w6.alloc o1) := (hb.grown hgrow (by simp [Value.ownBlock])).alloc _
  exact h1.grown hgrow2 (row_other (hown.alloc o1) h1 ht)
set_option maxRecDepth 100000 in
set_option maxHeartbeats 6000000 in
theorem packetBack_walk (w : World) (hg : Good w) (r : Raw) (hk : r.ok) (a1 : Option Addr) (n1 c1 : Nat) (l1 : List Raw) (r1 : RdS (· < w.heap.size) w l1 a1 n1 c1) (tl : UInt8) (at_ : Int) (hat : I64 at_) :
    Calls Tryd.prog 8 #[rawV r, .slice a1 n1 c1, .int .u8 (tl.toNat : Int), .int .i64 at_] w fun e w' => e = .returned (.bool true) ∧ Below w.heap.size w w' := by
  have HX := Lib.hid (fun W h => packet_go r l1 a1 n1 c1 W h hk)
  have x0 := packetOf_ok r l1
  generalize packetOf r l1 = p at *
  have HE := Lib.hid (fun a n c W hg hr => encPkt_go p a n c W hg hr x0)
  have HD1 := Lib.hid (fun a n c W hg hr => decPkt_go (pkB p) a n c W hg hr)
  have HD2 := Lib.hid (fun a n c W hg hr => decPkt_go (pkB p ++ [120, tl]) a n c W hg hr)
  have hbl := pkt_len x0
  have rj := pk_range at_ (pkB p).length (by omega)
  obtain ⟨j, hj⟩ : ∃ j : Nat, pk at_ (pkB p).length = (j : Int) := ⟨(pk at_ (pkB p).length).toNat, by omega⟩
  have HJ : Hid (∀ W, Calls Tryd.prog 18 #[.int .i64 at_, .int .i64 ((pkB p).length : Int)] W fun e w' => e = .returned (.int .i64 (j : Int)) ∧ Below W.heap.size W w') := fun W => by
    have := picked_any at_ (pkB p).length W hat (by omega) (by omega)
    rw [hj] at this
    exact this.mono fun e w' ⟨h1, h2⟩ => ⟨h1, h2 ▸ Below.refl _ _⟩
  rw [hj] at rj
  have HD3 := Lib.hid (fun a n c W hg hr => decPkt_go ((pkB p).take j) a n c W hg hr)
  rw [pkt_enc x0] at HD1
  rw [pkt_more x0 (by simp) (by simp)] at HD2
  rw [pkt_torn x0 (by omega)] at HD3
  have HS := Lib.hid (fun a b n c m d W h1 h2 => samePacket_ok p a b n c m d W h1 h2)
  obtain ⟨i1, i2, i3, i4, i5, i6, i7, i8, i9⟩ := pkt_i64 x0
  have HC := Lib.hid (fun a n c W hg hr => checkPacket_any p.epoch p.number p.bare p.ack p.f.kind p.f.heard p.f.epoch p.f.op p.f.text a n c W hg hr i1 i2 i3 i4 i5 i6 i7)
  rw [show checkPacket p.epoch p.number p.bare p.ack p.f.kind p.f.heard p.f.epoch p.f.op p.f.text = 0 from x0] at HC
  have g0 := Lib.hid hg
  have B0 := Lib.hid (Below.refl w.heap.size w)
  have ra0 := Lib.hid r1
  obtain ⟨rk, xa, xb, xc, xt⟩ := r
  unfold rawV at HX ⊢
  simp only at HX ⊢
  generalize hcs : pkB p = cs at *
  have hcl : cs.length ≤ 40030 ∧ 3 ≤ cs.length := hbl
  have hl122 : (cs ++ [120, tl]).length = cs.length + 2 := by simp
  clear hbl r1 hg hcs hk hj i1 i2 i3 i4 i5 i6 i7 i8 i9
  obtain ⟨pe, pn, pb, pa, fk, fh, fe, fo, ft⟩ := p
  simp only [pktC, noPkt, bareFr] at *
  clear x0
  generalize fo.length = lx at *
  generalize noText = nt at *
  go_enter Tryd.func8, Tryd.ntmps8
  go_wp2_with fail
  refine abs_run (fun W => Below w.heap.size w W) (by (repeat (first | exact Below.refl _ _ | assumption | (refine Below.drew ?_) | (refine below_drewN ?_ _) | (refine Below.alloc ?_ (by first | (simp; done) | (simp; omega) | omega) _) | (refine Below.setCell ?_ (by first | (simp; done) | (simp; omega) | omega) _) | (refine Below.trans ?_ (Below.mono (by assumption) (by first | (simp; done) | (simp; omega) | omega)))))) ?_
  rintro w1 hb
  have B1 := Lib.hid (up B0.out hb)
  have g1 := Lib.hid (g0.out.below' hb)
  have ra1 := Lib.hid (ra0.out.go hb)
  clear B0 g0 ra0 hb
  refine (HX.out _ ra1.out).mono ?_
  rintro e w2 ⟨ax, cx, rfl, rx, hb⟩
  have B2 := Lib.hid (up B1.out hb)
  have g2 := Lib.hid (g1.out.below' hb)
  have ra2 := Lib.hid (ra1.out.go hb)
  have rx2 := Lib.hid rx
  clear B1 g1 ra1 hb rx
  clear ra2
  go_wp2_with fail
  refine abs_run (fun W => Below w2.heap.size w2 W ∧ Blk w2.heap.size (.cells #[.int .i64 pe, .int .i64 pn, .bool pb, .int .i64 pa, .int .i64 fk, .int .i64 fh, .int .i64 fe, .slice ax lx cx, .string ft] 55 (0, 0)) W) ⟨(by (repeat (first | exact Below.refl _ _ | assumption | (refine Below.drew ?_) | (refine below_drewN ?_ _) | (refine Below.alloc ?_ (by first | (simp; done) | (simp; omega) | omega) _) | (refine Below.setCell ?_ (by first | (simp; done) | (simp; omega) | omega) _) | (refine Below.trans ?_ (Below.mono (by assumption) (by first | (simp; done) | (simp; omega) | omega)))))), Blk.new w2 _⟩ ?_
  rintro w3 ⟨hb, bx⟩
  have B3 := Lib.hid (up B2.out hb)
  have g3 := Lib.hid (g2.out.below' hb)
  have rx3 := Lib.hid (rx2.out.go hb)
  have bx3 := Lib.hid bx
  clear B2 g2 rx2 hb bx
  refine (HE.out _ _ _ _ g3.out rx3.out).mono ?_
  rintro e w4 ⟨ac, cc, rfl, rc, hb⟩
  have B4 := Lib.hid (up B3.out hb)
  have g4 := Lib.hid (g3.out.below' hb)
  have rx4 := Lib.hid (rx3.out.go hb)
  have bx4 := Lib.hid (bx3.out.go hb)
  have rc4 := Lib.hid rc
  clear B3 g3 rx3 bx3 hb rc
  go_wp2_with fail
  refine (HD1.out _ _ _ _ g4.out rc4.out).mono ?_
  rintro e w5 ⟨ay, cy, rfl, ry, hb⟩
  have B5 := Lib.hid (up B4.out hb)
  have g5 := Lib.hid (g4.out.below' hb)
  have rx5 := Lib.hid (rx4.out.go hb)
  have bx5 := Lib.hid (bx4.out.go hb)
  have rc5 := Lib.hid (rc4.out.go hb)
  have ry5 := Lib.hid ry
  clear B4 g4 rx4 bx4 rc4 hb ry
  have hnil : w5.ownsRow w5.heap.size 5 1 (.slice none 0 0) ([] : Bs).length (bb []) := World.ownsRow_nil _ _ _ _
  go_wp2_with (at_builtin; go_must (refine wpList_append_bytes rfl _ _ (by rfl) w5.heap.size (.slice none 0 0) [] cs (by rfl) (hnil.alloc _) ac cs.length cc (by rfl) (rc5.out.go ((Below.refl _ _).alloc (Nat.le_refl _) _)) (fun _ => rfl) (by simp; omega) (by simp) ?_))
  intro aq cq w6 hown hfq hgrow
  have hgr1 : Below w5.heap.size w5 w6 := ((Below.refl _ _).alloc (Nat.le_refl _) _).grown hgrow (by simp) (fun g hg => by simp [Value.ownBlock] at hg)
  have hz1 := hgr1.size
  have hwz := hown.lt
  go_wp2_with (at_builtin; go_must (refine wpList_append_bytes rfl _ _ (by rfl) w5.heap.size (.slice aq cs.length cq) cs [120, tl] (by rfl) (hown.alloc _) (some ⟨w6.heap.size, 0, none⟩) 2 2 (by rfl) (rd_two w6 120 tl 120 _ rfl rfl) (fun h => by cases h) (by omega) (by simp; omega) ?_))
  intro aq2 cq2 W2 hown2 hfq2 hgrow2
  have hgr2 : Below w5.heap.size w5 W2 := (hgr1.alloc (by omega) _).grown hgrow2 (by simp; omega) (fun g hg => (hwz g hg).1)
  have hown3 : W2.ownsRow w5.heap.size 5 1 (.slice aq2 (cs.length + 2) cq2) (cs ++ [120, tl]).length (bb (cs ++ [120, tl])) := by rw [hl122]; exact hown2
  obtain ⟨aq3, cq3, hv3, -, rq⟩ := rd_bytes hown3 (A := (· < W2.heap.size)) (fun k hk => (hown3.lt k hk).2)
  rw [hl122] at rq hv3
  injection hv3 with hv4 hv5 hv6
  subst hv4 hv6
  have by_ : Blk w5.heap.size (.cells #[.int .i64 pe, .int .i64 pn, .bool pb, .int .i64 pa, .int .i64 fk, .int .i64 fh, .int .i64 fe, .slice ay lx cy, .string ft] 55 (0, 0)) W2 := box_two (by decide) hgrow hown hgrow2
  clear hv5 hown hown2 hown3 hgrow hgrow2 hfq hfq2 hgr1 hz1 hwz hnil
  generalize W2 = w6 at *
  rename Below w5.heap.size w5 w6 => hb
  have B6 := Lib.hid (up B5.out hb)
  have g6 := Lib.hid (g5.out.below' hb)
  have rx6 := Lib.hid (rx5.out.go hb)
  have bx6 := Lib.hid (bx5.out.go hb)
  have rc6 := Lib.hid (rc5.out.go hb)
  have ry6 := Lib.hid (ry5.out.go hb)
  have rq6 := Lib.hid rq
  have by_6 := Lib.hid by_
  clear B5 g5 rx5 bx5 rc5 ry5 hb rq by_
  go_wp2_with fail
  refine (HD2.out _ _ _ _ g6.out rq6.out).mono ?_
  rintro e w7 ⟨az, cz, rfl, -, hb⟩
  have B7 := Lib.hid (up B6.out hb)
  have g7 := Lib.hid (g6.out.below' hb)
  have rx7 := Lib.hid (rx6.out.go hb)
  have bx7 := Lib.hid (bx6.out.go hb)
  have rc7 := Lib.hid (rc6.out.go hb)
  have ry7 := Lib.hid (ry6.out.go hb)
  have rq7 := Lib.hid (rq6.out.go hb)
  have by_7 := Lib.hid (by_6.out.go hb)
  clear B6 g6 rx6 bx6 rc6 ry6 rq6 by_6 hb
  clear rq7
  have hmx : max (cs.length : Int) 1 = (cs.length : Int) := by omega
  go_wp2_with fail
  refine abs_run (fun W => Below w7.heap.size w7 W) (by (repeat (first | exact Below.refl _ _ | assumption | (refine Below.drew ?_) | (refine below_drewN ?_ _) | (refine Below.alloc ?_ (by first | (simp; done) | (simp; omega) | omega) _) | (refine Below.setCell ?_ (by first | (simp; done) | (simp; omega) | omega) _) | (refine Below.trans ?_ (Below.mono (by assumption) (by first | (simp; done) | (simp; omega) | omega)))))) ?_
  rintro w8 hb
  have B8 := Lib.hid (up B7.out hb)
  have g8 := Lib.hid (g7.out.below' hb)
  have rx8 := Lib.hid (rx7.out.go hb)
  have bx8 := Lib.hid (bx7.out.go hb)
  have rc8 := Lib.hid (rc7.out.go hb)
  have ry8 := Lib.hid (ry7.out.go hb)
  have by_8 := Lib.hid (by_7.out.go hb)
  clear B7 g7 rx7 bx7 rc7 ry7 by_7 hb
  refine (HJ.out _).mono ?_
  rintro e w9 ⟨rfl, hb⟩
  have B9 := Lib.hid (up B8.out hb)
  have g9 := Lib.hid (g8.out.below' hb)
  have rx9 := Lib.hid (rx8.out.go hb)
  have bx9 := Lib.hid (bx8.out.go hb)
  have rc9 := Lib.hid (rc8.out.go hb)
  have ry9 := Lib.hid (ry8.out.go hb)
  have by_9 := Lib.hid (by_8.out.go hb)
  clear B8 g8 rx8 bx8 rc8 ry8 by_8 hb
  have rt := rc9.out.upto j (by omega)
  have hcc := rc9.out.2.1
  have hcm : cc ≤ 9223372036854775807 := rc9.out.2.2.1
  have rt := Lib.hid rt
  go_wp2_with fail
  refine (HD3.out _ _ _ _ g9.out rt.out).mono ?_
  rintro e w10 ⟨az2, cz2, rfl, -, hb⟩
  have B10 := Lib.hid (up B9.out hb)
  have g10 := Lib.hid (g9.out.below' hb)
  have rx10 := Lib.hid (rx9.out.go hb)
  have bx10 := Lib.hid (bx9.out.go hb)
  have rc10 := Lib.hid (rc9.out.go hb)
  have ry10 := Lib.hid (ry9.out.go hb)
  have by_10 := Lib.hid (by_9.out.go hb)
  clear B9 g9 rx9 bx9 rc9 ry9 by_9 hb
  obtain ⟨q0, q1, q2, q3, q4, q5, q6, q7, q8⟩ := blk_cells9 bx10.out
  obtain ⟨p0, p1, p2, p3, p4, p5, p6, p7, p8⟩ := blk_cells9 by_10.out
  have l0 := bx10.out.lt
  have l1' := by_10.out.lt
  go_wp2_with fail
  refine abs_run (fun W => Below w10.heap.size w10 W) (by (repeat (first | exact Below.refl _ _ | assumption | (refine Below.drew ?_) | (refine below_drewN ?_ _) | (refine Below.alloc ?_ (by first | (simp; done) | (simp; omega) | omega) _) | (refine Below.setCell ?_ (by first | (simp; done) | (simp; omega) | omega) _) | (refine Below.trans ?_ (Below.mono (by assumption) (by first | (simp; done) | (simp; omega) | omega)))))) ?_
  rintro w11 hb
  have B11 := Lib.hid (up B10.out hb)
  have g11 := Lib.hid (g10.out.below' hb)
  have rx11 := Lib.hid (rx10.out.go hb)
  have bx11 := Lib.hid (bx10.out.go hb)
  have rc11 := Lib.hid (rc10.out.go hb)
  have ry11 := Lib.hid (ry10.out.go hb)
  have by_11 := Lib.hid (by_10.out.go hb)
  clear B10 g10 rx10 bx10 rc10 ry10 by_10 hb
  refine (HS.out _ _ _ _ _ _ _ rx11.out ry11.out).mono ?_
  rintro e w12 ⟨rfl, hb⟩
  have B12 := Lib.hid (up B11.out hb)
  have g12 := Lib.hid (g11.out.below' hb)
  have rx12 := Lib.hid (rx11.out.go hb)
  have bx12 := Lib.hid (bx11.out.go hb)
  have rc12 := Lib.hid (rc11.out.go hb)
  have ry12 := Lib.hid (ry11.out.go hb)
  have by_12 := Lib.hid (by_11.out.go hb)
  clear B11 g11 rx11 bx11 rc11 ry11 by_11 hb
  clear q0 q1 q2 q3 q4 q5 q6 q7 q8 p0 p1 p2 p3 p4 p5 p6 p7 p8
  obtain ⟨q0, q1, q2, q3, q4, q5, q6, q7, q8⟩ := blk_cells9 bx12.out
  go_wp2_with fail
  refine (HC.out _ _ _ _ g12.out rx12.out).mono ?_
  rintro e w13 ⟨rfl, hb⟩
  have B13 := Lib.hid (up B12.out hb)
  have g13 := Lib.hid (g12.out.below' hb)
  have rx13 := Lib.hid (rx12.out.go hb)
  have bx13 := Lib.hid (bx12.out.go hb)
  have rc13 := Lib.hid (rc12.out.go hb)
  have ry13 := Lib.hid (ry12.out.go hb)
  have by_13 := Lib.hid (by_12.out.go hb)
  clear B12 g12 rx12 bx12 rc12 ry12 by_12 hb
  go_wp2_with fail
  go_ret
  exact ⟨rfl, B13.out⟩
end Go.Proofs.YtdbdhpjjndhjiaaDoor
