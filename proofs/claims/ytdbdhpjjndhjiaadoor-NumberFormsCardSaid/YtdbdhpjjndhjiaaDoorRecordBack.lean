/- The walk of RecordBack. -/
import Derived.Test.YtdbdhpjjndhjiaaDoorAppB
set_option linter.unusedSimpArgs false
namespace Go.Proofs.YtdbdhpjjndhjiaaDoor
open Go.RowKit

theorem rd_one (w : World) (x : UInt8) (v : Int) (hv : v = (x.toNat : Int)) : RdS (· < (w.alloc (.cells #[.int .u8 v] 5)).heap.size) (w.alloc (.cells #[.int .u8 v] 5)) [x] (some ⟨w.heap.size, 0, none⟩) 1 1 := by
  subst hv
  have hb : Blk w.heap.size (.cells #[.int .u8 (x.toNat : Int)] 5 (0, 0)) (w.alloc (.cells #[.int .u8 (x.toNat : Int)] 5)) := Blk.new _ _
  refine ⟨rfl, Nat.le_refl _, by unfold maxLen; omega, (fun h => by cases h), fun _ => ⟨w.heap.size, 0, rfl, hb.lt, hb.lt, fun i y hi => ?_⟩⟩
  cases i with
  | succ i => simp at hi
  | zero =>
    simp at hi; subst hi
    refine ⟨_, rfl, fun j u hj => ?_⟩
    cases j with
    | succ j => simp at hj
    | zero => simp at hj; subst hj; exact hb.cell 0
theorem box_two {w5 w6 W2 : World} {cs : Array Value} {t base n : Nat} (ht : t ≠ 5) {v : Value} {xs : List Value} {o1 : Obj} (hgrow : (w5.alloc (.cells cs t)).grownBy w6 (Value.slice none 0 0).ownBlock) (hown : w6.ownsRow base 5 1 v n xs) (hgrow2 : (w6.alloc o1).grownBy W2 v.ownBlock) :
    Blk w5.heap.size (.cells cs t (0, 0)) W2 := by
  have h1 : Blk w5.heap.size (.cells cs t (0, 0)) (w6.alloc o1) := ((Blk.new w5 _).grown hgrow (by simp [Value.ownBlock])).alloc _
  exact h1.grown hgrow2 (row_other (hown.alloc o1) h1 ht)
theorem strOf_inj {a b : Bs} (h : a = b) : strOf a = strOf b := by rw [h]
set_option maxRecDepth 100000 in
set_option maxHeartbeats 6000000 in
theorem recordBack_walk (w : World) (hg : Good w) (r : Raw) (hk : r.ok) (a1 : Option Addr) (n1 c1 : Nat) (l1 : List Raw) (r1 : RdS (· < w.heap.size) w l1 a1 n1 c1) (a2 : Option Addr) (n2 c2 : Nat) (l2 : Bs) (r2 : RdS (· < w.heap.size) w l2 a2 n2 c2) (hb0 : n2 ≤ 140737488351232) :
    Calls Tryd.prog 5 #[rawV r, .slice a1 n1 c1, .slice a2 n2 c2] w fun e w' => e = .returned (.bool true) ∧ Below w.heap.size w w' := by
  have HX := Lib.hid (fun W h => record_go r l1 a1 n1 c1 W h hk)
  obtain ⟨x0, x1⟩ := recOf_ok r l1
  generalize recOf r l1 = x at *
  have HE := Lib.hid (fun a n c W hg hr => encRecord_go x a n c W hg hr x1 x0)
  have HD1 := Lib.hid (fun a n c W hg hr => decRecord_go (recB x) a n c W hg hr)
  have HD2 := Lib.hid (fun a n c W hg hr => decRecord_go (recB x ++ [120]) a n c W hg hr)
  have HD3 := Lib.hid (fun a n c W hg hr => decRecord_go l2 a n c W hg hr)
  rw [dec_enc x0] at HD1
  rw [dec_more x0 (by simp) (by simp)] at HD2
  have HS := Lib.hid (fun a b n c m d W h1 h2 => sameRecord_ok x a b n c m d W h1 h2)
  have hbl := rec_len x0
  have g0 := Lib.hid hg
  have B0 := Lib.hid (Below.refl w.heap.size w)
  have ra0 := Lib.hid r1
  have rb0 := Lib.hid r2
  have Hn2 := Lib.hid r2.1
  obtain ⟨rk, xa, xb, xc, xt⟩ := r
  unfold rawV at HX ⊢
  simp only at HX ⊢
  generalize hcs : recB x = cs at *
  have hcl : cs.length ≤ 40010 ∧ 1 ≤ cs.length := hbl
  have hl121 : (cs ++ [120]).length = cs.length + 1 := by simp
  clear hbl r1 r2 hg hcs hk
  generalize x.op.length = lx at *
  go_enter Tryd.func5, Tryd.ntmps5
  go_wp2_with fail
  refine abs_run (fun W => Below w.heap.size w W) (by (repeat (first | exact Below.refl _ _ | assumption | (refine Below.drew ?_) | (refine below_drewN ?_ _) | (refine Below.alloc ?_ (by first | (simp; done) | (simp; omega) | omega) _) | (refine Below.setCell ?_ (by first | (simp; done) | (simp; omega) | omega) _) | (refine Below.trans ?_ (Below.mono (by assumption) (by first | (simp; done) | (simp; omega) | omega)))))) ?_
  rintro w1 hb
  have B1 := Lib.hid (up B0.out hb)
  have g1 := Lib.hid (g0.out.below' hb)
  have ra1 := Lib.hid (ra0.out.go hb)
  have rb1 := Lib.hid (rb0.out.go hb)
  clear B0 g0 ra0 rb0 hb
  refine (HX.out _ ra1.out).mono ?_
  rintro e w2 ⟨ax, cx, rfl, rx, hb⟩
  have B2 := Lib.hid (up B1.out hb)
  have g2 := Lib.hid (g1.out.below' hb)
  have ra2 := Lib.hid (ra1.out.go hb)
  have rb2 := Lib.hid (rb1.out.go hb)
  have rx2 := Lib.hid rx
  clear B1 g1 ra1 rb1 hb rx
  clear ra2
  go_wp2_with fail
  refine abs_run (fun W => Below w2.heap.size w2 W ∧ Blk w2.heap.size (.cells #[.int .i64 x.epoch, .slice ax lx cx] 33 (0, 0)) W) ⟨(by (repeat (first | exact Below.refl _ _ | assumption | (refine Below.drew ?_) | (refine below_drewN ?_ _) | (refine Below.alloc ?_ (by first | (simp; done) | (simp; omega) | omega) _) | (refine Below.setCell ?_ (by first | (simp; done) | (simp; omega) | omega) _) | (refine Below.trans ?_ (Below.mono (by assumption) (by first | (simp; done) | (simp; omega) | omega)))))), Blk.new w2 _⟩ ?_
  rintro w3 ⟨hb, bx⟩
  have B3 := Lib.hid (up B2.out hb)
  have g3 := Lib.hid (g2.out.below' hb)
  have rb3 := Lib.hid (rb2.out.go hb)
  have rx3 := Lib.hid (rx2.out.go hb)
  have bx3 := Lib.hid bx
  clear B2 g2 rb2 rx2 hb bx
  refine (HE.out _ _ _ _ g3.out rx3.out).mono ?_
  rintro e w4 ⟨ac, cc, rfl, rc, hb⟩
  have B4 := Lib.hid (up B3.out hb)
  have g4 := Lib.hid (g3.out.below' hb)
  have rb4 := Lib.hid (rb3.out.go hb)
  have rx4 := Lib.hid (rx3.out.go hb)
  have bx4 := Lib.hid (bx3.out.go hb)
  have rc4 := Lib.hid rc
  clear B3 g3 rb3 rx3 bx3 hb rc
  go_wp2_with fail
  refine (HD1.out _ _ _ _ g4.out rc4.out).mono ?_
  rintro e w5 ⟨ay, cy, rfl, ry, hb, -⟩
  have B5 := Lib.hid (up B4.out hb)
  have g5 := Lib.hid (g4.out.below' hb)
  have rb5 := Lib.hid (rb4.out.go hb)
  have rx5 := Lib.hid (rx4.out.go hb)
  have bx5 := Lib.hid (bx4.out.go hb)
  have rc5 := Lib.hid (rc4.out.go hb)
  have ry5 := Lib.hid ry
  clear B4 g4 rb4 rx4 bx4 rc4 hb ry
  have hnil : w5.ownsRow w5.heap.size 5 1 (.slice none 0 0) ([] : Bs).length (bb []) := World.ownsRow_nil _ _ _ _
  go_wp2_with (at_builtin; go_must (refine wpList_append_bytes rfl _ _ (by rfl) w5.heap.size (.slice none 0 0) [] cs (by rfl) (hnil.alloc _) ac cs.length cc (by rfl) (rc5.out.go ((Below.refl _ _).alloc (Nat.le_refl _) _)) (fun _ => rfl) (by simp; omega) (by simp) ?_))
  intro aq cq w6 hown hfq hgrow
  have hgr1 : Below w5.heap.size w5 w6 := ((Below.refl _ _).alloc (Nat.le_refl _) _).grown hgrow (by simp) (fun g hg => by simp [Value.ownBlock] at hg)
  have hz1 := hgr1.size
  have hwz := hown.lt
  go_wp2_with (at_builtin; go_must (refine wpList_append_bytes rfl _ _ (by rfl) w5.heap.size (.slice aq cs.length cq) cs [120] (by rfl) (hown.alloc _) (some ⟨w6.heap.size, 0, none⟩) 1 1 (by rfl) (rd_one w6 120 120 rfl) (fun h => by cases h) (by omega) (by simp; omega) ?_))
  intro aq2 cq2 W2 hown2 hfq2 hgrow2
  have hgr2 : Below w5.heap.size w5 W2 := (hgr1.alloc (by omega) _).grown hgrow2 (by simp; omega) (fun g hg => (hwz g hg).1)
  have hown3 : W2.ownsRow w5.heap.size 5 1 (.slice aq2 (cs.length + 1) cq2) (cs ++ [120]).length (bb (cs ++ [120])) := by rw [hl121]; exact hown2
  obtain ⟨aq3, cq3, hv3, -, rq⟩ := rd_bytes hown3 (A := (· < W2.heap.size)) (fun k hk => (hown3.lt k hk).2)
  rw [hl121] at rq hv3
  injection hv3 with hv4 hv5 hv6
  subst hv4 hv6
  have by_ : Blk w5.heap.size (.cells #[.int .i64 x.epoch, .slice ay lx cy] 33 (0, 0)) W2 := box_two (by decide) hgrow hown hgrow2
  clear hv5 hown hown2 hown3 hgrow hgrow2 hfq hfq2 hgr1 hz1 hwz hnil
  generalize W2 = w6 at *
  rename Below w5.heap.size w5 w6 => hb
  have B6 := Lib.hid (up B5.out hb)
  have g6 := Lib.hid (g5.out.below' hb)
  have rb6 := Lib.hid (rb5.out.go hb)
  have rx6 := Lib.hid (rx5.out.go hb)
  have bx6 := Lib.hid (bx5.out.go hb)
  have rc6 := Lib.hid (rc5.out.go hb)
  have ry6 := Lib.hid (ry5.out.go hb)
  have rq6 := Lib.hid rq
  have by_6 := Lib.hid by_
  clear B5 g5 rb5 rx5 bx5 rc5 ry5 hb rq by_
  go_wp2_with fail
  refine (HD2.out _ _ _ _ g6.out rq6.out).mono ?_
  rintro e w7 ⟨az, cz, rfl, -, hb, -⟩
  have B7 := Lib.hid (up B6.out hb)
  have g7 := Lib.hid (g6.out.below' hb)
  have rb7 := Lib.hid (rb6.out.go hb)
  have rx7 := Lib.hid (rx6.out.go hb)
  have bx7 := Lib.hid (bx6.out.go hb)
  have rc7 := Lib.hid (rc6.out.go hb)
  have ry7 := Lib.hid (ry6.out.go hb)
  have rq7 := Lib.hid (rq6.out.go hb)
  have by_7 := Lib.hid (by_6.out.go hb)
  clear B6 g6 rb6 rx6 bx6 rc6 ry6 rq6 by_6 hb
  clear rq7
  have q0 := bx7.out.cell 0
  have q1 := bx7.out.cell 1
  have p0 := by_7.out.cell 0
  have p1 := by_7.out.cell 1
  simp only [List.getElem?_toArray, List.getElem?_cons_zero, List.getElem?_cons_succ] at q0 q1 p0 p1
  have l0 := bx7.out.lt
  have l1' := by_7.out.lt
  go_wp2_with fail
  refine abs_run (fun W => Below w7.heap.size w7 W) (by (repeat (first | exact Below.refl _ _ | assumption | (refine Below.drew ?_) | (refine below_drewN ?_ _) | (refine Below.alloc ?_ (by first | (simp; done) | (simp; omega) | omega) _) | (refine Below.setCell ?_ (by first | (simp; done) | (simp; omega) | omega) _) | (refine Below.trans ?_ (Below.mono (by assumption) (by first | (simp; done) | (simp; omega) | omega)))))) ?_
  rintro w8 hb
  have B8 := Lib.hid (up B7.out hb)
  have g8 := Lib.hid (g7.out.below' hb)
  have rb8 := Lib.hid (rb7.out.go hb)
  have rx8 := Lib.hid (rx7.out.go hb)
  have bx8 := Lib.hid (bx7.out.go hb)
  have rc8 := Lib.hid (rc7.out.go hb)
  have ry8 := Lib.hid (ry7.out.go hb)
  have by_8 := Lib.hid (by_7.out.go hb)
  clear B7 g7 rb7 rx7 bx7 rc7 ry7 by_7 hb
  refine (HS.out _ _ _ _ _ _ _ rx8.out ry8.out).mono ?_
  rintro e w9 ⟨rfl, hb⟩
  have B9 := Lib.hid (up B8.out hb)
  have g9 := Lib.hid (g8.out.below' hb)
  have rb9 := Lib.hid (rb8.out.go hb)
  have rx9 := Lib.hid (rx8.out.go hb)
  have bx9 := Lib.hid (bx8.out.go hb)
  have rc9 := Lib.hid (rc8.out.go hb)
  have ry9 := Lib.hid (ry8.out.go hb)
  have by_9 := Lib.hid (by_8.out.go hb)
  clear B8 g8 rb8 rx8 bx8 rc8 ry8 by_8 hb
  clear rx9
  clear ry9
  clear bx9
  clear by_9
  clear q0 q1 p0 p1 l0 l1'
  have hnil : w9.ownsRow w9.heap.size 5 1 (.slice none 0 0) ([] : Bs).length (bb []) := World.ownsRow_nil _ _ _ _
  go_wp2_with (at_builtin; go_must (refine wpList_append_bytes rfl _ _ (by rfl) w9.heap.size (.slice none 0 0) [] l2 (by rfl) hnil a2 n2 c2 (by rfl) rb9.out (fun _ => rfl) (by simp; omega) (by simp) ?_))
  intro aq cq W2 hown hfq hgrow
  have hgr1 : Below w9.heap.size w9 W2 := (Below.refl _ _).grown hgrow (by simp) (fun g hg => by simp [Value.ownBlock] at hg)
  have hnl : ([] ++ l2).length = n2 := Hn2.out.symm
  have hown3 : W2.ownsRow w9.heap.size 5 1 (.slice aq l2.length cq) l2.length (bb l2) := hown
  obtain ⟨aq3, cq3, hv3, -, rq⟩ := rd_bytes hown3 (A := (· < W2.heap.size)) (fun k hk => (hown3.lt k hk).2)
  injection hv3 with hv4 hv5 hv6
  subst hv4 hv6
  clear hv5 hown hown3 hgrow hfq hnil hnl
  generalize W2 = w10 at *
  rename Below w9.heap.size w9 w10 => hb
  have B10 := Lib.hid (up B9.out hb)
  have g10 := Lib.hid (g9.out.below' hb)
  have rb10 := Lib.hid (rb9.out.go hb)
  have rc10 := Lib.hid (rc9.out.go hb)
  have rq10 := Lib.hid rq
  clear B9 g9 rb9 rc9 hb rq
  go_wp2_with fail
  refine (HD3.out _ _ _ _ g10.out rq10.out).mono ?_
  rintro e w11 ⟨az2, cz2, rfl, rz, hb, hI⟩
  have B11 := Lib.hid (up B10.out hb)
  have g11 := Lib.hid (g10.out.below' hb)
  have rb11 := Lib.hid (rb10.out.go hb)
  have rc11 := Lib.hid (rc10.out.go hb)
  have rq11 := Lib.hid (rq10.out.go hb)
  have rz11 := Lib.hid rz
  clear B10 g10 rb10 rc10 rq10 hb rz
  have HI := Lib.hid hI
  clear hI
  by_cases h : (decRec l2).2 = 0
  · obtain ⟨z0, z1⟩ := dec_inv h
    rw [h]
    have HE2 := Lib.hid (fun a n c W hg hr => encRecord_go (decRec l2).1 a n c W hg hr HI.out z0)
    rw [z1] at HE2
    clear h z0 z1 HI
    generalize (decRec l2).1 = z at *
    generalize z.op.length = lz at *
    have B0 := B11
    have g0 := g11
    have rz0 := rz11
    have rb0 := rb11
    clear B11 g11 rz11 rb11
    go_wp2_with fail
    refine abs_run (fun W => Below w11.heap.size w11 W) (by (repeat (first | exact Below.refl _ _ | assumption | (refine Below.drew ?_) | (refine below_drewN ?_ _) | (refine Below.alloc ?_ (by first | (simp; done) | (simp; omega) | omega) _) | (refine Below.setCell ?_ (by first | (simp; done) | (simp; omega) | omega) _) | (refine Below.trans ?_ (Below.mono (by assumption) (by first | (simp; done) | (simp; omega) | omega)))))) ?_
    rintro w1 hb
    have B1 := Lib.hid (up B0.out hb)
    have g1 := Lib.hid (g0.out.below' hb)
    have rz1 := Lib.hid (rz0.out.go hb)
    have rb1 := Lib.hid (rb0.out.go hb)
    clear B0 g0 rz0 rb0 hb
    refine (HE2.out _ _ _ _ g1.out rz1.out).mono ?_
    rintro e w2 ⟨ad, cd, rfl, rd, hb⟩
    have B2 := Lib.hid (up B1.out hb)
    have g2 := Lib.hid (g1.out.below' hb)
    have rz2 := Lib.hid (rz1.out.go hb)
    have rb2 := Lib.hid (rb1.out.go hb)
    have rd2 := Lib.hid rd
    clear B1 g1 rz1 rb1 hb rd
    have hcv1 := rd2.out.conv
    have hcv2 := rb2.out.conv
    generalize strOf l2 = S at *
    go_wp2_with fail
    go_ret
    exact ⟨rfl, B2.out⟩
  · rw [dec_bad h]
    generalize (decRec l2).2 = F at *
    have hF1 : (F != 0) = true := by simpa using h
    have hF2 : (F == 0) = false := by simpa using h
    clear h HI
    go_wp2_with fail
    go_ret
    exact ⟨rfl, up B11.out (by (repeat (first | exact Below.refl _ _ | assumption | (refine Below.drew ?_) | (refine below_drewN ?_ _) | (refine Below.alloc ?_ (by first | (simp; done) | (simp; omega) | omega) _) | (refine Below.setCell ?_ (by first | (simp; done) | (simp; omega) | omega) _) | (refine Below.trans ?_ (Below.mono (by assumption) (by first | (simp; done) | (simp; omega) | omega))))))⟩
end Go.Proofs.YtdbdhpjjndhjiaaDoor
