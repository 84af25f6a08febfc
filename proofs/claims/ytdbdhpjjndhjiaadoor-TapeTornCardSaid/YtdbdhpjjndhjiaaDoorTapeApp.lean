/- The walk of tape.Append at a fine tape and a fine record, where there is room. -/
import Derived.Test.YtdbdhpjjndhjiaaDoorTape
set_option linter.unusedSimpArgs false
namespace Go.Proofs.YtdbdhpjjndhjiaaDoor
open Go.RowKit

/-- the three bytes ahead of a record -/
def hdr (n : Nat) : Bs := [UInt8.ofNat (n / 65536), UInt8.ofNat (n / 256), UInt8.ofNat n]
/-- what is written for a record -/
def entry (x : Rec) : Bs := hdr (recB x).length ++ recB x
theorem blk_bytes {b t : Nat} {W : World} {cs : Array Value} {l : Bs} (h : Blk b (.cells cs t (0, 0)) W) (hc : cs = (bb l).toArray) (hl : l.length ≤ 1000000) : RdS (· < W.heap.size) W l (some ⟨b, 0, none⟩) l.length l.length := by
  subst hc
  refine ⟨rfl, Nat.le_refl _, by unfold maxLen; omega, (fun h => by cases h), fun _ => ⟨b, 0, rfl, h.lt, h.lt, fun i y hi => ⟨_, rfl, fun j u hj => ?_⟩⟩⟩
  cases j with
  | succ j => simp at hj
  | zero =>
    simp at hj
    subst hj
    have h2 := h.cell i
    show W.cell? ⟨b, 0 + i * 1 + 0, none⟩ = _
    rw [show 0 + i * 1 + 0 = i from by omega, h2]
    simp [bb, hi]
theorem hdr_cells (n : Nat) (hn : n ≤ 40010) : #[Value.int .u8 ((n : Int) / 65536), .int .u8 ((n : Int) / 256), .int .u8 ((n : Int) % 256)] = (bb (hdr n)).toArray := by
  have e1 : (UInt8.ofNat (n / 65536)).toNat = n / 65536 := ofNat_toNat' (by omega)
  have e2 : (UInt8.ofNat (n / 256)).toNat = n / 256 := ofNat_toNat' (by omega)
  have e3 : (UInt8.ofNat n).toNat = n % 256 := by simp
  simp [bb, hdr, e1, e2, e3]
theorem three_rd (w : World) (l cs : Bs) (ad ac : Option Addr) (cd cc : Nat) (rd : RdS (· < w.heap.size) w l ad l.length cd) (rc : RdS (· < w.heap.size) w cs ac cs.length cc) (n : Nat) (hn : n ≤ 40010) :
    RdS (· < ((w.alloc (.cells #[.int .u8 ((n : Int) / 65536), .int .u8 ((n : Int) / 256), .int .u8 ((n : Int) % 256)] 5)).alloc (.cells #[.slice ad l.length cd, .slice (some ⟨w.heap.size, 0, none⟩) 3 3, .slice ac cs.length cc] 25)).heap.size)
      ((w.alloc (.cells #[.int .u8 ((n : Int) / 65536), .int .u8 ((n : Int) / 256), .int .u8 ((n : Int) % 256)] 5)).alloc (.cells #[.slice ad l.length cd, .slice (some ⟨w.heap.size, 0, none⟩) 3 3, .slice ac cs.length cc] 25)) [l, hdr n, cs] (some ⟨w.heap.size + 1, 0, none⟩) 3 3 := by
  have hb : Below w.heap.size w ((w.alloc (.cells #[.int .u8 ((n : Int) / 65536), .int .u8 ((n : Int) / 256), .int .u8 ((n : Int) % 256)] 5)).alloc (.cells #[.slice ad l.length cd, .slice (some ⟨w.heap.size, 0, none⟩) 3 3, .slice ac cs.length cc] 25)) := by (repeat (first | exact Below.refl _ _ | assumption | (refine Below.drew ?_) | (refine below_drewN ?_ _) | (refine Below.alloc ?_ (by first | (simp; done) | (simp; omega) | omega) _) | (refine Below.setCell ?_ (by first | (simp; done) | (simp; omega) | omega) _) | (refine Below.trans ?_ (Below.mono (by assumption) (by first | (simp; done) | (simp; omega) | omega)))))
  refine RdS.of_slices (ls := [l, hdr n, cs]) (vs := [.slice ad l.length cd, .slice (some ⟨w.heap.size, 0, none⟩) 3 3, .slice ac cs.length cc]) (Blk.at (w.alloc _) _ (w.heap.size + 1) (by simp)) rfl (by simp) (fun i o hi => ?_)
  match i, hi with
  | 0, hi => simp at hi; subst hi; exact ⟨_, _, _, rfl, rd.go hb⟩
  | 1, hi => simp at hi; subst hi; exact ⟨_, _, _, rfl, blk_bytes (l := hdr n) ((Blk.new w _).alloc _) (hdr_cells n hn) (by simp [hdr])⟩
  | 2, hi => simp at hi; subst hi; exact ⟨_, _, _, rfl, rc.go hb⟩
  | i + 3, hi => simp at hi
theorem cat3 (l cs : Bs) (h : 1 ≤ cs.length) (hl : l.length + 3 + cs.length ≤ 8388608) (c : Nat) (a : Option Addr) (W : World) (hr : RdS (· < W.heap.size) W [l, hdr cs.length, cs] a 3 c) (S : Nat → Prop) (hS : ∀ b, W.heap.size ≤ b → S b) :
    Calls Tryd.prog 39 #[.slice a 3 c] W fun e w' => ∃ a' c', e = .returned (.slice a' (l ++ (hdr cs.length ++ cs)).length c') ∧ Flat a' ∧ RdS (fun b => S b ∧ b < w'.heap.size) w' (l ++ (hdr cs.length ++ cs)) a' (l ++ (hdr cs.length ++ cs)).length c' ∧ Below W.heap.size W w' := by
  have e : [l, hdr cs.length, cs].flatten = l ++ (hdr cs.length ++ cs) := by simp
  rw [← e]
  refine (concat_any _ a 3 c W hr (by simp) (by rw [e]; simp [hdr]; omega) (fun k hk h0 => ?_)).mono fun e w' ⟨a', c', h1, h2, h3, h4⟩ => ⟨a', c', h1, h2, h3.mono fun b hb => ⟨⟨hS b hb.1, hb.2⟩, rfl⟩, h4⟩
  match k, hk, h0 with
  | 0, _, _ => rfl
  | 1, _, h0 => simp [hdr] at h0
  | 2, _, h0 => simp at h0; subst h0; simp at h
  | k + 3, hk, _ => exact absurd hk (by simp)
theorem open_go (l : Bs) (s : Int) (a : Option Addr) (c : Nat) (w : World) (hr : RdS (· < w.heap.size) w l a l.length c) (h0 : 0 ≤ s) (h1 : s ≤ l.length) (h2 : l.length ≤ 8388608) :
    Calls Tryd.prog 38 #[.agg #[.slice a l.length c, .int .i64 s]] w fun e w' => ∃ a' c', e = .returned (.tuple #[.agg #[.slice a' l.length c', .int .i64 s], .bool true]) ∧ RdS (· < w'.heap.size) w' l a' l.length c' ∧ Below w.heap.size w w' :=
  (open_ok l s a c w hr h0 h1 h2).mono fun e w' ⟨_, h, a', c', hv, _, h3, h4⟩ => ⟨a', c', by rw [h, hv], h3.wide fun k hk => hk.2, h4⟩
set_option maxRecDepth 100000 in
set_option maxHeartbeats 4000000 in
theorem append_ok (l : Bs) (s : Int) (x : Rec) (a xa : Option Addr) (c xn xc : Nat) (w : World) (hg : Good w) (hr : RdS (· < w.heap.size) w l a l.length c) (h0 : 0 ≤ s) (h1 : s ≤ l.length)
    (hx : RdS (· < w.heap.size) w x.op xa xn xc) (x0 : checkRecord x = 0) (x1 : I64 x.epoch) (hroom : l.length + 3 + (recB x).length ≤ 8388608) :
    Calls Tryd.prog 17 #[.agg #[.slice a l.length c, .int .i64 s], .agg #[.int .i64 x.epoch, .slice xa xn xc]] w fun e w' => ∃ v, e = .returned (.tuple #[v, .int .i64 0]) ∧ TapeP w (l ++ entry x) s v w' := by
  have HO := Lib.hid (fun a c W h => open_go l s a c W h h0 h1 (by omega))
  have HE := Lib.hid (fun a n c W hg hr => encRecord_go x a n c W hg hr x1 x0)
  have HCC := Lib.hid (fun c a W hr => cat3 l (recB x) (rec_len x0).2 hroom c a W hr)
  have hbl := rec_len x0
  have g0 := Lib.hid hg
  have B0 := Lib.hid (Below.refl w.heap.size w)
  have ra0 := Lib.hid hr
  have rx0 := Lib.hid hx
  unfold entry
  generalize hcs : recB x = cs at *
  have d3 : decide ((8388608 : Int) < (l.length : Int) + 3 + (cs.length : Int)) = false := by simp; omega
  obtain ⟨N, hN⟩ : ∃ N, N = (l ++ (hdr cs.length ++ cs)).length := ⟨_, rfl⟩
  rw [← hN] at HCC
  have HN := Lib.hid hN
  clear hg hr hx hcs hN
  go_enter Tryd.func17, Tryd.ntmps17
  go_wp2_with fail
  refine abs_run (fun W => Below w.heap.size w W ∧ Blk (w.heap.size + 1) (.cells #[.int .i64 x.epoch, .slice xa xn xc] 33 (0, 0)) W ∧ Blk (w.heap.size + 1 + 1) (.cells #[.slice none 0 0, .int .i64 0] 27 (0, 0)) W) ⟨(by (repeat (first | exact Below.refl _ _ | assumption | (refine Below.drew ?_) | (refine below_drewN ?_ _) | (refine Below.alloc ?_ (by first | (simp; done) | (simp; omega) | omega) _) | (refine Below.setCell ?_ (by first | (simp; done) | (simp; omega) | omega) _) | (refine Below.trans ?_ (Below.mono (by assumption) (by first | (simp; done) | (simp; omega) | omega)))))), (Blk.at (w.alloc _) _ (w.heap.size + 1) (by simp)).alloc _, Blk.at ((w.alloc _).alloc _) _ (w.heap.size + 1 + 1) (by simp)⟩ ?_
  rintro w1 ⟨hb, bx, bo⟩
  have B1 := Lib.hid (up B0.out hb)
  have g1 := Lib.hid (g0.out.below' hb)
  have ra1 := Lib.hid (ra0.out.go hb)
  have rx1 := Lib.hid (rx0.out.go hb)
  have bx1 := Lib.hid bx
  have bo1 := Lib.hid bo
  clear B0 g0 ra0 rx0 hb bx bo
  refine (HO.out _ _ _ ra1.out).mono ?_
  rintro e w2 ⟨ad, cd, rfl, rd, hb⟩
  have B2 := Lib.hid (up B1.out hb)
  have g2 := Lib.hid (g1.out.below' hb)
  have ra2 := Lib.hid (ra1.out.go hb)
  have rx2 := Lib.hid (rx1.out.go hb)
  have bx2 := Lib.hid (bx1.out.go hb)
  have bo2 := Lib.hid (bo1.out.go hb)
  have rd2 := Lib.hid rd
  clear B1 g1 ra1 rx1 bx1 bo1 hb rd
  clear ra2
  have p0 := bx2.out.cell 0
  have p1 := bx2.out.cell 1
  simp only [List.getElem?_toArray, List.getElem?_cons_zero, List.getElem?_cons_succ] at p0 p1
  have l0 := bx2.out.lt
  have hlt2 := bo2.out.lt
  go_wp2_with fail
  refine abs_run (fun W => Below w2.heap.size w2 W ∧ Blk w2.heap.size (.cells #[.slice ad l.length cd, .int .i64 s] 27 (0, 0)) W) ⟨(by (repeat (first | exact Below.refl _ _ | assumption | (refine Below.drew ?_) | (refine below_drewN ?_ _) | (refine Below.alloc ?_ (by first | (simp; done) | (simp; omega) | omega) _) | (refine Below.setCell ?_ (by first | (simp; done) | (simp; omega) | omega) _) | (refine Below.trans ?_ (Below.mono (by assumption) (by first | (simp; done) | (simp; omega) | omega)))))), Blk.new w2 _⟩ ?_
  rintro w3 ⟨hb, bt⟩
  have B3 := Lib.hid (up B2.out hb)
  have g3 := Lib.hid (g2.out.below' hb)
  have rx3 := Lib.hid (rx2.out.go hb)
  have bx3 := Lib.hid (bx2.out.go hb)
  have bo3 := Lib.hid (bo2.out.go hb)
  have rd3 := Lib.hid (rd2.out.go hb)
  have bt3 := Lib.hid bt
  clear B2 g2 rx2 bx2 bo2 rd2 hb bt
  refine (HE.out _ _ _ _ g3.out rx3.out).mono ?_
  rintro e w4 ⟨ac, cc, rfl, rc, hb⟩
  have B4 := Lib.hid (up B3.out hb)
  have g4 := Lib.hid (g3.out.below' hb)
  have rx4 := Lib.hid (rx3.out.go hb)
  have bx4 := Lib.hid (bx3.out.go hb)
  have bo4 := Lib.hid (bo3.out.go hb)
  have rd4 := Lib.hid (rd3.out.go hb)
  have bt4 := Lib.hid (bt3.out.go hb)
  have rc4 := Lib.hid rc
  clear B3 g3 rx3 bx3 bo3 rd3 bt3 hb rc
  clear rx4
  clear bx4
  clear p0 p1 l0
  have q0 := bt4.out.cell 0
  have q1 := bt4.out.cell 1
  simp only [List.getElem?_toArray, List.getElem?_cons_zero, List.getElem?_cons_succ] at q0 q1
  have q2 := bt4.out.frozen
  go_wp2_with fail
  refine abs_run (fun W => Below w4.heap.size w4 W ∧ RdS (· < W.heap.size) W [l, hdr cs.length, cs] (some ⟨w4.heap.size + 1, 0, none⟩) 3 3) ⟨(by (repeat (first | exact Below.refl _ _ | assumption | (refine Below.drew ?_) | (refine below_drewN ?_ _) | (refine Below.alloc ?_ (by first | (simp; done) | (simp; omega) | omega) _) | (refine Below.setCell ?_ (by first | (simp; done) | (simp; omega) | omega) _) | (refine Below.trans ?_ (Below.mono (by assumption) (by first | (simp; done) | (simp; omega) | omega)))))), three_rd w4 l cs ad ac cd cc rd4.out rc4.out cs.length hbl.1⟩ ?_
  rintro w5 ⟨hb, rl⟩
  have B5 := Lib.hid (up B4.out hb)
  have g5 := Lib.hid (g4.out.below' hb)
  have bo5 := Lib.hid (bo4.out.go hb)
  have rd5 := Lib.hid (rd4.out.go hb)
  have bt5 := Lib.hid (bt4.out.go hb)
  have rc5 := Lib.hid (rc4.out.go hb)
  have rl5 := Lib.hid rl
  clear B4 g4 bo4 rd4 bt4 rc4 hb rl
  refine (HCC.out _ _ _ rl5.out (fun b => w.heap.size ≤ b ∧ b ≠ w2.heap.size ∧ b ≠ w.heap.size + 1 + 1) (fun b hb => ⟨by have := B5.out.size; omega, by have := bt5.out.lt; omega, by have := bo5.out.lt; omega⟩)).mono ?_
  rintro e w6 ⟨ax, cx, rfl, fx, rx, hb⟩
  have B6 := Lib.hid (up B5.out hb)
  have g6 := Lib.hid (g5.out.below' hb)
  have bo6 := Lib.hid (bo5.out.go hb)
  have rd6 := Lib.hid (rd5.out.go hb)
  have bt6 := Lib.hid (bt5.out.go hb)
  have rc6 := Lib.hid (rc5.out.go hb)
  have rl6 := Lib.hid (rl5.out.go hb)
  clear B5 g5 bo5 rd5 bt5 rc5 rl5 hb
  have t0 := bt6.out.cell 0
  have t1 := bt6.out.cell 1
  have t2 := bt6.out.frozen
  have o0 := bo6.out.cell 0
  have o1 := bo6.out.cell 1
  have o2 := bo6.out.frozen
  have s0 := bt6.out.lt
  have s1 := bo6.out.lt
  simp only [List.getElem?_toArray, List.getElem?_cons_zero, List.getElem?_cons_succ] at t0 t1 o0 o1
  clear rd6
  clear rc6
  clear rl6
  have RX := Lib.hid rx
  clear rx q0 q1 q2
  generalize hbT : w2.heap.size = T at *
  have hTR : T ≠ w.heap.size + 1 + 1 := by have := hlt2; omega
  go_wp2_with fail
  refine abs_ret (fun W => Blk (w.heap.size + 1 + 1) (.cells #[.slice ax N cx, .int .i64 s] 27 (0, 0)) W ∧ TapeP w (l ++ (hdr cs.length ++ cs)) s (.agg #[.slice ax N cx, .int .i64 s]) W) ⟨((bo6.out.other (p := ⟨T, 0, none⟩) hTR _).set 0 _).set 1 _, ?_⟩ ?_
  · refine ⟨ax, cx, by rw [HN.out], fx, ?_, ((B6.out.setCell (p := ⟨T, 0, none⟩) (by show w.heap.size ≤ T; omega) _).setCell (p := ⟨w.heap.size + 1 + 1, 0, none⟩) (by show w.heap.size ≤ w.heap.size + 1 + 1; omega) _).setCell (p := ⟨w.heap.size + 1 + 1, 1, none⟩) (by show w.heap.size ≤ w.heap.size + 1 + 1; omega) _⟩
    rw [← HN.out]
    refine RX.out.mono fun b hb => ?_
    obtain ⟨⟨z1, z2, z3⟩, z4⟩ := hb
    refine ⟨⟨z1, by simpa using z4⟩, ?_⟩
    rw [Below.heap_setCell _ _ _ _ (by show b ≠ w.heap.size + 1 + 1; omega), Below.heap_setCell _ _ _ _ (by show b ≠ w.heap.size + 1 + 1; omega), Below.heap_setCell _ _ _ _ (by show b ≠ T; omega)]
  rintro W ⟨hB, hT⟩
  have f0 := hB.cell 0
  have f1 := hB.cell 1
  simp only [List.getElem?_toArray, List.getElem?_cons_zero, List.getElem?_cons_succ] at f0 f1
  refine bodyPost_ret (v := .tuple #[.agg #[.slice ax N cx, .int .i64 s], .int .i64 0]) (by simp [results, Tryd.results17, go_sem, f0, f1]) rfl ?_
  exact ⟨_, rfl, hT⟩
end Go.Proofs.YtdbdhpjjndhjiaaDoor
