/- The first texts of this claim, one behind the other. -/
import Derived.Test.YtdbdhpjjndhjiaaDoorTape
import Derived.Test.YtdbdhpjjndhjiaaDoorRecMake
import Derived.BigQuiet
set_option linter.unusedSimpArgs false
namespace Go.Proofs.YtdbdhpjjndhjiaaDoor
open Go.RowKit

/-- the three bytes ahead of a record -/
def hdr (n : Nat) : Bs := [UInt8.ofNat (n / 65536), UInt8.ofNat (n / 256), UInt8.ofNat n]
/-- what is written for a record -/
def entry (x : Rec) : Bs := hdr (recB x).length ++ recB x
theorem blk_bytes {b t : Nat} {W : World} {cs : Array Value} {l : Bs} (h : Blk b (.cells cs t (0, 0)) W) (hc : cs = (bb l).toArray) (hl : l.length ≤ 1000000) : RdS (· < W.heap.size) W l (some ⟨b, 0, none⟩) l.length l.length := by
  subst hc
  refine ⟨rfl, Nat.le_refl _, by unfold maxLen; omega, (fun h => by cases h), fun _ => ⟨b, 0, rfl, h.lt, h.lt, fun i y hi => ⟨_, rfl, fun j u hj => ?_⟩⟩⟩
  cases j with
  | succ j => simp at hj
  | zero =>
    simp at hj
    subst hj
    have h2 := h.cell i
    show W.cell? ⟨b, 0 + i * 1 + 0, none⟩ = _
    rw [show 0 + i * 1 + 0 = i from by omega, h2]
    simp [bb, hi]
theorem hdr_cells (n : Nat) (hn : n ≤ 40010) : #[Value.int .u8 ((n : Int) / 65536), .int .u8 ((n : Int) / 256), .int .u8 ((n : Int) % 256)] = (bb (hdr n)).toArray := by
  have e1 : (UInt8.ofNat (n / 65536)).toNat = n / 65536 := ofNat_toNat' (by omega)
  have e2 : (UInt8.ofNat (n / 256)).toNat = n / 256 := ofNat_toNat' (by omega)
  have e3 : (UInt8.ofNat n).toNat = n % 256 := by simp
  simp [bb, hdr, e1, e2, e3]
theorem three_rd (w : World) (l cs : Bs) (ad ac : Option Addr) (cd cc : Nat) (rd : RdS (· < w.heap.size) w l ad l.length cd) (rc : RdS (· < w.heap.size) w cs ac cs.length cc) (n : Nat) (hn : n ≤ 40010) :
    RdS (· < ((w.alloc (.cells #[.int .u8 ((n : Int) / 65536), .int .u8 ((n : Int) / 256), .int .u8 ((n : Int) % 256)] 5)).alloc (.cells #[.slice ad l.length cd, .slice (some ⟨w.heap.size, 0, none⟩) 3 3, .slice ac cs.length cc] 25)).heap.size)
      ((w.alloc (.cells #[.int .u8 ((n : Int) / 65536), .int .u8 ((n : Int) / 256), .int .u8 ((n : Int) % 256)] 5)).alloc (.cells #[.slice ad l.length cd, .slice (some ⟨w.heap.size, 0, none⟩) 3 3, .slice ac cs.length cc] 25)) [l, hdr n, cs] (some ⟨w.heap.size + 1, 0, none⟩) 3 3 := by
  have hb : Below w.heap.size w ((w.alloc (.cells #[.int .u8 ((n : Int) / 65536), .int .u8 ((n : Int) / 256), .int .u8 ((n : Int) % 256)] 5)).alloc (.cells #[.slice ad l.length cd, .slice (some ⟨w.heap.size, 0, none⟩) 3 3, .slice ac cs.length cc] 25)) := by (repeat (first | exact Below.refl _ _ | assumption | (refine Below.drew ?_) | (refine below_drewN ?_ _) | (refine Below.alloc ?_ (by first | (simp; done) | (simp; omega) | omega) _) | (refine Below.setCell ?_ (by first | (simp; done) | (simp; omega) | omega) _) | (refine Below.trans ?_ (Below.mono (by assumption) (by first | (simp; done) | (simp; omega) | omega)))))
  refine RdS.of_slices (ls := [l, hdr n, cs]) (vs := [.slice ad l.length cd, .slice (some ⟨w.heap.size, 0, none⟩) 3 3, .slice ac cs.length cc]) (Blk.at (w.alloc _) _ (w.heap.size + 1) (by simp)) rfl (by simp) (fun i o hi => ?_)
  match i, hi with
  | 0, hi => simp at hi; subst hi; exact ⟨_, _, _, rfl, rd.go hb⟩
  | 1, hi => simp at hi; subst hi; exact ⟨_, _, _, rfl, blk_bytes (l := hdr n) ((Blk.new w _).alloc _) (hdr_cells n hn) (by simp [hdr])⟩
  | 2, hi => simp at hi; subst hi; exact ⟨_, _, _, rfl, rc.go hb⟩
  | i + 3, hi => simp at hi
theorem cat3 (l cs : Bs) (h : 1 ≤ cs.length) (hl : l.length + 3 + cs.length ≤ 8388608) (c : Nat) (a : Option Addr) (W : World) (hr : RdS (· < W.heap.size) W [l, hdr cs.length, cs] a 3 c) (S : Nat → Prop) (hS : ∀ b, W.heap.size ≤ b → S b) :
    Calls Tryd.prog 39 #[.slice a 3 c] W fun e w' => ∃ a' c', e = .returned (.slice a' (l ++ (hdr cs.length ++ cs)).length c') ∧ Flat a' ∧ RdS (fun b => S b ∧ b < w'.heap.size) w' (l ++ (hdr cs.length ++ cs)) a' (l ++ (hdr cs.length ++ cs)).length c' ∧ Below W.heap.size W w' := by
  have e : [l, hdr cs.length, cs].flatten = l ++ (hdr cs.length ++ cs) := by simp
  rw [← e]
  refine (concat_any _ a 3 c W hr (by simp) (by rw [e]; simp [hdr]; omega) (fun k hk h0 => ?_)).mono fun e w' ⟨a', c', h1, h2, h3, h4⟩ => ⟨a', c', h1, h2, h3.mono fun b hb => ⟨⟨hS b hb.1, hb.2⟩, rfl⟩, h4⟩
  match k, hk, h0 with
  | 0, _, _ => rfl
  | 1, _, h0 => simp [hdr] at h0
  | 2, _, h0 => simp at h0; subst h0; simp at h
  | k + 3, hk, _ => exact absurd hk (by simp)
theorem open_go (l : Bs) (s : Int) (a : Option Addr) (c : Nat) (w : World) (hr : RdS (· < w.heap.size) w l a l.length c) (h0 : 0 ≤ s) (h1 : s ≤ l.length) (h2 : l.length ≤ 8388608) :
    Calls Tryd.prog 38 #[.agg #[.slice a l.length c, .int .i64 s]] w fun e w' => ∃ a' c', e = .returned (.tuple #[.agg #[.slice a' l.length c', .int .i64 s], .bool true]) ∧ RdS (· < w'.heap.size) w' l a' l.length c' ∧ Below w.heap.size w w' :=
  (open_ok l s a c w hr h0 h1 h2).mono fun e w' ⟨_, h, a', c', hv, _, h3, h4⟩ => ⟨a', c', by rw [h, hv], h3.wide fun k hk => hk.2, h4⟩
set_option maxRecDepth 100000 in
set_option maxHeartbeats 4000000 in
theorem append_ok (l : Bs) (s : Int) (x : Rec) (a xa : Option Addr) (c xn xc : Nat) (w : World) (hg : Good w) (hr : RdS (· < w.heap.size) w l a l.length c) (h0 : 0 ≤ s) (h1 : s ≤ l.length)
    (hx : RdS (· < w.heap.size) w x.op xa xn xc) (x0 : checkRecord x = 0) (x1 : I64 x.epoch) (hroom : l.length + 3 + (recB x).length ≤ 8388608) :
    Calls Tryd.prog 17 #[.agg #[.slice a l.length c, .int .i64 s], .agg #[.int .i64 x.epoch, .slice xa xn xc]] w fun e w' => ∃ v, e = .returned (.tuple #[v, .int .i64 0]) ∧ TapeP w (l ++ entry x) s v w' := by
  have HO := Lib.hid (fun a c W h => open_go l s a c W h h0 h1 (by omega))
  have HE := Lib.hid (fun a n c W hg hr => encRecord_go x a n c W hg hr x1 x0)
  have HCC := Lib.hid (fun c a W hr => cat3 l (recB x) (rec_len x0).2 hroom c a W hr)
  have hbl := rec_len x0
  have g0 := Lib.hid hg
  have B0 := Lib.hid (Below.refl w.heap.size w)
  have ra0 := Lib.hid hr
  have rx0 := Lib.hid hx
  unfold entry
  generalize hcs : recB x = cs at *
  have d3 : decide ((8388608 : Int) < (l.length : Int) + 3 + (cs.length : Int)) = false := by simp; omega
  obtain ⟨N, hN⟩ : ∃ N, N = (l ++ (hdr cs.length ++ cs)).length := ⟨_, rfl⟩
  rw [← hN] at HCC
  have HN := Lib.hid hN
  clear hg hr hx hcs hN
  go_enter Tryd.func17, Tryd.ntmps17
  go_wp2_with fail
  refine abs_run (fun W => Below w.heap.size w W ∧ Blk (w.heap.size + 1) (.cells #[.int .i64 x.epoch, .slice xa xn xc] 33 (0, 0)) W ∧ Blk (w.heap.size + 1 + 1) (.cells #[.slice none 0 0, .int .i64 0] 27 (0, 0)) W) ⟨(by (repeat (first | exact Below.refl _ _ | assumption | (refine Below.drew ?_) | (refine below_drewN ?_ _) | (refine Below.alloc ?_ (by first | (simp; done) | (simp; omega) | omega) _) | (refine Below.setCell ?_ (by first | (simp; done) | (simp; omega) | omega) _) | (refine Below.trans ?_ (Below.mono (by assumption) (by first | (simp; done) | (simp; omega) | omega)))))), (Blk.at (w.alloc _) _ (w.heap.size + 1) (by simp)).alloc _, Blk.at ((w.alloc _).alloc _) _ (w.heap.size + 1 + 1) (by simp)⟩ ?_
  rintro w1 ⟨hb, bx, bo⟩
  have B1 := Lib.hid (up B0.out hb)
  have g1 := Lib.hid (g0.out.below' hb)
  have ra1 := Lib.hid (ra0.out.go hb)
  have rx1 := Lib.hid (rx0.out.go hb)
  have bx1 := Lib.hid bx
  have bo1 := Lib.hid bo
  clear B0 g0 ra0 rx0 hb bx bo
  refine (HO.out _ _ _ ra1.out).mono ?_
  rintro e w2 ⟨ad, cd, rfl, rd, hb⟩
  have B2 := Lib.hid (up B1.out hb)
  have g2 := Lib.hid (g1.out.below' hb)
  have ra2 := Lib.hid (ra1.out.go hb)
  have rx2 := Lib.hid (rx1.out.go hb)
  have bx2 := Lib.hid (bx1.out.go hb)
  have bo2 := Lib.hid (bo1.out.go hb)
  have rd2 := Lib.hid rd
  clear B1 g1 ra1 rx1 bx1 bo1 hb rd
  clear ra2
  have p0 := bx2.out.cell 0
  have p1 := bx2.out.cell 1
  simp only [List.getElem?_toArray, List.getElem?_cons_zero, List.getElem?_cons_succ] at p0 p1
  have l0 := bx2.out.lt
  have hlt2 := bo2.out.lt
  go_wp2_with fail
  refine abs_run (fun W => Below w2.heap.size w2 W ∧ Blk w2.heap.size (.cells #[.slice ad l.length cd, .int .i64 s] 27 (0, 0)) W) ⟨(by (repeat (first | exact Below.refl _ _ | assumption | (refine Below.drew ?_) | (refine below_drewN ?_ _) | (refine Below.alloc ?_ (by first | (simp; done) | (simp; omega) | omega) _) | (refine Below.setCell ?_ (by first | (simp; done) | (simp; omega) | omega) _) | (refine Below.trans ?_ (Below.mono (by assumption) (by first | (simp; done) | (simp; omega) | omega)))))), Blk.new w2 _⟩ ?_
  rintro w3 ⟨hb, bt⟩
  have B3 := Lib.hid (up B2.out hb)
  have g3 := Lib.hid (g2.out.below' hb)
  have rx3 := Lib.hid (rx2.out.go hb)
  have bx3 := Lib.hid (bx2.out.go hb)
  have bo3 := Lib.hid (bo2.out.go hb)
  have rd3 := Lib.hid (rd2.out.go hb)
  have bt3 := Lib.hid bt
  clear B2 g2 rx2 bx2 bo2 rd2 hb bt
  refine (HE.out _ _ _ _ g3.out rx3.out).mono ?_
  rintro e w4 ⟨ac, cc, rfl, rc, hb⟩
  have B4 := Lib.hid (up B3.out hb)
  have g4 := Lib.hid (g3.out.below' hb)
  have rx4 := Lib.hid (rx3.out.go hb)
  have bx4 := Lib.hid (bx3.out.go hb)
  have bo4 := Lib.hid (bo3.out.go hb)
  have rd4 := Lib.hid (rd3.out.go hb)
  have bt4 := Lib.hid (bt3.out.go hb)
  have rc4 := Lib.hid rc
  clear B3 g3 rx3 bx3 bo3 rd3 bt3 hb rc
  clear rx4
  clear bx4
  clear p0 p1 l0
  have q0 := bt4.out.cell 0
  have q1 := bt4.out.cell 1
  simp only [List.getElem?_toArray, List.getElem?_cons_zero, List.getElem?_cons_succ] at q0 q1
  have q2 := bt4.out.frozen
  go_wp2_with fail
  refine abs_run (fun W => Below w4.heap.size w4 W ∧ RdS (· < W.heap.size) W [l, hdr cs.length, cs] (some ⟨w4.heap.size + 1, 0, none⟩) 3 3) ⟨(by (repeat (first | exact Below.refl _ _ | assumption | (refine Below.drew ?_) | (refine below_drewN ?_ _) | (refine Below.alloc ?_ (by first | (simp; done) | (simp; omega) | omega) _) | (refine Below.setCell ?_ (by first | (simp; done) | (simp; omega) | omega) _) | (refine Below.trans ?_ (Below.mono (by assumption) (by first | (simp; done) | (simp; omega) | omega)))))), three_rd w4 l cs ad ac cd cc rd4.out rc4.out cs.length hbl.1⟩ ?_
  rintro w5 ⟨hb, rl⟩
  have B5 := Lib.hid (up B4.out hb)
  have g5 := Lib.hid (g4.out.below' hb)
  have bo5 := Lib.hid (bo4.out.go hb)
  have rd5 := Lib.hid (rd4.out.go hb)
  have bt5 := Lib.hid (bt4.out.go hb)
  have rc5 := Lib.hid (rc4.out.go hb)
  have rl5 := Lib.hid rl
  clear B4 g4 bo4 rd4 bt4 rc4 hb rl
  refine (HCC.out _ _ _ rl5.out (fun b => w.heap.size ≤ b ∧ b ≠ w2.heap.size ∧ b ≠ w.heap.size + 1 + 1) (fun b hb => ⟨by have := B5.out.size; omega, by have := bt5.out.lt; omega, by have := bo5.out.lt; omega⟩)).mono ?_
  rintro e w6 ⟨ax, cx, rfl, fx, rx, hb⟩
  have B6 := Lib.hid (up B5.out hb)
  have g6 := Lib.hid (g5.out.below' hb)
  have bo6 := Lib.hid (bo5.out.go hb)
  have rd6 := Lib.hid (rd5.out.go hb)
  have bt6 := Lib.hid (bt5.out.go hb)
  have rc6 := Lib.hid (rc5.out.go hb)
  have rl6 := Lib.hid (rl5.out.go hb)
  clear B5 g5 bo5 rd5 bt5 rc5 rl5 hb
  have t0 := bt6.out.cell 0
  have t1 := bt6.out.cell 1
  have t2 := bt6.out.frozen
  have o0 := bo6.out.cell 0
  have o1 := bo6.out.cell 1
  have o2 := bo6.out.frozen
  have s0 := bt6.out.lt
  have s1 := bo6.out.lt
  simp only [List.getElem?_toArray, List.getElem?_cons_zero, List.getElem?_cons_succ] at t0 t1 o0 o1
  clear rd6
  clear rc6
  clear rl6
  have RX := Lib.hid rx
  clear rx q0 q1 q2
  generalize hbT : w2.heap.size = T at *
  have hTR : T ≠ w.heap.size + 1 + 1 := by have := hlt2; omega
  go_wp2_with fail
  refine abs_ret (fun W => Blk (w.heap.size + 1 + 1) (.cells #[.slice ax N cx, .int .i64 s] 27 (0, 0)) W ∧ TapeP w (l ++ (hdr cs.length ++ cs)) s (.agg #[.slice ax N cx, .int .i64 s]) W) ⟨((bo6.out.other (p := ⟨T, 0, none⟩) hTR _).set 0 _).set 1 _, ?_⟩ ?_
  · refine ⟨ax, cx, by rw [HN.out], fx, ?_, ((B6.out.setCell (p := ⟨T, 0, none⟩) (by show w.heap.size ≤ T; omega) _).setCell (p := ⟨w.heap.size + 1 + 1, 0, none⟩) (by show w.heap.size ≤ w.heap.size + 1 + 1; omega) _).setCell (p := ⟨w.heap.size + 1 + 1, 1, none⟩) (by show w.heap.size ≤ w.heap.size + 1 + 1; omega) _⟩
    rw [← HN.out]
    refine RX.out.mono fun b hb => ?_
    obtain ⟨⟨z1, z2, z3⟩, z4⟩ := hb
    refine ⟨⟨z1, by simpa using z4⟩, ?_⟩
    rw [Below.heap_setCell _ _ _ _ (by show b ≠ w.heap.size + 1 + 1; omega), Below.heap_setCell _ _ _ _ (by show b ≠ w.heap.size + 1 + 1; omega), Below.heap_setCell _ _ _ _ (by show b ≠ T; omega)]
  rintro W ⟨hB, hT⟩
  have f0 := hB.cell 0
  have f1 := hB.cell 1
  simp only [List.getElem?_toArray, List.getElem?_cons_zero, List.getElem?_cons_succ] at f0 f1
  refine bodyPost_ret (v := .tuple #[.agg #[.slice ax N cx, .int .i64 s], .int .i64 0]) (by simp [results, Tryd.results17, go_sem, f0, f1]) rfl ?_
  exact ⟨_, rfl, hT⟩
end Go.Proofs.YtdbdhpjjndhjiaaDoor

set_option linter.unusedSimpArgs false
namespace Go.Proofs.YtdbdhpjjndhjiaaDoor
open Go.RowKit

/-- what a tape of these records holds -/
def tapeB (rs : List Rec) : Bs := (rs.map entry).flatten
theorem entry_len {x : Rec} (h : checkRecord x = 0) : (entry x).length ≤ 40013 ∧ 4 ≤ (entry x).length := by
  have := rec_len h
  simp [entry, hdr]; omega
theorem tapeB_next (rs : List Rec) (k : Nat) (h : k < rs.length) : tapeB (rs.take (k + 1)) = tapeB (rs.take k) ++ entry rs[k] := by
  rw [List.take_succ_eq_append_getElem h]
  simp only [tapeB, List.map_append, List.flatten_append, List.map_cons, List.map_nil, List.flatten_cons, List.flatten_nil, List.append_nil]
theorem tapeB_len (rs : List Rec) (h : ∀ r ∈ rs, checkRecord r = 0) : (tapeB rs).length ≤ 40013 * rs.length := by
  induction rs with
  | nil => simp [tapeB]
  | cons r rs ih =>
    have h1 := entry_len (h r (by simp))
    have h2 := ih fun x hx => h x (by simp [hx])
    simp [tapeB] at h2 ⊢
    omega
set_option maxRecDepth 100000 in
set_option maxHeartbeats 4000000 in
theorem taped_ok (rs : List Rec) (a : Option Addr) (n c : Nat) (w : World) (hg : Good w) (hr : RdS (· < w.heap.size) w rs a n c) (hn : n ≤ 100) (hrs : ∀ r ∈ rs, checkRecord r = 0 ∧ I64 r.epoch) :
    Calls Tryd.prog 15 #[.slice a n c] w fun e w' => ∃ a' c', e = .returned (.tuple #[.agg #[.slice a' (tapeB rs).length c', .int .i64 0], .bool true]) ∧ RdS (· < w'.heap.size) w' (tapeB rs) a' (tapeB rs).length c' ∧ Below w.heap.size w w' := by
  have hnl := hr.1
  have hnc := hr.2.1
  have hcm := hr.2.2.1
  unfold maxLen at hcm
  have Hl := Lib.hid hnl
  have Hr := Lib.hid hr
  have Hrs := Lib.hid hrs
  have HG := Lib.hid hg
  clear hnl hr hrs hg
  go_enter Tryd.func15, Tryd.ntmps15
  go_wp2_with fail
  go_loopw [11] (fun i wr => ∃ k : Nat, k ≤ n ∧ i = .int .i64 k ∧ ∃ ax cx, Blk (w.heap.size + 1) (.cells #[.slice ax (tapeB (rs.take k)).length cx, .int .i64 0] 27 (0, 0)) wr ∧ RdS (fun b => w.heap.size + 1 < b ∧ b < wr.heap.size) wr (tapeB (rs.take k)) ax (tapeB (rs.take k)).length cx ∧ Blk w.heap.size (.cells #[.slice none 0 0, .int .i64 0] 27 (0, 0)) wr ∧ Below w.heap.size w wr) (fun i _ => n - (intOf i).toNat)
  case atStart => exact ⟨0, by omega, rfl, none, 0, Blk.at (w.alloc _) _ (w.heap.size + 1) (by simp), RdS.empty _ _ _, (Blk.new w _).alloc _, by (repeat (first | exact Below.refl _ _ | assumption | (refine Below.drew ?_) | (refine below_drewN ?_ _) | (refine Below.alloc ?_ (by first | (simp; done) | (simp; omega) | omega) _) | (refine Below.setCell ?_ (by first | (simp; done) | (simp; omega) | omega) _) | (refine Below.trans ?_ (Below.mono (by assumption) (by first | (simp; done) | (simp; omega) | omega)))))⟩
  case round =>
    obtain ⟨k, hk, rfl, ax, cx, bt, rd, br, hb⟩ := hrel
    by_cases hlt : k < n
    · obtain ⟨b, off, rfl, hAb, hbs, hcs⟩ := (Hr.out.go hb).recs (by omega)
      have hkl : k < rs.length := by have := Hl.out; omega
      obtain ⟨xa, xn, xc, x1, hx, d0, d1⟩ := hcs k hkl
      have x0 := (Hrs.out rs[k] (List.getElem_mem hkl)).1
      have hz := hb.size
      have hel := entry_len x0
      have hrl := rec_len x0
      have htl : (tapeB (rs.take k)).length ≤ 40013 * k := by
        have h := tapeB_len (rs.take k) (fun r hr => (Hrs.out r (List.mem_of_mem_take hr)).1)
        rw [List.length_take] at h
        exact Nat.le_trans h (Nat.mul_le_mul_left _ (by omega))
      have Hnext := Lib.hid (tapeB_next rs k hkl)
      generalize tapeB (rs.take k) = l at *
      generalize rs[k] = x at *
      have HA := Lib.hid (fun W (u : Below wr.heap.size wr W) => append_ok l 0 x ax xa cx xn xc W (HG.out.go (upper hb u hz)) ((rd.wide fun k hk => hk.2).go u) (by omega) (by omega) (hx.go u) x0 x1 (by omega))
      have HR := Lib.hid rd
      have HBt := Lib.hid bt
      have HBr := Lib.hid br
      have HB := Lib.hid hb
      have e0 : wr.cell? ⟨w.heap.size + 1, 0, none⟩ = some (.slice ax l.length cx) := bt.cell 0
      have e1 : wr.cell? ⟨w.heap.size + 1, 1, none⟩ = some (.int .i64 0) := bt.cell 1
      have z0 := bt.lt
      obtain ⟨N, hN⟩ : ∃ N, N = (l ++ entry x).length := ⟨_, rfl⟩
      have hNl : l.length < N := by rw [hN, List.length_append]; omega
      have d3 : decide ((N : Int) ≤ (l.length : Int)) = false := by simp; omega
      have HN := Lib.hid hN
      clear hcs rd bt br hb hx x0 x1 hN
      go_wp2_with fail
      refine abs_run (fun W => Below wr.heap.size wr W ∧ Blk wr.heap.size (.cells #[.int .i64 x.epoch, .slice xa xn xc] 33 (0, 0)) W) ⟨by (repeat (first | exact Below.refl _ _ | assumption | (refine Below.drew ?_) | (refine below_drewN ?_ _) | (refine Below.alloc ?_ (by first | (simp; done) | (simp; omega) | omega) _) | (refine Below.setCell ?_ (by first | (simp; done) | (simp; omega) | omega) _) | (refine Below.trans ?_ (Below.mono (by assumption) (by first | (simp; done) | (simp; omega) | omega))))), Blk.new _ _⟩ ?_
      rintro W ⟨u, -⟩
      refine (HA.out W u).mono ?_
      rintro e W2 ⟨_, rfl, a2, c2, rfl, f2, r2, u2⟩
      rw [← HN.out] at r2 ⊢
      have hz1 := u.size
      have hz2 := u2.size
      have u3 := up u u2
      have bt2 := HBt.out.go u3
      have br2 := HBr.out.go u3
      have hb2 := upper HB.out u3 hz
      have HR2 := Lib.hid r2
      have HBt2 := Lib.hid bt2
      have HBr2 := Lib.hid br2
      have HB2 := Lib.hid hb2
      have q0 : W2.cell? ⟨w.heap.size + 1, 0, none⟩ = some (.slice ax l.length cx) := bt2.cell 0
      have q1 : W2.cell? ⟨w.heap.size + 1, 1, none⟩ = some (.int .i64 0) := bt2.cell 1
      have q2 : ∀ i, W2.frozen? ⟨w.heap.size + 1, i, none⟩ = false := bt2.frozen
      have z2 : w.heap.size + 1 < W2.heap.size := by omega
      have c0 : ∀ o, (W2.alloc o).cell? ⟨w.heap.size + 1, 0, none⟩ = some (.slice ax l.length cx) := fun o => (bt2.alloc o).cell 0
      clear e0 e1 d0 d1 r2 bt2 br2 hb2 u u2 u3 HA HR HBt HBr HB
      go_wp2_with fail
      go_roundw
      case rel =>
        refine ⟨k + 1, by omega, by go_num, a2, c2, ?_⟩
        rw [Hnext.out, ← HN.out]
        refine ⟨((HBt2.out.set 0 _).set 1 _).alloc _, HR2.out.mono fun b hb => ?_, ((HBr2.out.other (p := ⟨w.heap.size + 1, 0, none⟩) (by show w.heap.size + 1 ≠ w.heap.size; omega) _).other (p := ⟨w.heap.size + 1, 1, none⟩) (by show w.heap.size + 1 ≠ w.heap.size; omega) _).alloc _, ((HB2.out.setCell (p := ⟨w.heap.size + 1, 0, none⟩) (by show w.heap.size ≤ w.heap.size + 1; omega) _).setCell (p := ⟨w.heap.size + 1, 1, none⟩) (by show w.heap.size ≤ w.heap.size + 1; omega) _).alloc (by simp; omega) _⟩
        have y1 := hb.1
        have y2 := hb.2
        refine ⟨⟨by omega, by simp; omega⟩, ?_⟩
        refine (((Below.refl _ _).alloc (Nat.le_refl _) _).block b (by simp; omega)).trans ?_
        rw [Below.heap_setCell _ _ _ _ (by show b ≠ w.heap.size + 1; omega), Below.heap_setCell _ _ _ _ (by show b ≠ w.heap.size + 1; omega)]
      case measure => simp [intOf]; omega
    · have hkn : k = rs.length := by have := Hl.out; omega
      have ht : rs.take k = rs := by rw [hkn, List.take_length]
      rw [ht] at bt rd
      have hk2 : k = n := by omega
      have e0 : wr.cell? ⟨w.heap.size + 1, 0, none⟩ = some (.slice ax (tapeB rs).length cx) := bt.cell 0
      have e1 : wr.cell? ⟨w.heap.size + 1, 1, none⟩ = some (.int .i64 0) := bt.cell 1
      have o0 : wr.cell? ⟨w.heap.size, 0, none⟩ = some (.slice none 0 0) := br.cell 0
      have o1 : wr.cell? ⟨w.heap.size, 1, none⟩ = some (.int .i64 0) := br.cell 1
      have o2 : ∀ i, wr.frozen? ⟨w.heap.size, i, none⟩ = false := br.frozen
      have HR := Lib.hid rd
      have HBr := Lib.hid br
      have HB := Lib.hid hb
      obtain ⟨N, hN⟩ : ∃ N, N = (tapeB rs).length := ⟨_, rfl⟩
      rw [← hN] at HR e0
      have HN := Lib.hid hN
      clear hkn ht bt rd br hb hN
      go_wp2_with fail
      refine abs_ret (fun W => Blk w.heap.size (.cells #[.slice ax N cx, .int .i64 0] 27 (0, 0)) W ∧ RdS (· < W.heap.size) W (tapeB rs) ax N cx ∧ Below w.heap.size w W) ⟨(HBr.out.set 0 _).set 1 _, HR.out.mono fun b hb => ?_, (HB.out.setCell (p := ⟨w.heap.size, 0, none⟩) (Nat.le_refl _) _).setCell (p := ⟨w.heap.size, 1, none⟩) (Nat.le_refl _) _⟩ ?_
      · have y1 := hb.1
        refine ⟨by simpa using hb.2, ?_⟩
        rw [Below.heap_setCell _ _ _ _ (by show b ≠ w.heap.size; omega), Below.heap_setCell _ _ _ _ (by show b ≠ w.heap.size; omega)]
      rintro W ⟨hB, hT, hW⟩
      have f0 : W.cell? ⟨w.heap.size, 0, none⟩ = some (.slice ax N cx) := hB.cell 0
      have f1 : W.cell? ⟨w.heap.size, 1, none⟩ = some (.int .i64 0) := hB.cell 1
      refine bodyPost_ret (v := .tuple #[.agg #[.slice ax N cx, .int .i64 0], .bool true]) (by simp [results, Tryd.results15, go_sem, f0, f1]) rfl ?_
      rw [← HN.out]
      exact ⟨ax, cx, rfl, hT, hW⟩
end Go.Proofs.YtdbdhpjjndhjiaaDoor

set_option linter.unusedSimpArgs false
namespace Go.Proofs.YtdbdhpjjndhjiaaDoor
open Go.RowKit

/-- how many bytes the first k records take -/
def offR (rs : List Rec) (k : Nat) : Nat := (tapeB (rs.take k)).length
theorem tapeB_app (p q : List Rec) : tapeB (p ++ q) = tapeB p ++ tapeB q := by simp [tapeB]
theorem offR_zero (rs : List Rec) : offR rs 0 = 0 := by simp [offR, tapeB]
theorem offR_all (rs : List Rec) : offR rs rs.length = (tapeB rs).length := by simp [offR]
theorem entry_size (x : Rec) : (entry x).length = 3 + (recB x).length := by simp [entry, hdr]; omega
theorem offR_next (rs : List Rec) (k : Nat) (h : k < rs.length) : offR rs (k + 1) = offR rs k + 3 + (recB rs[k]).length := by
  unfold offR
  rw [tapeB_next rs k h, List.length_append, entry_size]; omega
theorem tapeB_split (rs : List Rec) (k : Nat) (h : k < rs.length) : tapeB rs = tapeB (rs.take k) ++ (hdr (recB rs[k]).length ++ (recB rs[k] ++ tapeB (rs.drop (k + 1)))) := by
  have e : rs = rs.take (k + 1) ++ rs.drop (k + 1) := (List.take_append_drop _ _).symm
  have e2 : tapeB rs = tapeB (rs.take (k + 1)) ++ tapeB (rs.drop (k + 1)) := by rw [← tapeB_app, ← e]
  rw [e2, tapeB_next rs k h]
  simp [entry]
theorem offR_le (rs : List Rec) (k : Nat) : offR rs k ≤ (tapeB rs).length := by
  have e : rs = rs.take k ++ rs.drop k := (List.take_append_drop _ _).symm
  have e2 : tapeB rs = tapeB (rs.take k) ++ tapeB (rs.drop k) := by rw [← tapeB_app, ← e]
  unfold offR
  rw [e2, List.length_append]; omega
theorem hdr_at (n i : Nat) (hn : n ≤ 40010) (hi : i < 3) : ∃ x : UInt8, (hdr n)[i]? = some x ∧ x.toNat = (if i = 0 then n / 65536 else if i = 1 then n / 256 else n % 256) := by
  have e1 : (UInt8.ofNat (n / 65536)).toNat = n / 65536 := ofNat_toNat' (by omega)
  have e2 : (UInt8.ofNat (n / 256)).toNat = n / 256 := ofNat_toNat' (by omega)
  have e3 : (UInt8.ofNat n).toNat = n % 256 := by simp
  match i, hi with
  | 0, _ => exact ⟨_, rfl, by simp [e1]⟩
  | 1, _ => exact ⟨_, rfl, by simp [e2]⟩
  | 2, _ => exact ⟨_, rfl, by simp [e3]⟩
/-- the header of the k'th record, in a tape of which m bytes are left -/
theorem tape_hdr (rs : List Rec) (k m i : Nat) (h : k < rs.length) (hi : i < 3) (hm : offR rs k + 3 ≤ m) : ((tapeB rs).take m)[offR rs k + i]? = (hdr (recB rs[k]).length)[i]? := by
  rw [List.getElem?_take_of_lt (by omega), tapeB_split rs k h, List.getElem?_append_right (by unfold offR; omega)]
  rw [show offR rs k + i - (tapeB (rs.take k)).length = i from by unfold offR; omega, List.getElem?_append_left (by simp [hdr]; omega)]
theorem hdr_read {W : World} {b off at_ N : Nat} {l : Bs} (hN : N ≤ 40010) (hh : ∀ i, i < 3 → l[at_ + i]? = (hdr N)[i]?) (hcs : ∀ i (h : i < l.length), W.cell? ⟨b, off + i, none⟩ = some (.int .u8 (l[i].toNat : Int))) :
    W.cell? ⟨b, off + at_, none⟩ = some (.int .u8 ((N / 65536 : Nat) : Int)) ∧ W.cell? ⟨b, off + (at_ + 1), none⟩ = some (.int .u8 ((N / 256 : Nat) : Int)) ∧ W.cell? ⟨b, off + (at_ + 2), none⟩ = some (.int .u8 ((N % 256 : Nat) : Int)) := by
  have key : ∀ i, i < 3 → ∃ x : UInt8, (hdr N)[i]? = some x ∧ W.cell? ⟨b, off + (at_ + i), none⟩ = some (.int .u8 (x.toNat : Int)) := by
    intro i hi
    obtain ⟨x, hx, _⟩ := hdr_at N i hN hi
    have h1 := (hh i hi).trans hx
    obtain ⟨h2, h3⟩ := List.getElem?_eq_some_iff.1 h1
    exact ⟨x, hx, by rw [hcs _ h2, h3]⟩
  obtain ⟨y0, e0, v0⟩ := hdr_at N 0 hN (by omega)
  obtain ⟨y1, e1, v1⟩ := hdr_at N 1 hN (by omega)
  obtain ⟨y2, e2, v2⟩ := hdr_at N 2 hN (by omega)
  obtain ⟨x0, f0, c0⟩ := key 0 (by omega)
  obtain ⟨x1, f1, c1⟩ := key 1 (by omega)
  obtain ⟨x2, f2, c2⟩ := key 2 (by omega)
  obtain rfl : y0 = x0 := Option.some.inj (e0.symm.trans f0)
  obtain rfl : y1 = x1 := Option.some.inj (e1.symm.trans f1)
  obtain rfl : y2 = x2 := Option.some.inj (e2.symm.trans f2)
  simp at v0 v1 v2
  rw [v0] at c0; rw [v1] at c1; rw [v2] at c2
  exact ⟨c0, c1, c2⟩
theorem drop_at {α : Type} (a b : List α) (n : Nat) (h : n = a.length) : (a ++ b).drop n = b := by subst h; simp
theorem take_at {α : Type} (a b : List α) (n : Nat) (h : n = a.length) : (a ++ b).take n = a := by subst h; simp
theorem tape_rec (rs : List Rec) (k m : Nat) (h : k < rs.length) (hm : offR rs k + 3 + (recB rs[k]).length ≤ m) : (((tapeB rs).take m).drop (offR rs k + 3)).take (recB rs[k]).length = recB rs[k] := by
  rw [List.drop_take, List.take_take, Nat.min_eq_left (by omega)]
  have e : tapeB rs = (tapeB (rs.take k) ++ hdr (recB rs[k]).length) ++ (recB rs[k] ++ tapeB (rs.drop (k + 1))) := by rw [tapeB_split rs k h]; simp
  rw [e, drop_at _ _ _ (by simp [offR, hdr]), take_at _ _ _ rfl]
theorem tape_upto (rs : List Rec) (k m : Nat) (hm : offR rs k ≤ m) : ((tapeB rs).take m).take (offR rs k) = tapeB (rs.take k) := by
  rw [List.take_take, Nat.min_eq_left hm]
  have e : rs = rs.take k ++ rs.drop k := (List.take_append_drop _ _).symm
  have e2 : tapeB rs = tapeB (rs.take k) ++ tapeB (rs.drop k) := by rw [← tapeB_app, ← e]
  rw [e2]
  exact take_at _ _ _ rfl
theorem offR_len (rs : List Rec) (hrs : ∀ r ∈ rs, checkRecord r = 0) : (tapeB rs).length ≤ 40013 * rs.length := tapeB_len rs hrs
theorem shl_or (N : Nat) (hn : N ≤ 40010) : bits .or .i64 (bits .or .i64 ((N : Int) / 65536 * 65536) ((N : Int) / 256 * 256)) ((N : Int) % 256) = (N : Int) := by
  have h0 : (N : Int) / 65536 * 65536 = ((0 : Nat) : Int) := by omega
  have h1 : (N : Int) / 256 * 256 = ((N / 256 * 2 ^ 8 : Nat) : Int) := by omega
  have h2 : (N : Int) % 256 = ((N % 256 : Nat) : Int) := by omega
  rw [h0, h1, h2, i64_or_nat _ _ (by omega) (by omega), i64_or_nat _ _ (by simp; omega) (by omega)]
  have e := Nat.two_pow_add_eq_or_of_lt (i := 8) (b := N % 256) (by omega) (N / 256)
  have e3 : 0 ||| N / 256 * 2 ^ 8 ||| N % 256 = N := by
    rw [Nat.zero_or, Nat.mul_comm, ← e]; omega
  rw [e3]
end Go.Proofs.YtdbdhpjjndhjiaaDoor

set_option linter.unusedSimpArgs false
namespace Go.Proofs.YtdbdhpjjndhjiaaDoor
open Go.RowKit

theorem RdS.cap {α : Type} [Rep α] {A : Nat → Prop} {w : World} {l : List α} {a : Option Addr} {n c : Nat} (hr : RdS A w l a n c) : RdS A w l a n n := by
  obtain ⟨h1, h2, h3, h4, h5⟩ := hr
  exact ⟨h1, Nat.le_refl _, by omega, fun h => by have := h4 h; omega, h5⟩
theorem open_flat (l : Bs) (s : Int) (a : Option Addr) (c : Nat) (w : World) (hr : RdS (· < w.heap.size) w l a l.length c) (h0 : 0 ≤ s) (h1 : s ≤ l.length) (h2 : l.length ≤ 8388608) :
    Calls Tryd.prog 38 #[.agg #[.slice a l.length c, .int .i64 s]] w fun e w' => ∃ a' c', e = .returned (.tuple #[.agg #[.slice a' l.length c', .int .i64 s], .bool true]) ∧ Flat a' ∧ RdS (fun b => w.heap.size ≤ b ∧ b < w'.heap.size) w' l a' l.length c' ∧ Below w.heap.size w w' :=
  (open_ok l s a c w hr h0 h1 h2).mono fun e w' ⟨_, h, a', c', hv, hf, h3, h4⟩ => ⟨a', c', by rw [h, hv], hf, h3, h4⟩
set_option maxRecDepth 100000 in
set_option maxHeartbeats 4000000 in
theorem crash_new (l : Bs) (s keep : Int) (m : Nat) (a : Option Addr) (c : Nat) (w : World) (hr : RdS (· < w.heap.size) w l a l.length c) (h0 : 0 ≤ s) (h1 : s ≤ l.length) (h2 : l.length ≤ 8388608)
    (k0 : 0 ≤ keep) (k1 : keep ≤ 1000) (hm : (m : Int) = s + min keep (l.length - s)) :
    Calls Tryd.prog 19 #[.agg #[.slice a l.length c, .int .i64 s], .int .i64 keep] w fun e w' => ∃ a' c', e = .returned (.tuple #[.agg #[.slice a' m c', .int .i64 m], .int .i64 0]) ∧ RdS (fun b => w.heap.size ≤ b ∧ b < w'.heap.size) w' (l.take m) a' m c' ∧ Below w.heap.size w w' := by
  have HO := Lib.hid (fun a c W h => open_flat l s a c W h h0 h1 h2)
  have hml : m ≤ l.length := by omega
  have g0 := Lib.hid trivial
  have B0 := Lib.hid (Below.refl w.heap.size w)
  have ra0 := Lib.hid hr
  have d1 : decide (keep < 0) = false := by simp; omega
  clear hr
  go_enter Tryd.func19, Tryd.ntmps19
  go_wp2_with fail
  refine abs_run (fun W => Below w.heap.size w W ∧ Blk (w.heap.size + 1) (.cells #[.slice none 0 0, .int .i64 0] 27 (0, 0)) W) ⟨by (repeat (first | exact Below.refl _ _ | assumption | (refine Below.drew ?_) | (refine below_drewN ?_ _) | (refine Below.alloc ?_ (by first | (simp; done) | (simp; omega) | omega) _) | (refine Below.setCell ?_ (by first | (simp; done) | (simp; omega) | omega) _) | (refine Below.trans ?_ (Below.mono (by assumption) (by first | (simp; done) | (simp; omega) | omega))))), Blk.at (w.alloc _) _ (w.heap.size + 1) (by simp)⟩ ?_
  rintro W ⟨hb, bo⟩
  refine (HO.out _ _ _ (ra0.out.go hb)).mono ?_
  rintro e W2 ⟨ad, cd, rfl, fd, rd, hb2⟩
  have y0 := bo.lt
  have y9 := hb.size
  have rd : RdS (fun b => (w.heap.size ≤ b ∧ b ≠ w.heap.size + 1) ∧ b < W2.heap.size) W2 l ad l.length cd := rd.mono fun b hb => ⟨⟨⟨by have := hb.1; omega, by have := hb.1; omega⟩, hb.2⟩, rfl⟩
  clear y9
  have bo2 := bo.go hb2
  have HB2 := Lib.hid (up hb hb2)
  have HBo := Lib.hid bo2
  have HR := Lib.hid rd
  have o0 : W2.cell? ⟨w.heap.size + 1, 0, none⟩ = some (.slice none 0 0) := bo2.cell 0
  have o1 : W2.cell? ⟨w.heap.size + 1, 1, none⟩ = some (.int .i64 0) := bo2.cell 1
  have o2 : ∀ i, W2.frozen? ⟨w.heap.size + 1, i, none⟩ = false := bo2.frozen
  have z0 := bo2.lt
  have hdn := rd.2.1
  have hcn := rd.2.2.2.1
  have HU := Lib.hid ((rd.upto m hml).cap)
  clear hb bo hb2 bo2 rd
  have i1 : (0 : Int) ≤ (m : Int) := by omega
  have i2 : (m : Int) ≤ (cd : Int) := by omega
  rcases fd with rfl | ⟨b, off, rfl⟩
  · have hc0 := hcn rfl
    subst hc0
    have hm0 : m = 0 := by omega
    clear hcn
    go_wp2_with fail
    simp only [← hm, Int.toNat_natCast]
    refine abs_ret (fun W => Blk (w.heap.size + 1) (.cells #[.slice none m m, .int .i64 m] 27 (0, 0)) W ∧ RdS (fun b => w.heap.size ≤ b ∧ b < W.heap.size) W (l.take m) none m m ∧ Below w.heap.size w W) ⟨((HBo.out.set 0 _).set 1 _).alloc _, HU.out.mono fun k hk => ?_, ((HB2.out.setCell (p := ⟨w.heap.size + 1, 0, none⟩) (by show w.heap.size ≤ w.heap.size + 1; omega) _).setCell (p := ⟨w.heap.size + 1, 1, none⟩) (by show w.heap.size ≤ w.heap.size + 1; omega) _).alloc (by simp; omega) _⟩ ?_
    · have y1 := hk.1.2
      refine ⟨⟨hk.1.1, by simp; have := hk.2; omega⟩, ?_⟩
      refine (((Below.refl _ _).alloc (Nat.le_refl _) _).block k (by simp; exact hk.2)).trans ?_
      rw [Below.heap_setCell _ _ _ _ (by show k ≠ w.heap.size + 1; omega), Below.heap_setCell _ _ _ _ (by show k ≠ w.heap.size + 1; omega)]
    rintro W ⟨hB, hT, hW⟩
    have f0 : W.cell? ⟨w.heap.size + 1, 0, none⟩ = some (.slice none m m) := hB.cell 0
    have f1 : W.cell? ⟨w.heap.size + 1, 1, none⟩ = some (.int .i64 m) := hB.cell 1
    refine bodyPost_ret (v := .tuple #[.agg #[.slice none m m, .int .i64 m], .int .i64 0]) (by simp [results, Tryd.results19, go_sem, f0, f1]) rfl ?_
    exact ⟨_, _, rfl, hT, hW⟩
  · clear hcn
    go_wp2_with fail
    simp only [← hm, Int.toNat_natCast]
    refine abs_ret (fun W => Blk (w.heap.size + 1) (.cells #[.slice (some ⟨b, off, none⟩) m m, .int .i64 m] 27 (0, 0)) W ∧ RdS (fun b => w.heap.size ≤ b ∧ b < W.heap.size) W (l.take m) (some ⟨b, off, none⟩) m m ∧ Below w.heap.size w W) ⟨((HBo.out.set 0 _).set 1 _).alloc _, HU.out.mono fun k hk => ?_, ((HB2.out.setCell (p := ⟨w.heap.size + 1, 0, none⟩) (by show w.heap.size ≤ w.heap.size + 1; omega) _).setCell (p := ⟨w.heap.size + 1, 1, none⟩) (by show w.heap.size ≤ w.heap.size + 1; omega) _).alloc (by simp; omega) _⟩ ?_
    · have y1 := hk.1.2
      refine ⟨⟨hk.1.1, by simp; have := hk.2; omega⟩, ?_⟩
      refine (((Below.refl _ _).alloc (Nat.le_refl _) _).block k (by simp; exact hk.2)).trans ?_
      rw [Below.heap_setCell _ _ _ _ (by show k ≠ w.heap.size + 1; omega), Below.heap_setCell _ _ _ _ (by show k ≠ w.heap.size + 1; omega)]
    rintro W ⟨hB, hT, hW⟩
    have f0 : W.cell? ⟨w.heap.size + 1, 0, none⟩ = some (.slice (some ⟨b, off, none⟩) m m) := hB.cell 0
    have f1 : W.cell? ⟨w.heap.size + 1, 1, none⟩ = some (.int .i64 m) := hB.cell 1
    refine bodyPost_ret (v := .tuple #[.agg #[.slice (some ⟨b, off, none⟩) m m, .int .i64 m], .int .i64 0]) (by simp [results, Tryd.results19, go_sem, f0, f1]) rfl ?_
    exact ⟨_, _, rfl, hT, hW⟩
theorem crash_ok (l : Bs) (s keep : Int) (m : Nat) (a : Option Addr) (c : Nat) (w : World) (hr : RdS (· < w.heap.size) w l a l.length c) (h0 : 0 ≤ s) (h1 : s ≤ l.length) (h2 : l.length ≤ 8388608)
    (k0 : 0 ≤ keep) (k1 : keep ≤ 1000) (hm : (m : Int) = s + min keep (l.length - s)) :
    Calls Tryd.prog 19 #[.agg #[.slice a l.length c, .int .i64 s], .int .i64 keep] w fun e w' => ∃ a' c', e = .returned (.tuple #[.agg #[.slice a' m c', .int .i64 m], .int .i64 0]) ∧ RdS (· < w'.heap.size) w' (l.take m) a' m c' ∧ Below w.heap.size w w' :=
  (crash_new l s keep m a c w hr h0 h1 h2 k0 k1 hm).mono fun e w' ⟨a', c', h1, h3, h4⟩ => ⟨a', c', h1, h3.wide fun k hk => hk.2, h4⟩
set_option maxRecDepth 100000 in
set_option maxHeartbeats 4000000 in
theorem crash_neg (l : Bs) (s keep : Int) (a : Option Addr) (c : Nat) (w : World) (hr : RdS (· < w.heap.size) w l a l.length c) (h0 : 0 ≤ s) (h1 : s ≤ l.length) (h2 : l.length ≤ 8388608) (k0 : keep < 0) :
    Calls Tryd.prog 19 #[.agg #[.slice a l.length c, .int .i64 s], .int .i64 keep] w fun e w' => e = .returned (.tuple #[.agg #[.slice none 0 0, .int .i64 0], .int .i64 2]) ∧ Below w.heap.size w w' := by
  have HO := Lib.hid (fun a c W h => open_flat l s a c W h h0 h1 h2)
  have ra0 := Lib.hid hr
  have d1 : decide (keep < 0) = true := by simp; omega
  clear hr
  go_enter Tryd.func19, Tryd.ntmps19
  go_wp2_with fail
  refine abs_run (fun W => Below w.heap.size w W ∧ Blk (w.heap.size + 1) (.cells #[.slice none 0 0, .int .i64 0] 27 (0, 0)) W) ⟨by (repeat (first | exact Below.refl _ _ | assumption | (refine Below.drew ?_) | (refine below_drewN ?_ _) | (refine Below.alloc ?_ (by first | (simp; done) | (simp; omega) | omega) _) | (refine Below.setCell ?_ (by first | (simp; done) | (simp; omega) | omega) _) | (refine Below.trans ?_ (Below.mono (by assumption) (by first | (simp; done) | (simp; omega) | omega))))), Blk.at (w.alloc _) _ (w.heap.size + 1) (by simp)⟩ ?_
  rintro W ⟨hb, bo⟩
  refine (HO.out _ _ _ (ra0.out.go hb)).mono ?_
  rintro e W2 ⟨ad, cd, rfl, fd, rd, hb2⟩
  have bo2 := bo.go hb2
  have HB2 := Lib.hid (up hb hb2)
  have HBo := Lib.hid bo2
  have o0 : W2.cell? ⟨w.heap.size + 1, 0, none⟩ = some (.slice none 0 0) := bo2.cell 0
  have o1 : W2.cell? ⟨w.heap.size + 1, 1, none⟩ = some (.int .i64 0) := bo2.cell 1
  have o2 : ∀ i, W2.frozen? ⟨w.heap.size + 1, i, none⟩ = false := bo2.frozen
  have z0 := bo2.lt
  clear hb bo hb2 bo2 rd
  go_wp2_with fail
  refine abs_ret (fun W => Blk (w.heap.size + 1) (.cells #[.slice none 0 0, .int .i64 0] 27 (0, 0)) W ∧ Below w.heap.size w W) ⟨((HBo.out.set 0 _).set 1 _).alloc _, ((HB2.out.setCell (p := ⟨w.heap.size + 1, 0, none⟩) (by show w.heap.size ≤ w.heap.size + 1; omega) _).setCell (p := ⟨w.heap.size + 1, 1, none⟩) (by show w.heap.size ≤ w.heap.size + 1; omega) _).alloc (by simp; omega) _⟩ ?_
  rintro W ⟨hB, hW⟩
  have f0 : W.cell? ⟨w.heap.size + 1, 0, none⟩ = some (.slice none 0 0) := hB.cell 0
  have f1 : W.cell? ⟨w.heap.size + 1, 1, none⟩ = some (.int .i64 0) := hB.cell 1
  refine bodyPost_ret (v := .tuple #[.agg #[.slice none 0 0, .int .i64 0], .int .i64 2]) (by simp [results, Tryd.results19, go_sem, f0, f1]) rfl ?_
  exact ⟨rfl, hW⟩
end Go.Proofs.YtdbdhpjjndhjiaaDoor

set_option linter.unusedSimpArgs false
namespace Go.Proofs.YtdbdhpjjndhjiaaDoor
open Go.RowKit

/-- the record that is made of the raw things from k on -/
def recAt (l : List Raw) (k : Nat) : Rec := match l[k]? with
  | some r => recOf r ((l.drop k).take (min (k + 2) l.length - k))
  | none => ⟨0, []⟩
def recsOf (l : List Raw) (k : Nat) : List Rec := (List.range k).map (recAt l)
theorem recAt_ok (l : List Raw) (k : Nat) (h : k < l.length) : checkRecord (recAt l k) = 0 ∧ I64 (recAt l k).epoch := by
  unfold recAt
  rw [List.getElem?_eq_getElem h]
  exact recOf_ok _ _
theorem recsOf_len (l : List Raw) (k : Nat) : (recsOf l k).length = k := by simp [recsOf]
theorem recsOf_next (l : List Raw) (k : Nat) : recsOf l (k + 1) = recsOf l k ++ [recAt l k] := by
  simp [recsOf, List.range_succ]
theorem recsOf_ok (l : List Raw) (k : Nat) (h : k ≤ l.length) : ∀ r ∈ recsOf l k, checkRecord r = 0 ∧ I64 r.epoch := by
  intro r hr
  obtain ⟨i, hi, rfl⟩ := List.mem_map.1 hr
  exact recAt_ok l i (by have := List.mem_range.1 hi; omega)
/-- what a drawn call of Record and its box hold, whichever comes first -/
def RecJ (B : Nat) (o : Rec) (n : Nat) (p : Bool) (v : Value) (q : Bool) (u : Value) (W : World) : Prop :=
  (q = true → ∃ g, u = .pointer (some ⟨g, 0, none⟩) ∧ g < W.heap.size) ∧
  (p = true → ∃ a c, v = .agg #[.int .i64 o.epoch, .slice a n c] ∧ RdS (fun b => (B ≤ b ∧ b < W.heap.size) ∧ (q = true → u ≠ .pointer (some ⟨b, 0, none⟩))) W o.op a n c)
theorem RecJ.made {B : Nat} {o : Rec} {n : Nat} {p : Bool} {v : Value} {q : Bool} {u : Value} {W W' : World} {a : Option Addr} {c : Nat} (h : RecJ B o n p v q u W) (hr : RdS (fun b => W.heap.size ≤ b ∧ b < W'.heap.size) W' o.op a n c) (hb : Below W.heap.size W W') (hB : B ≤ W.heap.size) :
    RecJ B o n true (.agg #[.int .i64 o.epoch, .slice a n c]) q u W' := by
  refine ⟨fun hq => ?_, fun _ => ⟨a, c, rfl, hr.mono fun b hb => ⟨⟨⟨Nat.le_trans hB hb.1, hb.2⟩, fun hq e => ?_⟩, rfl⟩⟩⟩
  · obtain ⟨g, e, hg⟩ := h.1 hq
    exact ⟨g, e, Nat.lt_of_lt_of_le hg hb.size⟩
  · obtain ⟨g, eg, hg⟩ := h.1 hq
    rw [eg] at e
    injection e with e
    injection e with e
    injection e with e1 e2 e3
    have := hb.1
    omega
theorem RecJ.box {B : Nat} {o : Rec} {n : Nat} {p : Bool} {v : Value} {q : Bool} {u : Value} {W : World} (h : RecJ B o n p v q u W) (ob : Obj) :
    RecJ B o n p v true (.pointer (some ⟨W.heap.size, 0, none⟩)) (W.alloc ob) := by
  refine ⟨fun _ => ⟨_, rfl, by simp⟩, fun hp => ?_⟩
  obtain ⟨a, c, e, r⟩ := h.2 hp
  refine ⟨a, c, e, r.mono fun b hb => ⟨⟨⟨hb.1.1, by have := hb.1.2; simp; omega⟩, fun _ e => ?_⟩, ((Below.refl _ W).alloc (Nat.le_refl _) ob).block b hb.1.2⟩⟩
  injection e with e
  injection e with e
  injection e with e1 e2 e3
  have := hb.1.2
  omega
theorem RecJ.put {B : Nat} {o : Rec} {n : Nat} {p : Bool} {v : Value} {g : Nat} {W W' : World} (h : RecJ B o n p v true (.pointer (some ⟨g, 0, none⟩)) W) (ht : Touch (fun z => z = g) W W') :
    RecJ B o n p v true (.pointer (some ⟨g, 0, none⟩)) W' := by
  refine ⟨fun hq => ?_, fun hp => ?_⟩
  · obtain ⟨g', e, hg⟩ := h.1 hq
    exact ⟨g', e, Nat.lt_of_lt_of_le hg ht.size⟩
  · obtain ⟨a, c, e, r⟩ := h.2 hp
    exact ⟨a, c, e, r.mono fun b hb => ⟨⟨⟨hb.1.1, Nat.lt_of_lt_of_le hb.1.2 ht.size⟩, hb.2⟩, ht.block b hb.1.2 fun e => hb.2 rfl (by have e' : b = g := e; rw [e'])⟩⟩
theorem touch2 (W : World) (g : Nat) (x y : Value) : Touch (fun z => z = g) W ((W.setCell ⟨g, 0, none⟩ x).setCell ⟨g, 1, none⟩ y) :=
  ((Touch.refl (fun z => z = g) W).setCell (p := ⟨g, 0, none⟩) (.inl rfl) _).setCell (p := ⟨g, 1, none⟩) (.inl rfl) _
set_option maxRecDepth 100000 in
set_option maxHeartbeats 4000000 in
theorem records_any (l : List Raw) (a : Option Addr) (n c m : Nat) (w : World) (hr : RdS (· < w.heap.size) w l a n c) (hm : m ≤ 1000) :
    Calls Tryd.prog 14 #[.slice a n c, .int .i64 (m : Int)] w fun e w' => ∃ a' c', e = .returned (.slice a' (min n m) c') ∧ RdS (· < w'.heap.size) w' (recsOf l (min n m)) a' (min n m) c' ∧ Below w.heap.size w w' := by
  obtain ⟨i0, hi, hz0, hz1, hz2⟩ := info_parts infoRec
  have Hi := Lib.hid hi
  have Hz0 := Lib.hid hz0
  have Hz1 := Lib.hid hz1
  have Hz2 := Lib.hid hz2
  clear hi hz0 hz1 hz2
  have hnl := hr.1
  have hnc := hr.2.1
  have hcm := hr.2.2.1
  unfold maxLen at hcm
  have Hl := Lib.hid hnl
  have Hr := Lib.hid hr
  clear hnl hr
  go_enter Tryd.func14, Tryd.ntmps14
  go_wp2_with fail
  go_loopw [5, 6] (fun v i wr => ∃ k : Nat, k ≤ n ∧ k ≤ m ∧ i = .int .i64 k ∧ Own (· < w.heap.size) w.heap.size 33 v (recsOf l k) wr ∧ Below w.heap.size w wr) (fun _ i _ => n - (intOf i).toNat)
  case atStart => exact ⟨0, by omega, by omega, rfl, Own.nil, Below.refl _ _⟩
  case round =>
    obtain ⟨k, hkn, hkm, rfl, own, hb⟩ := hrel
    by_cases hlt : k < n ∧ k < m
    · obtain ⟨hlt, hlt2⟩ := hlt
      have hz := hb.size
      obtain ⟨b, off, rfl, hAb, hbs, hcs⟩ := (Hr.out.go hb).raw (by omega)
      have hkl : k < l.length := by have := Hl.out; omega
      obtain ⟨hok, d0, d1, d2, d3, d4⟩ := hcs k hkl
      clear hcs
      obtain ⟨M, hM⟩ : ∃ M, M = min (k + 2) n := ⟨_, rfl⟩
      have hkM : k ≤ M := by omega
      have hMn : M ≤ n := by omega
      have hat : recAt l k = recOf l[k] ((l.drop k).take (M - k)) := by
        unfold recAt
        rw [List.getElem?_eq_getElem hkl, hM, ← Hl.out]
      have HR := Lib.hid (fun c' W (h : RdS (· < W.heap.size) W ((l.drop k).take (M - k)) (some ⟨b, off + k * 5, none⟩) (M - k) c') => record_any l[k] ((l.drop k).take (M - k)) (some ⟨b, off + k * 5, none⟩) (M - k) c' W h hok)
      rw [← hat] at HR
      have Hsub : Hid (∀ W c', Below w.heap.size w W → M - k ≤ c' → c' ≤ 9223372036854775807 → RdS (· < W.heap.size) W ((l.drop k).take (M - k)) (some ⟨b, off + k * 5, none⟩) (M - k) c') := fun W c' hW h1 h2 => (Hr.out.go hW).sub k (M - k) (by omega) h1 (by unfold maxLen; omega)
      have hI6 := (recAt_ok l k hkl).2
      have Hnext := Lib.hid (recsOf_next l k)
      have Hlen := Lib.hid (recsOf_len l k)
      have HI6 := Lib.hid hI6
      have HM := Lib.hid hM
      have Hown := Lib.hid own
      have HB := Lib.hid hb
      clear hat hok hI6 hM own hb
      generalize recAt l k = o at *
      unfold rawV at HR
      generalize l[k] = x at *
      obtain ⟨xk, xa, xb, xc, xt⟩ := x
      simp only at d0 d1 d2 d3 d4 HR
      generalize hno : o.op.length = no at *
      have kc : k < c := by omega
      go_wp2_with fail
      obtain ⟨Vp, HV⟩ : ∃ Vp : Nat → Value → World → Prop, Hid (Vp = fun i v W => match i with
          | 0 => v = .slice (some ⟨b, off, none⟩) n c
          | 1 => v = .int .i64 (k : Int)
          | 2 => v = .pointer (some ⟨b, off + k * 5, none⟩)
          | 3 => v = .agg #[.int .i64 xk, .int .i64 xa, .int .i64 xb, .int .i64 xc, .string xt]
          | 4 => v = .slice (some ⟨b, off, none⟩) n c
          | 5 => v = .int .i64 (k : Int)
          | 6 => v = .int .i64 (k : Int)
          | 7 => v = .int .i64 ((k : Int) + 2)
          | 8 => v = .slice (some ⟨b, off, none⟩) n c
          | 9 => v = .int .i64 (n : Int)
          | 10 => v = .int .i64 (M : Int)
          | 11 => ∃ c' : Nat, v = .slice (some ⟨b, off + k * 5, none⟩) (M - k) c' ∧ M - k ≤ c' ∧ c' ≤ 9223372036854775807
          | 12 => ∃ (a : Option Addr) (c : Nat), v = .agg #[.int .i64 o.epoch, .slice a no c]
          | 13 => ∃ g, v = .pointer (some ⟨g, 0, none⟩) ∧ wr.heap.size ≤ g ∧ Blk g (.cells #[.int .i64 0, .slice none 0 0] 33 (0, 0)) W
          | _ => v = undef) := ⟨_, rfl⟩
      obtain ⟨Ip, HIp⟩ : ∃ Ip : (Nat → Bool) → (Nat → Value) → World → Prop, Hid (Ip = fun L x W => (Below wr.heap.size wr W ∧ RecJ wr.heap.size o no (L 12) (x 12) (L 13) (x 13) W ∧ (L 14 = true → ∃ g a' c', x 13 = .pointer (some ⟨g, 0, none⟩) ∧ Blk g (.cells #[.int .i64 o.epoch, .slice a' no c'] 33 (0, 0)) W ∧ RdS (fun b => (wr.heap.size ≤ b ∧ b < W.heap.size) ∧ b ≠ g) W o.op a' no c'))) := ⟨_, rfl⟩
      refine region_lit3 (by kernel_rfl) (by kernel_rfl) (by kernel_rfl) [[], [], [0, 1], [0, 1, 2], [], [], [], [6], [], [8], [6, 7, 8, 9], [4, 5, 6, 7, 8, 9, 10], [0, 1, 2, 3, 4, 5, 6, 7, 8, 9, 10, 11], [], [0, 1, 2, 3, 4, 5, 6, 7, 8, 9, 10, 11, 12, 13]] (by kernel_rfl) [some 19, some 20, some 21, some 22, some 23, some 24, some 25, some 26, some 27, some 28, some 29, some 30, some 31, some 7, none] (by kernel_rfl) [[0, 2, 3, 12, 14], [1, 2, 3, 12, 14], [2, 3, 12, 14], [3, 12, 14], [4, 11, 12, 14], [5, 11, 12, 14], [6, 7, 10, 11, 12, 14], [7, 10, 11, 12, 14], [8, 9, 10, 11, 12, 14], [9, 10, 11, 12, 14], [10, 11, 12, 14], [11, 12, 14], [12, 14], [13, 14], [14]] (by kernel_rfl) [[], [], [], [], [], [], [], [], [], [], [], [], [], [14], []] [[], [], [0, 1], [2], [], [], [], [6], [], [8], [7, 9], [4, 5, 10], [3, 11], [], [12, 13]] (by kernel_rfl)
        Ip
        Vp
        (fun j W W' => match j with
          | 14 => Below wr.heap.size W W'
          | _ => Below W.heap.size W W')
        [fun x => ⟨#[.slice (some ⟨b, off, none⟩) n c, undef, undef, undef, undef, undef, undef, undef, undef, undef, undef, undef, undef, undef, undef, undef, undef, undef, undef, undef], []⟩,
   fun x => ⟨#[undef, undef, undef, undef, undef, undef, .int .i64 (k : Int), undef, undef, undef, undef, undef, undef, undef, undef, undef, undef, undef, undef, undef, undef], []⟩,
   fun x => ⟨#[undef, undef, undef, undef, undef, undef, undef, undef, undef, undef, undef, undef, undef, undef, undef, undef, undef, undef, undef, x 0, x 1, undef], []⟩,
   fun x => ⟨#[undef, undef, undef, undef, undef, undef, undef, undef, undef, undef, undef, undef, undef, undef, undef, undef, undef, undef, undef, undef, undef, x 2, undef], []⟩,
   fun x => ⟨#[.slice (some ⟨b, off, none⟩) n c, undef, undef, undef, undef, undef, undef, undef, undef, undef, undef, undef, undef, undef, undef, undef, undef, undef, undef, undef, undef, undef, undef, undef], []⟩,
   fun x => ⟨#[undef, undef, undef, undef, undef, undef, .int .i64 (k : Int), undef, undef, undef, undef, undef, undef, undef, undef, undef, undef, undef, undef, undef, undef, undef, undef, undef, undef], []⟩,
   fun x => ⟨#[undef, undef, undef, undef, undef, undef, .int .i64 (k : Int), undef, undef, undef, undef, undef, undef, undef, undef, undef, undef, undef, undef, undef, undef, undef, undef, undef, undef, undef], []⟩,
   fun x => ⟨#[undef, undef, undef, undef, undef, undef, undef, undef, undef, undef, undef, undef, undef, undef, undef, undef, undef, undef, undef, undef, undef, undef, undef, undef, undef, x 6, undef], []⟩,
   fun x => ⟨#[.slice (some ⟨b, off, none⟩) n c, undef, undef, undef, undef, undef, undef, undef, undef, undef, undef, undef, undef, undef, undef, undef, undef, undef, undef, undef, undef, undef, undef, undef, undef, undef, undef, undef], []⟩,
   fun x => ⟨#[undef, undef, undef, undef, undef, undef, undef, undef, undef, undef, undef, undef, undef, undef, undef, undef, undef, undef, undef, undef, undef, undef, undef, undef, undef, undef, undef, x 8, undef], []⟩,
   fun x => ⟨#[undef, undef, undef, undef, undef, undef, undef, undef, undef, undef, undef, undef, undef, undef, undef, undef, undef, undef, undef, undef, undef, undef, undef, undef, undef, undef, x 7, undef, x 9, undef], []⟩,
   fun x => ⟨#[undef, undef, undef, undef, undef, undef, undef, undef, undef, undef, undef, undef, undef, undef, undef, undef, undef, undef, undef, undef, undef, undef, undef, x 4, x 5, undef, undef, undef, undef, x 10, undef], []⟩,
   fun x => ⟨#[undef, undef, undef, undef, undef, undef, undef, undef, undef, undef, undef, undef, undef, undef, undef, undef, undef, undef, undef, undef, undef, undef, x 3, undef, undef, undef, undef, undef, undef, undef, x 11, undef], []⟩,
   fun x => ⟨#[undef, undef, undef, undef, undef, undef, undef, undef], []⟩,
   fun x => ⟨#[undef, undef, undef, undef, undef, undef, undef, x 13, undef, undef, undef, undef, undef, undef, undef, undef, undef, undef, undef, undef, undef, undef, undef, undef, undef, undef, undef, undef, undef, undef, undef, x 12], []⟩]
        ?hF ?mono ?h0 ?step [0, 1, 2, 3, 4, 5, 6, 7, 8, 9, 10, 11, 12, 14] (by kernel_rfl) ?fin
      case hF =>
        exact ⟨fun x => ⟨by kernel_rfl, by kernel_rfl⟩, fun x => ⟨by kernel_rfl, by kernel_rfl⟩, fun x => ⟨by kernel_rfl, by kernel_rfl⟩, fun x => ⟨by kernel_rfl, by kernel_rfl⟩, fun x => ⟨by kernel_rfl, by kernel_rfl⟩, fun x => ⟨by kernel_rfl, by kernel_rfl⟩, fun x => ⟨by kernel_rfl, by kernel_rfl⟩, fun x => ⟨by kernel_rfl, by kernel_rfl⟩, fun x => ⟨by kernel_rfl, by kernel_rfl⟩, fun x => ⟨by kernel_rfl, by kernel_rfl⟩, fun x => ⟨by kernel_rfl, by kernel_rfl⟩, fun x => ⟨by kernel_rfl, by kernel_rfl⟩, fun x => ⟨by kernel_rfl, by kernel_rfl⟩, fun x => ⟨by kernel_rfl, by kernel_rfl⟩, fun x => ⟨by kernel_rfl, by kernel_rfl⟩, trivial⟩
      case mono =>
        intro i j hi hj hne hna hnk v W W' hE hv
        rw [HV.out] at hv ⊢
        simp only [List.length_cons, List.length_nil] at hi hj
        match i, hi with
        | 0, _ | 1, _ | 2, _ | 3, _ | 4, _ | 5, _ | 6, _ | 7, _ | 8, _ | 9, _ | 10, _ | 11, _ | 12, _ | 14, _ => exact hv
        | 13, _ =>
          match j, hj with
          | 13, _ => exact absurd rfl hne
          | 14, _ => exact absurd (by simp) hnk
          | 0, _ => exact (by obtain ⟨g, h1, h2, h3⟩ := hv; exact ⟨g, h1, h2, h3.go hE⟩)
          | 1, _ => exact (by obtain ⟨g, h1, h2, h3⟩ := hv; exact ⟨g, h1, h2, h3.go hE⟩)
          | 2, _ => exact (by obtain ⟨g, h1, h2, h3⟩ := hv; exact ⟨g, h1, h2, h3.go hE⟩)
          | 3, _ => exact (by obtain ⟨g, h1, h2, h3⟩ := hv; exact ⟨g, h1, h2, h3.go hE⟩)
          | 4, _ => exact (by obtain ⟨g, h1, h2, h3⟩ := hv; exact ⟨g, h1, h2, h3.go hE⟩)
          | 5, _ => exact (by obtain ⟨g, h1, h2, h3⟩ := hv; exact ⟨g, h1, h2, h3.go hE⟩)
          | 6, _ => exact (by obtain ⟨g, h1, h2, h3⟩ := hv; exact ⟨g, h1, h2, h3.go hE⟩)
          | 7, _ => exact (by obtain ⟨g, h1, h2, h3⟩ := hv; exact ⟨g, h1, h2, h3.go hE⟩)
          | 8, _ => exact (by obtain ⟨g, h1, h2, h3⟩ := hv; exact ⟨g, h1, h2, h3.go hE⟩)
          | 9, _ => exact (by obtain ⟨g, h1, h2, h3⟩ := hv; exact ⟨g, h1, h2, h3.go hE⟩)
          | 10, _ => exact (by obtain ⟨g, h1, h2, h3⟩ := hv; exact ⟨g, h1, h2, h3.go hE⟩)
          | 11, _ => exact (by obtain ⟨g, h1, h2, h3⟩ := hv; exact ⟨g, h1, h2, h3.go hE⟩)
          | 12, _ => exact (by obtain ⟨g, h1, h2, h3⟩ := hv; exact ⟨g, h1, h2, h3.go hE⟩)
          | m + 15, h => exact absurd h (by omega)
        | m + 15, h => exact absurd h (by omega)
      case h0 => intro x; exact toI HIp ⟨(Below.refl _ _).drew, ⟨(fun h => by cases h), (fun h => by cases h)⟩, (fun h => by cases h)⟩
      case step =>
        refine ⟨?_, ?_, ?_, ?_, ?_, ?_, ?_, ?_, ?_, ?_, ?_, ?_, ?_, ?_, ?_, trivial⟩
        all_goals
          intro x W L hI hL hV
          replace hI : (Below wr.heap.size wr W ∧ RecJ wr.heap.size o no (L 12) (x 12) (L 13) (x 13) W ∧ (L 14 = true → ∃ g a' c', x 13 = .pointer (some ⟨g, 0, none⟩) ∧ Blk g (.cells #[.int .i64 o.epoch, .slice a' no c'] 33 (0, 0)) W ∧ RdS (fun b => (wr.heap.size ≤ b ∧ b < W.heap.size) ∧ b ≠ g) W o.op a' no c')) := ofI HIp hI
          rw [HV.out] at hV
          simp only [AllV, and_true] at hV
        · clear hV
          (try dsimp only)
          have HI := Lib.hid hI
          have HL := Lib.hid hL
          clear hI hL
          go_wp2_with fail
          refine step3_done rfl ?_ ?_ ?_
          · exact (toI HIp HI.out)
          · exact (Below.refl _ _)
          · exact (toV HV rfl)
        · clear hV
          (try dsimp only)
          have HI := Lib.hid hI
          have HL := Lib.hid hL
          clear hI hL
          go_wp2_with fail
          refine step3_done rfl ?_ ?_ ?_
          · exact (toI HIp HI.out)
          · exact (Below.refl _ _)
          · exact (toV HV rfl)
        · obtain ⟨u0, u1⟩ := hV
          simp only [u0, u1]
          clear u0 u1
          have HI := Lib.hid hI
          have HL := Lib.hid hL
          clear hI hL
          go_wp2_with fail
          refine step3_done rfl ?_ ?_ ?_
          · exact (toI HIp HI.out)
          · exact (Below.refl _ _)
          · exact (toV HV rfl)
        · have u2 := hV
          clear hV
          simp only [u2]
          clear u2
          have HI := Lib.hid hI
          have HL := Lib.hid hL
          clear hI hL
          have c0 : W.cell? ⟨b, off + k * 5, none⟩ = some (.int .i64 xk) := (HI.out.1.cell (p := ⟨b, off + k * 5, none⟩) hbs).trans d0
          have c1 : W.cell? ⟨b, off + k * 5 + 1, none⟩ = some (.int .i64 xa) := (HI.out.1.cell (p := ⟨b, off + k * 5 + 1, none⟩) hbs).trans d1
          have c2 : W.cell? ⟨b, off + k * 5 + 2, none⟩ = some (.int .i64 xb) := (HI.out.1.cell (p := ⟨b, off + k * 5 + 2, none⟩) hbs).trans d2
          have c3 : W.cell? ⟨b, off + k * 5 + 3, none⟩ = some (.int .i64 xc) := (HI.out.1.cell (p := ⟨b, off + k * 5 + 3, none⟩) hbs).trans d3
          have c4 : W.cell? ⟨b, off + k * 5 + 4, none⟩ = some (.string xt) := (HI.out.1.cell (p := ⟨b, off + k * 5 + 4, none⟩) hbs).trans d4
          clear d0 d1 d2 d3 d4
          go_wp2_with fail
          refine step3_done rfl ?_ ?_ ?_
          · exact (toI HIp HI.out)
          · exact (Below.refl _ _)
          · exact (toV HV rfl)
        · clear hV
          (try dsimp only)
          have HI := Lib.hid hI
          have HL := Lib.hid hL
          clear hI hL
          go_wp2_with fail
          refine step3_done rfl ?_ ?_ ?_
          · exact (toI HIp HI.out)
          · exact (Below.refl _ _)
          · exact (toV HV rfl)
        · clear hV
          (try dsimp only)
          have HI := Lib.hid hI
          have HL := Lib.hid hL
          clear hI hL
          go_wp2_with fail
          refine step3_done rfl ?_ ?_ ?_
          · exact (toI HIp HI.out)
          · exact (Below.refl _ _)
          · exact (toV HV rfl)
        · clear hV
          (try dsimp only)
          have HI := Lib.hid hI
          have HL := Lib.hid hL
          clear hI hL
          go_wp2_with fail
          refine step3_done rfl ?_ ?_ ?_
          · exact (toI HIp HI.out)
          · exact (Below.refl _ _)
          · exact (toV HV rfl)
        · have u6 := hV
          clear hV
          simp only [u6]
          clear u6
          have HI := Lib.hid hI
          have HL := Lib.hid hL
          clear hI hL
          go_wp2_with fail
          refine step3_done rfl ?_ ?_ ?_
          · exact (toI HIp HI.out)
          · exact (Below.refl _ _)
          · exact (toV HV rfl)
        · clear hV
          (try dsimp only)
          have HI := Lib.hid hI
          have HL := Lib.hid hL
          clear hI hL
          go_wp2_with fail
          refine step3_done rfl ?_ ?_ ?_
          · exact (toI HIp HI.out)
          · exact (Below.refl _ _)
          · exact (toV HV rfl)
        · have u8 := hV
          clear hV
          simp only [u8]
          clear u8
          have HI := Lib.hid hI
          have HL := Lib.hid hL
          clear hI hL
          go_wp2_with fail
          refine step3_done rfl ?_ ?_ ?_
          · exact (toI HIp HI.out)
          · exact (Below.refl _ _)
          · exact (toV HV rfl)
        · obtain ⟨u7, u9⟩ := hV
          simp only [u7, u9]
          clear u7 u9
          have HI := Lib.hid hI
          have HL := Lib.hid hL
          clear hI hL
          go_wp2_with fail
          refine step3_done rfl ?_ ?_ ?_
          · exact (toI HIp HI.out)
          · exact (Below.refl _ _)
          · exact (toV HV (by have h := HM.out; show Value.int _ _ = Value.int _ _; congr 1; omega))
        · obtain ⟨u4, u5, u10⟩ := hV
          simp only [u4, u5, u10]
          clear u4 u5 u10
          have HI := Lib.hid hI
          have HL := Lib.hid hL
          clear hI hL
          have i1 : (0 : Int) ≤ (k : Int) := by omega
          have i2 : (k : Int) ≤ (M : Int) := by omega
          have i3 : (M : Int) ≤ (c : Int) := by omega
          go_wp2_with fail
          refine step3_done rfl ?_ ?_ ?_
          · exact (toI HIp HI.out)
          · exact (Below.refl _ _)
          · exact (toV HV ⟨_, rfl, by omega, by omega⟩)
        · obtain ⟨u3, ⟨c9, u11, l9, m9⟩⟩ := hV
          simp only [u3, u11]
          have U11 := Lib.hid u11
          clear u3 u11
          have HI := Lib.hid hI
          have HL := Lib.hid hL
          clear hI hL
          go_wp2_with fail
          refine (HR.out _ _ (Hsub.out _ _ (upper HB.out HI.out.1 hz) l9 m9)).mono ?_
          rintro e W' ⟨a', c', rfl, hrd, uW⟩
          simp only [hno] at hrd ⊢
          have HW := Lib.hid (up HI.out.1 uW)
          have HU := Lib.hid uW
          have hzw := HI.out.1.size
          have HJ := Lib.hid (HI.out.2.1.made hrd uW hzw)
          clear uW hrd
          go_wp2_with fail
          refine step3_done rfl ?_ ?_ ?_
          · exact (toI HIp ⟨HW.out, HJ.out, fun h => absurd ((HL.out.2 14 (by simp)).symm.trans h) (by simp)⟩)
          · exact HU.out
          · exact (toV HV ⟨_, _, rfl⟩)
        · clear hV
          (try dsimp only)
          have HI := Lib.hid hI
          have HL := Lib.hid hL
          clear hI hL
          go_wp2_with fail
          have uW : ∀ o, Below W.heap.size W (W.alloc o) := fun o => (Below.refl _ _).alloc (Nat.le_refl _) o
          have hsz := HI.out.1.size
          refine step3_done rfl ?_ ?_ ?_
          · exact (toI HIp ⟨up HI.out.1 (uW _), HI.out.2.1.box _, fun h => absurd ((HL.out.2 14 (by simp)).symm.trans h) (by simp)⟩)
          · exact (uW _)
          · exact (toV HV ⟨_, rfl, hsz, Blk.new _ _⟩)
        · obtain ⟨⟨a12, c12, u12⟩, ⟨g13, u13, l13, b13⟩⟩ := hV
          simp only [u13, u12]
          have U12 := Lib.hid u12
          have U13 := Lib.hid u13
          clear u12 u13
          have HI := Lib.hid hI
          have HL := Lib.hid hL
          clear hI hL
          have c0 : W.cell? ⟨g13, 0, none⟩ = some (.int .i64 0) := b13.cell 0
          have c1 : W.cell? ⟨g13, 1, none⟩ = some (.slice none 0 0) := b13.cell 1
          have cf := b13.frozen
          have hJ := HI.out.2.1
          rw [HL.out.1 12 (by simp), HL.out.1 13 (by simp), U13.out] at hJ
          have hT := touch2 W g13 (.int .i64 o.epoch) (.slice a12 no c12)
          have hJ' := hJ.put hT
          obtain ⟨a', c', e12, r12⟩ := hJ'.2 rfl
          have hac := U12.out.symm.trans e12
          simp at hac
          obtain ⟨rfl, rfl⟩ := hac
          have HN : Hid (Below wr.heap.size W ((W.setCell ⟨g13, 0, none⟩ (.int .i64 o.epoch)).setCell ⟨g13, 1, none⟩ (.slice a12 no c12)) ∧ RecJ wr.heap.size o no (L 12) (x 12) (L 13) (x 13) ((W.setCell ⟨g13, 0, none⟩ (.int .i64 o.epoch)).setCell ⟨g13, 1, none⟩ (.slice a12 no c12)) ∧ ∃ g a' c', x 13 = .pointer (some ⟨g, 0, none⟩) ∧ Blk g (.cells #[.int .i64 o.epoch, .slice a' no c'] 33 (0, 0)) ((W.setCell ⟨g13, 0, none⟩ (.int .i64 o.epoch)).setCell ⟨g13, 1, none⟩ (.slice a12 no c12)) ∧ RdS (fun b => (wr.heap.size ≤ b ∧ b < ((W.setCell ⟨g13, 0, none⟩ (.int .i64 o.epoch)).setCell ⟨g13, 1, none⟩ (.slice a12 no c12)).heap.size) ∧ b ≠ g) ((W.setCell ⟨g13, 0, none⟩ (.int .i64 o.epoch)).setCell ⟨g13, 1, none⟩ (.slice a12 no c12)) o.op a' no c') := by
            refine ⟨hT.toBelow HI.out.1.size (fun k hk => by subst hk; exact l13), ?_, g13, a12, c12, U13.out, (b13.set 0 _).set 1 _, r12.mono fun b hb => ⟨⟨hb.1, fun e => hb.2 rfl (by rw [e])⟩, rfl⟩⟩
            rw [HL.out.1 12 (by simp), HL.out.1 13 (by simp), U13.out]
            exact hJ'
          clear b13 hJ hT hJ' e12 r12
          go_wp2_with fail
          refine step3_done (v := undef) rfl ?_ ?_ ?_
          · exact (toI HIp ⟨HI.out.1.trans HN.out.1, HN.out.2.1, fun _ => HN.out.2.2⟩)
          · exact HN.out.1
          · exact (toV HV rfl)
      case fin =>
        intro x W L hL hI hV
        replace hI : (Below wr.heap.size wr W ∧ RecJ wr.heap.size o no (L 12) (x 12) (L 13) (x 13) W ∧ (L 14 = true → ∃ g a' c', x 13 = .pointer (some ⟨g, 0, none⟩) ∧ Blk g (.cells #[.int .i64 o.epoch, .slice a' no c'] 33 (0, 0)) W ∧ RdS (fun b => (wr.heap.size ≤ b ∧ b < W.heap.size) ∧ b ≠ g) W o.op a' no c')) := ofI HIp hI
        rw [HV.out] at hV
        simp only [AllV, and_true] at hV
        obtain ⟨u0, u1, u2, u3, u4, u5, u6, u7, u8, u9, u10, ⟨c9, u11, l9, m9⟩, ⟨a12, c12, u12⟩, u14⟩ := hV
        simp only [getsD, List.getD_cons_succ, List.getD_cons_zero, List.length_cons, List.length_nil, List.range, List.range.loop, u0, u1, u2, u3, u4, u5, u6, u7, u8, u9, u10, u11, u12, u14, Act.put, List.setIfInBounds_toArray, List.set_cons_succ, List.set_cons_zero]
        clear u0 u1 u2 u3 u4 u5 u6 u7 u8 u9 u10 u11 u12 u14
        obtain ⟨g, a', c', e7, bg, rg⟩ := hI.2.2 (hL 14 (by simp))
        have d0 : W.cell? ⟨g, 0, none⟩ = some (.int .i64 o.epoch) := bg.cell 0
        have d1 : W.cell? ⟨g, 1, none⟩ = some (.slice a' no c') := bg.cell 1
        have Hzz := Lib.hid (hI.1.size)
        have HB2 := Lib.hid (upper HB.out hI.1 hz)
        have HO2 := Lib.hid (Hown.out.go hI.1)
        have HR2 := Lib.hid rg
        have Hro := Lib.hid Hown.out.rowlt
        obtain ⟨a5, c5, hv5⟩ := Hown.out.form
        simp only [e7]
        clear hI hL bg rg e7 HB HR Hsub
        have hl5 := Hlen.out
        rw [hl5] at hv5
        subst hv5
        have Hrd : Hid (∀ W', Below W.heap.size W W' → Rep.rd (fun b => b < W'.heap.size ∧ ¬ b < w.heap.size ∧ (Value.slice a5 k c5).ownBlock ≠ some b) W' o [.int .i64 o.epoch, .slice a' no c']) := fun W' hW => ⟨a', no, c', rfl, HI6.out, HR2.out.mono fun b hb => ⟨⟨Nat.lt_of_lt_of_le hb.1.2 hW.size, by have := hb.1.1; omega, fun e => by have := (Hro.out b e).2; have := hb.1.1; omega⟩, hW.block b hb.1.2⟩⟩
        have Hu : Hid (∀ o, Below W.heap.size W (W.alloc o)) := fun o => (Below.refl _ _).alloc (Nat.le_refl _) o
        clear Hown
        go_wp2_with (at_builtin; refine wpList_append_one rfl _ _ _ (by rfl) w.heap.size 33 i0 _ 32 Tryd.underlying23 Hi.out Hz0.out Hz1.out Hz2.out rfl (.slice a5 k c5) (recsOf l k) (by rfl) (HO2.out.go (Hu.out _)) W.heap.size 1 _ [.int .i64 o.epoch, .slice a' no c'] o (by rfl) (Blk.new W _) (Hrd.out _ (Hu.out _)) (by rw [Hlen.out]; unfold maxLen; omega) (by rw [Hlen.out]; omega) (by have := Hzz.out; simp; omega) ?_)
        intro g2 cap w5 hown5 hgrow hat hlt5
        have hzz := Hzz.out
        have hb5 : Below w.heap.size w w5 := (upper HB2.out (Hu.out _) (by omega)).grown hgrow (by simp; omega) (fun g hg => (Hro.out g hg).1)
        rw [← Hnext.out] at hown5
        try rw [Hlen.out] at hown5
        try rw [Hlen.out]
        have HO5 := Lib.hid hown5
        have HB5 := Lib.hid hb5
        clear hown5 hgrow hat hb5 HO2 HB2 Hrd HR2
        go_wp2_with fail
        go_roundw
        case rel => exact ⟨k + 1, by omega, by omega, by go_num, HO5.out, HB5.out⟩
        case measure => simp [intOf]; omega
    · have hk : k = min n m := by omega
      obtain ⟨a5, c5, hv, hr5⟩ := own.rdw
      rw [recsOf_len] at hv hr5
      subst hv
      have G : Hid (∃ a' c', Ending.returned (.slice a5 k c5) = .returned (.slice a' (min n m) c') ∧ RdS (· < wr.heap.size) wr (recsOf l (min n m)) a' (min n m) c' ∧ Below w.heap.size w wr) := by rw [← hk]; exact ⟨_, _, rfl, hr5, hb⟩
      have hway : (k < n ∧ ¬ k < m) ∨ ¬ k < n := by omega
      clear own hb hr5 hk hlt
      rcases hway with ⟨h1, h2⟩ | h1 <;>
      · go_wp2_with fail
        go_ret
        exact G.out
end Go.Proofs.YtdbdhpjjndhjiaaDoor

set_option linter.unusedSimpArgs false
namespace Go.Proofs.YtdbdhpjjndhjiaaDoor
open Go.RowKit

/-- what a call of Recover leaves: the records that are whole, and their bytes -/
def RecovP (rs : List Rec) (m : Nat) (s : Int) (w : World) (e : Ending) (w' : World) : Prop :=
  ∃ (j : Nat) (ao au : Option Addr) (co cu : Nat), j ≤ rs.length ∧ offR rs j ≤ m ∧ (j < rs.length → m < offR rs (j + 1)) ∧
    e = .returned (.tuple #[.slice ao j co, .agg #[.slice au (offR rs j) cu, .int .i64 (min s (offR rs j : Nat))], .int .i64 0]) ∧
    RdS (· < w'.heap.size) w' (rs.take j) ao j co ∧ RdS (· < w'.heap.size) w' (tapeB (rs.take j)) au (offR rs j) cu ∧ Below w.heap.size w w'
set_option maxRecDepth 100000 in
set_option maxHeartbeats 8000000 in
theorem recover_ok (rs : List Rec) (hrs : ∀ r ∈ rs, checkRecord r = 0 ∧ I64 r.epoch) (hlen : rs.length ≤ 100) (m : Nat) (hm : m ≤ (tapeB rs).length) (s : Int) (h0 : 0 ≤ s) (h1 : s ≤ m) (a : Option Addr) (c : Nat) (w : World) (hg : Good w) (hr : RdS (· < w.heap.size) w ((tapeB rs).take m) a m c) :
    Calls Tryd.prog 28 #[.agg #[.slice a m c, .int .i64 s]] w (RecovP rs m s w) := by
  have htl := tapeB_len rs (fun r h => (hrs r h).1)
  have hm8 : m ≤ 4001300 := by omega
  have HH := Lib.hid (fun k (h : k < rs.length) (hm : offR rs k + 3 ≤ m) i (hi : i < 3) => tape_hdr rs k m i h hi hm)
  have HT := Lib.hid (fun k h hm => tape_rec rs k m h hm)
  have HU := Lib.hid (fun k hm => tape_upto rs k m hm)
  have Hrs := Lib.hid hrs
  have Hnx := Lib.hid (offR_next rs)
  have Hall := Lib.hid (offR_all rs)
  have Hm := Lib.hid hm
  obtain ⟨i0, hi, hz0, hz1, hz2⟩ := info_parts infoRec
  have Hi := Lib.hid hi
  have Hz0 := Lib.hid hz0
  have Hz1 := Lib.hid hz1
  have Hz2 := Lib.hid hz2
  clear hi hz0 hz1 hz2 htl hm hrs
  have hlm : ((tapeB rs).take m).length = m := by rw [List.length_take]; have := Hm.out; omega
  generalize (tapeB rs).take m = l at *
  have HO : Hid (∀ a c W, RdS (· < W.heap.size) W l a m c → Calls Tryd.prog 38 #[.agg #[.slice a m c, .int .i64 s]] W fun e w' => ∃ a' c', e = .returned (.tuple #[.agg #[.slice a' m c', .int .i64 s], .bool true]) ∧ Flat a' ∧ RdS (fun b => W.heap.size ≤ b ∧ b < w'.heap.size) w' l a' m c' ∧ Below W.heap.size W w') := by
    subst hlm
    exact fun a c W h => open_flat l s a c W h h0 h1 (by omega)
  have Hlm := Lib.hid hlm
  have HG := Lib.hid hg
  have Hr := Lib.hid hr
  clear hlm hg hr
  go_enter Tryd.func28, Tryd.ntmps28
  go_wp2_with fail
  refine abs_run (fun W => Below w.heap.size w W ∧ Blk (w.heap.size + 1) (.cells #[.slice none 0 0, .int .i64 0] 27 (0, 0)) W) ⟨by (repeat (first | exact Below.refl _ _ | assumption | (refine Below.drew ?_) | (refine below_drewN ?_ _) | (refine Below.alloc ?_ (by first | (simp; done) | (simp; omega) | omega) _) | (refine Below.setCell ?_ (by first | (simp; done) | (simp; omega) | omega) _) | (refine Below.trans ?_ (Below.mono (by assumption) (by first | (simp; done) | (simp; omega) | omega))))), Blk.at (w.alloc _) _ (w.heap.size + 1) (by simp)⟩ ?_
  rintro W ⟨hb, bo⟩
  refine (HO.out _ _ _ (Hr.out.go hb)).mono ?_
  rintro e W2 ⟨ax, cx, rfl, fx, rx, hb2⟩
  have z0 := bo.lt
  have z2 := hb2.size
  have zw := hb.size
  have rx : RdS (fun b => b ≠ w.heap.size + 1 ∧ b < W2.heap.size) W2 l ax m cx := rx.mono fun b hb => ⟨⟨by have := hb.1; omega, hb.2⟩, rfl⟩
  have hcx := rx.2.1
  have bo2 := bo.go hb2
  have HB := Lib.hid (up hb hb2)
  have HBo := Lib.hid bo2
  have HX := Lib.hid rx
  clear hb hb2 bo bo2 rx HO Hr
  go_wp2_with fail
  refine abs_w (fun W => Below w.heap.size w W ∧ Blk (w.heap.size + 1) (.cells #[.slice none 0 0, .int .i64 0] 27 (0, 0)) W ∧ Blk W2.heap.size (.cells #[.slice ax m cx, .int .i64 s] 27 (0, 0)) W ∧ RdS (fun b => b ≠ w.heap.size + 1 ∧ b < W2.heap.size) W l ax m cx ∧ W2.heap.size + 1 ≤ W.heap.size)
    ⟨by have := HB.out; (repeat (first | exact Below.refl _ _ | assumption | (refine Below.drew ?_) | (refine below_drewN ?_ _) | (refine Below.alloc ?_ (by first | (simp; done) | (simp; omega) | omega) _) | (refine Below.setCell ?_ (by first | (simp; done) | (simp; omega) | omega) _) | (refine Below.trans ?_ (Below.mono (by assumption) (by first | (simp; done) | (simp; omega) | omega))))), HBo.out.alloc _, Blk.new _ _, HX.out.mono fun b hb => ⟨hb, ((Below.refl _ _).alloc (Nat.le_refl _) _).block b hb.2⟩, by simp⟩ ?_
  rintro w1 H1
  have hw1 := H1.2.2.2.2
  have H1 := Lib.hid H1
  clear HB HBo HX
  go_loopw [7, 8] (fun v i wr => ∃ k : Nat, k ≤ rs.length ∧ offR rs k ≤ m ∧ i = .int .i64 (offR rs k : Nat) ∧ Own (fun b => b < W2.heap.size + 1) (W2.heap.size + 1) 33 v (rs.take k) wr ∧ Below w.heap.size w wr ∧ Blk (w.heap.size + 1) (.cells #[.slice none 0 0, .int .i64 0] 27 (0, 0)) wr ∧ Blk W2.heap.size (.cells #[.slice ax m cx, .int .i64 s] 27 (0, 0)) wr ∧ RdS (fun b => b ≠ w.heap.size + 1 ∧ b < W2.heap.size) wr l ax m cx ∧ W2.heap.size + 1 ≤ wr.heap.size) (fun _ i _ => m - (intOf i).toNat)
  case atStart => exact ⟨0, by omega, by rw [offR_zero]; omega, by rw [offR_zero]; rfl, Own.nil, H1.out.1, H1.out.2.1, H1.out.2.2.1, H1.out.2.2.2.1, hw1⟩
  case round =>
    obtain ⟨k, hk, hkm, rfl, own, hb, bo, bt, rx, hz⟩ := hrel
    clear H1
    have q0 : wr.cell? ⟨W2.heap.size, 0, none⟩ = some (.slice ax m cx) := bt.cell 0
    have q1 : wr.cell? ⟨W2.heap.size, 1, none⟩ = some (.int .i64 s) := bt.cell 1
    have qz := bt.lt
    by_cases hgo : ∃ h : k < rs.length, offR rs k + 3 + (recB rs[k]).length ≤ m
    · obtain ⟨hkl, hnm⟩ := hgo
      obtain ⟨b, off, rfl, hAb, hbs, hcs⟩ := rx.byte (by omega)
      have x0 := Hrs.out rs[k] (List.getElem_mem hkl)
      have hnx := Hnx.out k hkl
      have hnl := (rec_len x0.1).1
      have hh := HH.out k hkl (by omega)
      have htr := HT.out k hkl hnm
      have HRo := Lib.hid own
      have HB := Lib.hid hb
      have HBo := Lib.hid bo
      have HBt := Lib.hid bt
      have HX := Lib.hid rx
      have Hnext := Lib.hid (take_next rs k hkl)
      have HD : Hid (∀ a c W, Good W → RdS (· < W.heap.size) W (recB rs[k]) a (recB rs[k]).length c → Calls Tryd.prog 21 #[.slice a (recB rs[k]).length c] W fun e w' => ∃ a' c', e = .returned (.tuple #[.agg #[.int .i64 rs[k].epoch, .slice a' rs[k].op.length c'], .int .i64 0]) ∧ RdS (fun b => W.heap.size ≤ b ∧ b < w'.heap.size) w' rs[k].op a' rs[k].op.length c' ∧ Below W.heap.size W w') := by
        intro a c W hg hr
        have h := decRecord_any (recB rs[k]) a (recB rs[k]).length c W hg hr
        rw [dec_enc x0.1] at h
        exact h.mono fun e w' ⟨a', c', h1, h2, h3, _⟩ => ⟨a', c', h1, h2, h3⟩
      have n1 := (rec_len x0.1).2
      have HI := Lib.hid x0.2
      have HTr : Hid (∀ W c', Below wr.heap.size wr W → (recB rs[k]).length ≤ c' → c' ≤ maxLen → RdS (· < W.heap.size) W (recB rs[k]) (some ⟨b, off + (offR rs k + 3), none⟩) (recB rs[k]).length c') := by
        intro W c' hW h1 h2
        have h3 := (rx.mono (w' := W) (A' := (· < W.heap.size)) fun b hb => ⟨by have := hb.2; have := hW.size; omega, hW.block b (by have := hb.2; omega)⟩).sub (offR rs k + 3) (recB rs[k]).length (by omega) h1 h2
        rw [htr] at h3
        rw [show off + (offR rs k + 3) * Rep.n UInt8 = off + (offR rs k + 3) from by show off + (offR rs k + 3) * 1 = _; omega] at h3
        exact h3
      have hcm : cx ≤ maxLen := rx.2.2.1
      unfold maxLen at hcm
      clear htr x0
      generalize rs[k] = x at *
      generalize hno : x.op.length = no at *
      generalize hN : (recB x).length = N at *
      clear own hb bo bt rx
      have Hat := Lib.hid (p := (offR rs k = offR rs k)) rfl
      generalize offR rs k = at_ at *
      obtain ⟨c0, c1, c2⟩ := hdr_read hnl hh hcs
      have j0 : at_ + 2 < m := by omega
      have j1 : at_ + 3 + N ≤ m := by omega
      have t1 : ((at_ : Int) + 1).toNat = at_ + 1 := by omega
      have t2 : ((at_ : Int) + 2).toNat = at_ + 2 := by omega
      clear hcs hh
      go_wp2_with fail
      have hbt := shl_or N hnl
      go_quiet (fail)
      have t3 : ((at_ : Int) + 3).toNat = at_ + 3 := by omega
      have t4 : ((at_ : Int) + 3 + (N : Int)).toNat = at_ + 3 + N := by omega
      clear hbt c0 c1 c2
      go_wp2_with fail
      refine abs_run (fun W => Below wr.heap.size wr W) (below_drewN (Below.refl _ _) _) ?_
      intro W3 hb3
      refine (HD.out _ _ _ (HG.out.go (up HB.out hb3)) (HTr.out W3 _ hb3 (by omega) (by unfold maxLen; omega))).mono ?_
      rintro e W4 ⟨ay, cy, rfl, ry, hb4⟩
      have z3 := hb3.size
      have z4 := hb4.size
      have hb5 := up hb3 hb4
      have HB5 := Lib.hid (up HB.out hb5)
      have HBo5 := Lib.hid (HBo.out.go hb5)
      have HBt5 := Lib.hid (HBt.out.go hb5)
      have HX5 := Lib.hid (HX.out.mono (w' := W4) fun b hb => ⟨hb, hb5.block b (by have := hb.2; omega)⟩)
      have HO5 := Lib.hid (HRo.out.go hb5)
      have HY := Lib.hid ry
      have Hro := Lib.hid HRo.out.rowlt
      obtain ⟨a5, c5, hv5⟩ := HRo.out.form
      have hlk : (rs.take k).length = k := by rw [List.length_take]; omega
      have Hlk := Lib.hid hlk
      rw [hlk] at hv5
      subst hv5
      clear HB HBo HBt HX HRo hb3 hb4 hb5 ry q0 q1 qz hlk HD HTr
      have Hrd : Hid (∀ W', Below W4.heap.size W4 W' → Rep.rd (fun b => b < W'.heap.size ∧ ¬ b < W2.heap.size + 1 ∧ (Value.slice a5 k c5).ownBlock ≠ some b) W' x [.int .i64 x.epoch, .slice ay no cy]) := fun W' hW => ⟨ay, no, cy, rfl, HI.out, HY.out.mono fun b hb => ⟨⟨Nat.lt_of_lt_of_le hb.2 hW.size, by have := hb.1; omega, fun e => by have := (Hro.out b e).2; have := hb.1; omega⟩, hW.block b hb.2⟩⟩
      have Hu : Hid (∀ o o', Below W4.heap.size W4 ((W4.alloc o).alloc o')) := fun o o' => ((Below.refl _ _).alloc (Nat.le_refl _) o).alloc (by simp) o'
      have HB4 : Hid (∀ o, Blk (W4.heap.size + 1) o ((W4.alloc (.cells #[.int .i64 x.epoch, .slice ay no cy] 33)).alloc o)) := fun o => Blk.at (W4.alloc _) o (W4.heap.size + 1) (by simp)
      have Hkl : Hid (k < 100) := (by omega : k < 100)
      go_wp2_with (at_builtin; refine wpList_append_one rfl _ _ _ (by rfl) (W2.heap.size + 1) 33 i0 _ 32 Tryd.underlying23 Hi.out Hz0.out Hz1.out Hz2.out rfl (.slice a5 k c5) (rs.take k) (by rfl) (HO5.out.go (Hu.out _ _)) (W4.heap.size + 1) 1 _ [.int .i64 x.epoch, .slice ay no cy] x (by rfl) (HB4.out _) (Hrd.out _ (Hu.out _ _)) (by rw [Hlk.out]; have := Hkl.out; unfold maxLen; omega) (by rw [Hlk.out]; have := Hkl.out; omega) (by simp; omega) ?_)
      intro g2 cap w5 hown5 hgrow hat hlt5
      have hu := Hu.out (.cells #[.int .i64 x.epoch, .slice ay no cy] 33) (.cells #[.int .i64 x.epoch, .slice ay no cy] 33)
      have hob : ∀ b, b < W2.heap.size + 1 → some b ≠ (Value.slice a5 k c5).ownBlock := fun b hb e => by have := (Hro.out b e.symm).1; omega
      have HB6 := Lib.hid ((upper HB5.out hu (by omega)).grown hgrow (by simp; omega) (fun g hg => by have := (Hro.out g hg).1; omega))
      have HBo6 := Lib.hid ((HBo5.out.go hu).grown hgrow (hob _ (by omega)))
      have HBt6 := Lib.hid ((HBt5.out.go hu).grown hgrow (hob _ (by omega)))
      have HX6 := Lib.hid (HX5.out.mono (w' := w5) fun b hb => ⟨hb, (hgrow.block b (by simp; omega) (hob b (by omega))).trans (hu.block b (by omega))⟩)
      have hzz := hgrow.size
      simp at hzz
      rw [← Hnext.out] at hown5
      have HO6 := Lib.hid hown5
      clear hown5 hgrow hat hlt5 hu hob HB5 HBo5 HBt5 HX5 HO5 Hrd HY Hro HB4 Hu
      go_wp2_with fail
      go_roundw
      case rel => exact ⟨k + 1, by omega, by omega, by rw [hnx]; go_num, HO6.out, HB6.out, HBo6.out, HBt6.out, HX6.out, by omega⟩
      case measure => simp [intOf]; omega
    · have hj : k < rs.length → m < offR rs (k + 1) := fun h => by
        have h1 := Hnx.out k h
        have h2 : ¬ offR rs k + 3 + (recB rs[k]).length ≤ m := fun h3 => hgo ⟨h, h3⟩
        omega
      have hcut : m < offR rs k + 3 ∨ (∃ (h : k < rs.length), offR rs k + 3 ≤ m ∧ m < offR rs k + 3 + (recB rs[k]).length) := by
        by_cases h : k < rs.length
        · by_cases h2 : m < offR rs k + 3
          · exact .inl h2
          · exact .inr ⟨h, by omega, by have h3 : ¬ offR rs k + 3 + (recB rs[k]).length ≤ m := fun h3 => hgo ⟨h, h3⟩; omega⟩
        · left
          have h1 : k = rs.length := by omega
          have h2 := Hall.out
          have h3 := Hm.out
          rw [h1]; omega
      have hau := HU.out k hkm
      obtain ⟨a5, c5, rfl, rd5⟩ := own.rd (fun j hj hx => by have := (own.rowlt j hj).1; omega)
      have hlk : (rs.take k).length = k := by rw [List.length_take]; omega
      rw [hlk] at rd5 ⊢
      have HRt := Lib.hid (And.intro rd5 (And.intro rx (And.intro bo (And.intro bt hb))))
      have Hj := Lib.hid hj
      have Hkm := Lib.hid hkm
      have Hau := Lib.hid hau
      clear own rd5 rx bo bt hb hj hau hgo hlk Hi Hz0 Hz1 Hz2
      generalize hat : offR rs k = at_ at *
      have Hat := Lib.hid hat
      have i1 : (0 : Int) ≤ (at_ : Int) := by omega
      have i2 : (at_ : Int) ≤ (cx : Int) := by omega
      clear hat
      rcases hcut with hcut | ⟨hkl, hcut1, hcut2⟩
      case' neg.inl =>
        go_wp2_with fail
        refine abs_w (fun W => Below wr.heap.size wr W) (Below.refl _ _) ?_
      case' neg.inr =>
        obtain ⟨b, off, rfl, hAb, hbs, hcs⟩ := HRt.out.2.1.byte (by omega)
        have hnl := (rec_len (Hrs.out rs[k] (List.getElem_mem hkl)).1).1
        have hh := HH.out k hkl (by rw [Hat.out]; exact hcut1)
        rw [Hat.out] at hh
        generalize (recB rs[k]).length = N at *
        obtain ⟨c0, c1, c2⟩ := hdr_read hnl hh hcs
        have j0 : at_ + 2 < m := by omega
        have t1 : ((at_ : Int) + 1).toNat = at_ + 1 := by omega
        have t2 : ((at_ : Int) + 2).toNat = at_ + 2 := by omega
        have hbt := shl_or N hnl
        clear hcs hh
        go_wp2_with fail
        go_quiet (fail)
        clear hbt c0 c1 c2 t1 t2
        go_wp2_with fail
        generalize (some (⟨b, off, none⟩ : Addr)) = ax at *
        refine abs_w (fun W => Below wr.heap.size wr W) (below_drewN (Below.refl _ _) _) ?_
      all_goals
        intro wz hwz
        have hal : Option.map (fun x : Addr => x.add 0) ax = ax := by cases ax <;> simp [Addr.add]
        have HZ : Hid (RdS (fun b => b < wz.heap.size ∧ ¬ b < W2.heap.size + 1) wz (rs.take k) a5 k c5 ∧ RdS (fun b => b ≠ w.heap.size + 1 ∧ b < W2.heap.size) wz l ax m cx ∧ Blk (w.heap.size + 1) (.cells #[.slice none 0 0, .int .i64 0] 27 (0, 0)) wz ∧ Blk W2.heap.size (.cells #[.slice ax m cx, .int .i64 s] 27 (0, 0)) wz ∧ Below w.heap.size w wz) :=
          ⟨HRt.out.1.mono fun b hb => ⟨⟨Nat.lt_of_lt_of_le hb.1 hwz.size, hb.2⟩, hwz.block b hb.1⟩, HRt.out.2.1.mono fun b hb => ⟨hb, hwz.block b (by have := hb.2; omega)⟩, HRt.out.2.2.1.go hwz, HRt.out.2.2.2.1.go hwz, up HRt.out.2.2.2.2 hwz⟩
        have hsz := hwz.size
        clear HRt hwz HH HT HU Hnx HG Hrs Hm Hall
        obtain ⟨Vp, HV⟩ : ∃ Vp : Nat → Value → World → Prop, Hid (Vp = fun i v W => match i with
            | 0 => v = .slice a5 k c5
            | 1 => v = .pointer (some ⟨W2.heap.size, 0, none⟩)
            | 2 => v = .slice ax m cx
            | 3 => v = .int .i64 (at_ : Int)
            | 4 => v = .int .i64 (at_ : Int)
            | 5 => v = .slice ax at_ at_
            | 6 => v = .pointer (some ⟨W2.heap.size, 1, none⟩)
            | 7 => v = .int .i64 s
            | 8 => v = .int .i64 (at_ : Int)
            | 9 => v = .int .i64 (min s (at_ : Int))
            | 10 => v = .agg #[.slice ax at_ at_, .int .i64 (min s (at_ : Int))]
            | 11 => v = .slice a5 k c5
            | 12 => v = undef
            | _ => v = .int .i64 0) := ⟨_, rfl⟩
        obtain ⟨Ip, HIp⟩ : ∃ Ip : (Nat → Bool) → (Nat → Value) → World → Prop, Hid (Ip = fun L x W => (Below w.heap.size w W ∧ Blk W2.heap.size (.cells #[.slice ax m cx, .int .i64 s] 27 (0, 0)) W ∧ (∃ v s', Blk (w.heap.size + 1) (.cells #[v, .int .i64 s'] 27 (0, 0)) W ∧ (L 12 = true → v = .slice ax at_ at_ ∧ s' = min s (at_ : Int))) ∧ RdS (fun b => b < wz.heap.size ∧ ¬ b < W2.heap.size + 1) W (rs.take k) a5 k c5 ∧ RdS (fun b => b ≠ w.heap.size + 1 ∧ b < W2.heap.size) W l ax m cx ∧ wz.heap.size ≤ W.heap.size)) := ⟨_, rfl⟩
        refine region_lit3 (by kernel_rfl) (by kernel_rfl) (by kernel_rfl) [[], [], [1], [], [], [1, 2, 3, 4], [], [6], [], [6, 7, 8], [1, 2, 3, 4, 5, 6, 7, 8, 9], [0], [1, 2, 3, 4, 5, 6, 7, 8, 9, 10], []] (by kernel_rfl) [some 81, some 82, some 83, some 84, some 85, some 86, some 87, some 88, some 89, some 90, some 91, some 2, none, some 4] (by kernel_rfl) [[0, 11], [1, 2, 5, 10, 12], [2, 5, 10, 12], [3, 5, 10, 12], [4, 5, 10, 12], [5, 10, 12], [6, 7, 9, 10, 12], [7, 9, 10, 12], [8, 9, 10, 12], [9, 10, 12], [10, 12], [11], [12], [13]] (by kernel_rfl) [[], [], [], [], [], [], [], [], [], [], [], [], [], []] [[], [], [1], [], [], [2, 3, 4], [], [6], [], [7, 8], [5, 9], [0], [10], []] (by kernel_rfl)
          Ip
          Vp
          (fun j W W' => match j with
            | 12 => Touch (fun z => z = w.heap.size + 1) W W'
            | _ => Below W.heap.size W W')
          [fun x => ⟨#[undef, undef, undef, undef, undef, undef, undef, .slice a5 k c5, undef, undef, undef, undef, undef, undef, undef, undef, undef, undef, undef, undef, undef, undef, undef, undef, undef, undef, undef, undef, undef, undef, undef, undef, undef, undef, undef, undef, undef, undef, undef, undef, undef, undef, undef, undef, undef, undef, undef, undef, undef, undef, undef, undef, undef, undef, undef, undef, undef, undef, undef, undef, undef, undef, undef, undef, undef, undef, undef, undef, undef, undef, undef, undef, undef, undef, undef, undef, undef, undef, undef, undef, undef, undef], []⟩,
   fun x => ⟨#[undef, undef, undef, undef, undef, .pointer (some ⟨W2.heap.size, 0, none⟩), undef, undef, undef, undef, undef, undef, undef, undef, undef, undef, undef, undef, undef, undef, undef, undef, undef, undef, undef, undef, undef, undef, undef, undef, undef, undef, undef, undef, undef, undef, undef, undef, undef, undef, undef, undef, undef, undef, undef, undef, undef, undef, undef, undef, undef, undef, undef, undef, undef, undef, undef, undef, undef, undef, undef, undef, undef, undef, undef, undef, undef, undef, undef, undef, undef, undef, undef, undef, undef, undef, undef, undef, undef, undef, undef, undef, undef], []⟩,
   fun x => ⟨#[undef, undef, undef, undef, undef, undef, undef, undef, undef, undef, undef, undef, undef, undef, undef, undef, undef, undef, undef, undef, undef, undef, undef, undef, undef, undef, undef, undef, undef, undef, undef, undef, undef, undef, undef, undef, undef, undef, undef, undef, undef, undef, undef, undef, undef, undef, undef, undef, undef, undef, undef, undef, undef, undef, undef, undef, undef, undef, undef, undef, undef, undef, undef, undef, undef, undef, undef, undef, undef, undef, undef, undef, undef, undef, undef, undef, undef, undef, undef, undef, undef, undef, x 1, undef], []⟩,
   fun x => ⟨#[undef, undef, undef, undef, undef, undef, undef, undef, .int .i64 (at_ : Int), undef, undef, undef, undef, undef, undef, undef, undef, undef, undef, undef, undef, undef, undef, undef, undef, undef, undef, undef, undef, undef, undef, undef, undef, undef, undef, undef, undef, undef, undef, undef, undef, undef, undef, undef, undef, undef, undef, undef, undef, undef, undef, undef, undef, undef, undef, undef, undef, undef, undef, undef, undef, undef, undef, undef, undef, undef, undef, undef, undef, undef, undef, undef, undef, undef, undef, undef, undef, undef, undef, undef, undef, undef, undef, undef, undef], []⟩,
   fun x => ⟨#[undef, undef, undef, undef, undef, undef, undef, undef, .int .i64 (at_ : Int), undef, undef, undef, undef, undef, undef, undef, undef, undef, undef, undef, undef, undef, undef, undef, undef, undef, undef, undef, undef, undef, undef, undef, undef, undef, undef, undef, undef, undef, undef, undef, undef, undef, undef, undef, undef, undef, undef, undef, undef, undef, undef, undef, undef, undef, undef, undef, undef, undef, undef, undef, undef, undef, undef, undef, undef, undef, undef, undef, undef, undef, undef, undef, undef, undef, undef, undef, undef, undef, undef, undef, undef, undef, undef, undef, undef, undef], []⟩,
   fun x => ⟨#[undef, undef, undef, undef, undef, undef, undef, undef, undef, undef, undef, undef, undef, undef, undef, undef, undef, undef, undef, undef, undef, undef, undef, undef, undef, undef, undef, undef, undef, undef, undef, undef, undef, undef, undef, undef, undef, undef, undef, undef, undef, undef, undef, undef, undef, undef, undef, undef, undef, undef, undef, undef, undef, undef, undef, undef, undef, undef, undef, undef, undef, undef, undef, undef, undef, undef, undef, undef, undef, undef, undef, undef, undef, undef, undef, undef, undef, undef, undef, undef, undef, undef, undef, x 2, x 3, x 4, undef], []⟩,
   fun x => ⟨#[undef, undef, undef, undef, undef, .pointer (some ⟨W2.heap.size, 0, none⟩), undef, undef, undef, undef, undef, undef, undef, undef, undef, undef, undef, undef, undef, undef, undef, undef, undef, undef, undef, undef, undef, undef, undef, undef, undef, undef, undef, undef, undef, undef, undef, undef, undef, undef, undef, undef, undef, undef, undef, undef, undef, undef, undef, undef, undef, undef, undef, undef, undef, undef, undef, undef, undef, undef, undef, undef, undef, undef, undef, undef, undef, undef, undef, undef, undef, undef, undef, undef, undef, undef, undef, undef, undef, undef, undef, undef, undef, undef, undef, undef, undef, undef], []⟩,
   fun x => ⟨#[undef, undef, undef, undef, undef, undef, undef, undef, undef, undef, undef, undef, undef, undef, undef, undef, undef, undef, undef, undef, undef, undef, undef, undef, undef, undef, undef, undef, undef, undef, undef, undef, undef, undef, undef, undef, undef, undef, undef, undef, undef, undef, undef, undef, undef, undef, undef, undef, undef, undef, undef, undef, undef, undef, undef, undef, undef, undef, undef, undef, undef, undef, undef, undef, undef, undef, undef, undef, undef, undef, undef, undef, undef, undef, undef, undef, undef, undef, undef, undef, undef, undef, undef, undef, undef, undef, undef, x 6, undef], []⟩,
   fun x => ⟨#[undef, undef, undef, undef, undef, undef, undef, undef, .int .i64 (at_ : Int), undef, undef, undef, undef, undef, undef, undef, undef, undef, undef, undef, undef, undef, undef, undef, undef, undef, undef, undef, undef, undef, undef, undef, undef, undef, undef, undef, undef, undef, undef, undef, undef, undef, undef, undef, undef, undef, undef, undef, undef, undef, undef, undef, undef, undef, undef, undef, undef, undef, undef, undef, undef, undef, undef, undef, undef, undef, undef, undef, undef, undef, undef, undef, undef, undef, undef, undef, undef, undef, undef, undef, undef, undef, undef, undef, undef, undef, undef, undef, undef, undef], []⟩,
   fun x => ⟨#[undef, undef, undef, undef, undef, undef, undef, undef, undef, undef, undef, undef, undef, undef, undef, undef, undef, undef, undef, undef, undef, undef, undef, undef, undef, undef, undef, undef, undef, undef, undef, undef, undef, undef, undef, undef, undef, undef, undef, undef, undef, undef, undef, undef, undef, undef, undef, undef, undef, undef, undef, undef, undef, undef, undef, undef, undef, undef, undef, undef, undef, undef, undef, undef, undef, undef, undef, undef, undef, undef, undef, undef, undef, undef, undef, undef, undef, undef, undef, undef, undef, undef, undef, undef, undef, undef, undef, undef, x 7, x 8, undef], []⟩,
   fun x => ⟨#[undef, undef, undef, undef, undef, undef, undef, undef, undef, undef, undef, undef, undef, undef, undef, undef, undef, undef, undef, undef, undef, undef, undef, undef, undef, undef, undef, undef, undef, undef, undef, undef, undef, undef, undef, undef, undef, undef, undef, undef, undef, undef, undef, undef, undef, undef, undef, undef, undef, undef, undef, undef, undef, undef, undef, undef, undef, undef, undef, undef, undef, undef, undef, undef, undef, undef, undef, undef, undef, undef, undef, undef, undef, undef, undef, undef, undef, undef, undef, undef, undef, undef, undef, undef, undef, undef, x 5, undef, undef, undef, x 9, undef], []⟩,
   fun x => ⟨#[undef, undef, undef, undef, undef, undef, undef, undef, undef, undef, undef, undef, undef, undef, undef, undef, undef, undef, undef, undef, undef, undef, undef, undef, undef, undef, undef, undef, undef, undef, undef, undef, undef, undef, undef, undef, undef, undef, undef, undef, undef, undef, undef, undef, undef, undef, undef, undef, undef, undef, undef, undef, undef, undef, undef, undef, undef, undef, undef, undef, undef, undef, undef, undef, undef, undef, undef, undef, undef, undef, undef, undef, undef, undef, undef, undef, undef, undef, undef, undef, undef, x 0], []⟩,
   fun x => ⟨#[undef, undef, undef, .pointer (some ⟨w.heap.size + 1, 0, none⟩), undef, undef, undef, undef, undef, undef, undef, undef, undef, undef, undef, undef, undef, undef, undef, undef, undef, undef, undef, undef, undef, undef, undef, undef, undef, undef, undef, undef, undef, undef, undef, undef, undef, undef, undef, undef, undef, undef, undef, undef, undef, undef, undef, undef, undef, undef, undef, undef, undef, undef, undef, undef, undef, undef, undef, undef, undef, undef, undef, undef, undef, undef, undef, undef, undef, undef, undef, undef, undef, undef, undef, undef, undef, undef, undef, undef, undef, undef, undef, undef, undef, undef, undef, undef, undef, undef, undef, x 10], []⟩,
   fun x => ⟨#[undef, undef, undef, undef, undef], []⟩]
          ?hF ?mono ?h0 ?step [0, 1, 2, 3, 4, 5, 6, 7, 8, 9, 10, 11, 12, 13] (by kernel_rfl) ?fin
        case hF =>
          exact ⟨fun x => ⟨by kernel_rfl, by kernel_rfl⟩, fun x => ⟨by kernel_rfl, by kernel_rfl⟩, fun x => ⟨by kernel_rfl, by kernel_rfl⟩, fun x => ⟨by kernel_rfl, by kernel_rfl⟩, fun x => ⟨by kernel_rfl, by kernel_rfl⟩, fun x => ⟨by kernel_rfl, by kernel_rfl⟩, fun x => ⟨by kernel_rfl, by kernel_rfl⟩, fun x => ⟨by kernel_rfl, by kernel_rfl⟩, fun x => ⟨by kernel_rfl, by kernel_rfl⟩, fun x => ⟨by kernel_rfl, by kernel_rfl⟩, fun x => ⟨by kernel_rfl, by kernel_rfl⟩, fun x => ⟨by kernel_rfl, by kernel_rfl⟩, fun x => ⟨by kernel_rfl, by kernel_rfl⟩, fun x => ⟨by kernel_rfl, by kernel_rfl⟩, trivial⟩
        case mono =>
          intro i j hi hj hne hna hnk v W W' hE hv
          rw [HV.out] at hv ⊢
          simp only [List.length_cons, List.length_nil] at hi hj
          match i, hi with
          | 0, _ | 1, _ | 2, _ | 3, _ | 4, _ | 5, _ | 6, _ | 7, _ | 8, _ | 9, _ | 10, _ | 11, _ | 12, _ | 13, _ => exact hv
          | m + 14, h => exact absurd h (by omega)
        case h0 => intro x; exact toI HIp ⟨HZ.out.2.2.2.2.drew, HZ.out.2.2.2.1, ⟨_, _, HZ.out.2.2.1, fun h => by cases h⟩, HZ.out.1, HZ.out.2.1, Nat.le_refl _⟩
        case step =>
          refine ⟨?_, ?_, ?_, ?_, ?_, ?_, ?_, ?_, ?_, ?_, ?_, ?_, ?_, ?_, trivial⟩
          all_goals
            intro x W L hI hL hV
            replace hI : (Below w.heap.size w W ∧ Blk W2.heap.size (.cells #[.slice ax m cx, .int .i64 s] 27 (0, 0)) W ∧ (∃ v s', Blk (w.heap.size + 1) (.cells #[v, .int .i64 s'] 27 (0, 0)) W ∧ (L 12 = true → v = .slice ax at_ at_ ∧ s' = min s (at_ : Int))) ∧ RdS (fun b => b < wz.heap.size ∧ ¬ b < W2.heap.size + 1) W (rs.take k) a5 k c5 ∧ RdS (fun b => b ≠ w.heap.size + 1 ∧ b < W2.heap.size) W l ax m cx ∧ wz.heap.size ≤ W.heap.size) := ofI HIp hI
            rw [HV.out] at hV
            simp only [AllV, and_true] at hV
          · clear hV
            (try dsimp only)
            have HI := Lib.hid hI
            clear hI
            go_wp2_with fail
            refine step3_done rfl ?_ ?_ ?_
            · exact (toI HIp HI.out)
            · exact (Below.refl _ _)
            · exact (toV HV rfl)
          · clear hV
            (try dsimp only)
            have HI := Lib.hid hI
            clear hI
            go_wp2_with fail
            refine step3_done rfl ?_ ?_ ?_
            · exact (toI HIp HI.out)
            · exact (Below.refl _ _)
            · exact (toV HV rfl)
          · have u1 := hV
            clear hV
            simp only [u1]
            clear u1
            have e1 : W.cell? ⟨W2.heap.size, 0, none⟩ = some (.slice ax m cx) := hI.2.1.cell 0
            have e2 : W.cell? ⟨W2.heap.size, 1, none⟩ = some (.int .i64 s) := hI.2.1.cell 1
            have HI := Lib.hid hI
            clear hI
            go_wp2_with fail
            refine step3_done rfl ?_ ?_ ?_
            · exact (toI HIp HI.out)
            · exact (Below.refl _ _)
            · exact (toV HV rfl)
          · clear hV
            (try dsimp only)
            have HI := Lib.hid hI
            clear hI
            go_wp2_with fail
            refine step3_done rfl ?_ ?_ ?_
            · exact (toI HIp HI.out)
            · exact (Below.refl _ _)
            · exact (toV HV rfl)
          · clear hV
            (try dsimp only)
            have HI := Lib.hid hI
            clear hI
            go_wp2_with fail
            refine step3_done rfl ?_ ?_ ?_
            · exact (toI HIp HI.out)
            · exact (Below.refl _ _)
            · exact (toV HV rfl)
          · obtain ⟨u2, u3, u4⟩ := hV
            simp only [u2, u3, u4]
            clear u2 u3 u4
            have HI := Lib.hid hI
            clear hI
            go_wp2_with fail
            refine step3_done rfl ?_ ?_ ?_
            · exact (toI HIp HI.out)
            · exact (Below.refl _ _)
            · exact (toV HV rfl)
          · clear hV
            (try dsimp only)
            have HI := Lib.hid hI
            clear hI
            go_wp2_with fail
            refine step3_done rfl ?_ ?_ ?_
            · exact (toI HIp HI.out)
            · exact (Below.refl _ _)
            · exact (toV HV rfl)
          · have u6 := hV
            clear hV
            simp only [u6]
            clear u6
            have e1 : W.cell? ⟨W2.heap.size, 0, none⟩ = some (.slice ax m cx) := hI.2.1.cell 0
            have e2 : W.cell? ⟨W2.heap.size, 1, none⟩ = some (.int .i64 s) := hI.2.1.cell 1
            have HI := Lib.hid hI
            clear hI
            go_wp2_with fail
            refine step3_done rfl ?_ ?_ ?_
            · exact (toI HIp HI.out)
            · exact (Below.refl _ _)
            · exact (toV HV rfl)
          · clear hV
            (try dsimp only)
            have HI := Lib.hid hI
            clear hI
            go_wp2_with fail
            refine step3_done rfl ?_ ?_ ?_
            · exact (toI HIp HI.out)
            · exact (Below.refl _ _)
            · exact (toV HV rfl)
          · obtain ⟨u7, u8⟩ := hV
            simp only [u7, u8]
            clear u7 u8
            have HI := Lib.hid hI
            clear hI
            go_wp2_with fail
            refine step3_done rfl ?_ ?_ ?_
            · exact (toI HIp HI.out)
            · exact (Below.refl _ _)
            · exact (toV HV rfl)
          · obtain ⟨u5, u9⟩ := hV
            simp only [u5, u9]
            clear u5 u9
            have HI := Lib.hid hI
            clear hI
            go_wp2_with fail
            refine step3_done rfl ?_ ?_ ?_
            · exact (toI HIp HI.out)
            · exact (Below.refl _ _)
            · exact (toV HV rfl)
          · have u0 := hV
            clear hV
            simp only [u0]
            clear u0
            have HI := Lib.hid hI
            clear hI
            go_wp2_with fail
            refine step3_done rfl ?_ ?_ ?_
            · exact (toI HIp HI.out)
            · exact (Below.refl _ _)
            · exact (toV HV rfl)
          · have u10 := hV
            clear hV
            simp only [u10]
            clear u10
            obtain ⟨b1, b2, ⟨v, s', b3, _⟩, b4, b5, b6⟩ := hI
            have e1 : W.cell? ⟨w.heap.size + 1, 0, none⟩ = some v := b3.cell 0
            have e2 : W.cell? ⟨w.heap.size + 1, 1, none⟩ = some (.int .i64 s') := b3.cell 1
            have e3 := b3.frozen
            have hT := touch2 W (w.heap.size + 1) (.slice ax at_ at_) (.int .i64 (min s (at_ : Int)))
            have HN : Hid (Below w.heap.size w ((W.setCell ⟨w.heap.size + 1, 0, none⟩ (.slice ax at_ at_)).setCell ⟨w.heap.size + 1, 1, none⟩ (.int .i64 (min s (at_ : Int)))) ∧ Blk W2.heap.size (.cells #[.slice ax m cx, .int .i64 s] 27 (0, 0)) ((W.setCell ⟨w.heap.size + 1, 0, none⟩ (.slice ax at_ at_)).setCell ⟨w.heap.size + 1, 1, none⟩ (.int .i64 (min s (at_ : Int)))) ∧ Blk (w.heap.size + 1) (.cells #[.slice ax at_ at_, .int .i64 (min s (at_ : Int))] 27 (0, 0)) ((W.setCell ⟨w.heap.size + 1, 0, none⟩ (.slice ax at_ at_)).setCell ⟨w.heap.size + 1, 1, none⟩ (.int .i64 (min s (at_ : Int)))) ∧ RdS (fun b => b < wz.heap.size ∧ ¬ b < W2.heap.size + 1) ((W.setCell ⟨w.heap.size + 1, 0, none⟩ (.slice ax at_ at_)).setCell ⟨w.heap.size + 1, 1, none⟩ (.int .i64 (min s (at_ : Int)))) (rs.take k) a5 k c5 ∧ RdS (fun b => b ≠ w.heap.size + 1 ∧ b < W2.heap.size) ((W.setCell ⟨w.heap.size + 1, 0, none⟩ (.slice ax at_ at_)).setCell ⟨w.heap.size + 1, 1, none⟩ (.int .i64 (min s (at_ : Int)))) l ax m cx ∧ wz.heap.size ≤ ((W.setCell ⟨w.heap.size + 1, 0, none⟩ (.slice ax at_ at_)).setCell ⟨w.heap.size + 1, 1, none⟩ (.int .i64 (min s (at_ : Int)))).heap.size) :=
              ⟨b1.trans (hT.toBelow b1.size (fun k hk => by subst hk; omega)), b2.touch hT (by show ¬ W2.heap.size = w.heap.size + 1; omega), (b3.set 0 _).set 1 _, b4.mono fun b hb => ⟨hb, hT.block b (by have := hb.1; omega) (by show ¬ b = w.heap.size + 1; have := hb.2; omega)⟩, b5.mono fun b hb => ⟨hb, hT.block b (by have := hb.2; omega) hb.1⟩, by have := hT.size; omega⟩
            have HT := Lib.hid hT
            clear b1 b2 b3 b4 b5 hT
            go_wp2_with fail
            exact step3_done (v := undef) rfl (toI HIp ⟨HN.out.1, HN.out.2.1, ⟨_, _, HN.out.2.2.1, fun _ => ⟨rfl, rfl⟩⟩, HN.out.2.2.2.1, HN.out.2.2.2.2.1, HN.out.2.2.2.2.2⟩) HT.out (toV HV rfl)
          · clear hV
            (try dsimp only)
            have HI := Lib.hid hI
            clear hI
            go_wp2_with fail
            refine step3_done rfl ?_ ?_ ?_
            · exact (toI HIp HI.out)
            · exact (Below.refl _ _)
            · exact (toV HV rfl)
        case fin =>
          intro x W L hL hI hV
          replace hI : (Below w.heap.size w W ∧ Blk W2.heap.size (.cells #[.slice ax m cx, .int .i64 s] 27 (0, 0)) W ∧ (∃ v s', Blk (w.heap.size + 1) (.cells #[v, .int .i64 s'] 27 (0, 0)) W ∧ (L 12 = true → v = .slice ax at_ at_ ∧ s' = min s (at_ : Int))) ∧ RdS (fun b => b < wz.heap.size ∧ ¬ b < W2.heap.size + 1) W (rs.take k) a5 k c5 ∧ RdS (fun b => b ≠ w.heap.size + 1 ∧ b < W2.heap.size) W l ax m cx ∧ wz.heap.size ≤ W.heap.size) := ofI HIp hI
          rw [HV.out] at hV
          simp only [AllV, and_true] at hV
          obtain ⟨u0, u1, u2, u3, u4, u5, u6, u7, u8, u9, u10, u11, u12, u13⟩ := hV
          simp only [getsD, List.getD_cons_succ, List.getD_cons_zero, List.length_cons, List.length_nil, List.range, List.range.loop, u0, u1, u2, u3, u4, u5, u6, u7, u8, u9, u10, u11, u12, u13, Act.put, List.setIfInBounds_toArray, List.set_cons_succ, List.set_cons_zero]
          clear u0 u1 u2 u3 u4 u5 u6 u7 u8 u9 u10 u11 u12 u13
          rw [hL 12 (by simp)] at hI
          obtain ⟨b1, b2, ⟨v, s', b3, b3'⟩, b4, b5, b6⟩ := hI
          obtain ⟨rfl, rfl⟩ := b3' rfl
          have f0 : W.cell? ⟨w.heap.size + 1, 0, none⟩ = some (.slice ax at_ at_) := b3.cell 0
          have f1 : W.cell? ⟨w.heap.size + 1, 1, none⟩ = some (.int .i64 (min s (at_ : Int))) := b3.cell 1
          have G : Hid (RecovP rs m s w (.returned (.tuple #[.slice a5 k c5, .agg #[.slice ax at_ at_, .int .i64 (min s (at_ : Int))], .int .i64 0])) W) := by
            refine ⟨k, a5, ax, c5, at_, hk, by rw [Hat.out]; exact hkm, Hj.out, by rw [Hat.out], b4.mono fun b hb => ⟨by have := hb.1; omega, rfl⟩, ?_, b1⟩
            rw [Hat.out, ← Hau.out]
            exact ((b5.upto at_ hkm).cap).mono fun b hb => ⟨by have := hb.2; omega, rfl⟩
          clear b1 b2 b3 b4 b5
          go_wp2_with fail
          refine bodyPost_ret (v := .tuple #[.slice a5 k c5, .agg #[.slice ax at_ at_, .int .i64 (min s (at_ : Int))], .int .i64 0]) (by simp [results, Tryd.results28, go_sem, f0, f1]) rfl ?_
          exact G.out
end Go.Proofs.YtdbdhpjjndhjiaaDoor

set_option linter.unusedSimpArgs false
namespace Go.Proofs.YtdbdhpjjndhjiaaDoor
open Go.RowKit

set_option maxRecDepth 100000 in
set_option maxHeartbeats 2000000 in
theorem open_bad (w : World) :
    Calls Tryd.prog 38 #[.agg #[.slice none 0 0, .int .i64 1]] w fun e w' => e = .returned (.tuple #[.agg #[.slice none 0 0, .int .i64 0], .bool false]) ∧ Below w.heap.size w w' := by
  go_enter Tryd.func38, Tryd.ntmps38
  go_wp2_with fail
  refine abs_ret (fun W => Blk (w.heap.size + 1) (.cells #[.slice none 0 0, .int .i64 0] 27 (0, 0)) W ∧ Below w.heap.size w W) ⟨Blk.at (w.alloc _) _ (w.heap.size + 1) (by simp), by (repeat (first | exact Below.refl _ _ | assumption | (refine Below.drew ?_) | (refine below_drewN ?_ _) | (refine Below.alloc ?_ (by first | (simp; done) | (simp; omega) | omega) _) | (refine Below.setCell ?_ (by first | (simp; done) | (simp; omega) | omega) _) | (refine Below.trans ?_ (Below.mono (by assumption) (by first | (simp; done) | (simp; omega) | omega)))))⟩ ?_
  rintro W ⟨hB, hW⟩
  have f0 : W.cell? ⟨w.heap.size + 1, 0, none⟩ = some (.slice none 0 0) := hB.cell 0
  have f1 : W.cell? ⟨w.heap.size + 1, 1, none⟩ = some (.int .i64 0) := hB.cell 1
  refine bodyPost_ret (v := .tuple #[.agg #[.slice none 0 0, .int .i64 0], .bool false]) (by simp [results, Tryd.results38, go_sem, f0, f1]) rfl ?_
  exact ⟨rfl, hW⟩
set_option maxRecDepth 100000 in
set_option maxHeartbeats 2000000 in
theorem append_bad (r : Value) (e : Int) (ao : Option Addr) (no co : Nat) (hr : r = .agg #[.int .i64 e, .slice ao no co]) (w : World) :
    Calls Tryd.prog 17 #[.agg #[.slice none 0 0, .int .i64 1], r] w fun e w' => e = .returned (.tuple #[.agg #[.slice none 0 0, .int .i64 0], .int .i64 9]) ∧ Below w.heap.size w w' := by
  have HO := Lib.hid open_bad
  subst hr
  go_enter Tryd.func17, Tryd.ntmps17
  go_wp2_with fail
  refine abs_run (fun W => Below w.heap.size w W ∧ Blk (w.heap.size + 1 + 1) (.cells #[.slice none 0 0, .int .i64 0] 27 (0, 0)) W) ⟨by (repeat (first | exact Below.refl _ _ | assumption | (refine Below.drew ?_) | (refine below_drewN ?_ _) | (refine Below.alloc ?_ (by first | (simp; done) | (simp; omega) | omega) _) | (refine Below.setCell ?_ (by first | (simp; done) | (simp; omega) | omega) _) | (refine Below.trans ?_ (Below.mono (by assumption) (by first | (simp; done) | (simp; omega) | omega))))), Blk.at ((w.alloc _).alloc _) _ (w.heap.size + 1 + 1) (by simp)⟩ ?_
  rintro W ⟨hb, bo⟩
  refine (HO.out W).mono ?_
  rintro e W2 ⟨rfl, hb2⟩
  have bo2 := bo.go hb2
  have HB2 := Lib.hid (up hb hb2)
  have HBo := Lib.hid bo2
  have o0 := bo2.cell 0
  have o1 := bo2.cell 1
  simp only [List.getElem?_toArray, List.getElem?_cons_zero, List.getElem?_cons_succ] at o0 o1
  have o2 := bo2.frozen
  have z0 := bo2.lt
  clear hb bo hb2 bo2
  go_wp2_with fail
  refine abs_ret (fun W => Blk (w.heap.size + 1 + 1) (.cells #[.slice none 0 0, .int .i64 0] 27 (0, 0)) W ∧ Below w.heap.size w W) ⟨((HBo.out.set 0 _).set 1 _).alloc _, ((HB2.out.setCell (p := ⟨w.heap.size + 1 + 1, 0, none⟩) (by show w.heap.size ≤ w.heap.size + 1 + 1; omega) _).setCell (p := ⟨w.heap.size + 1 + 1, 1, none⟩) (by show w.heap.size ≤ w.heap.size + 1 + 1; omega) _).alloc (by simp; omega) _⟩ ?_
  rintro W ⟨hB, hW⟩
  have f0 : W.cell? ⟨w.heap.size + 1 + 1, 0, none⟩ = some (.slice none 0 0) := hB.cell 0
  have f1 : W.cell? ⟨w.heap.size + 1 + 1, 1, none⟩ = some (.int .i64 0) := hB.cell 1
  refine bodyPost_ret (v := .tuple #[.agg #[.slice none 0 0, .int .i64 0], .int .i64 9]) (by simp [results, Tryd.results17, go_sem, f0, f1]) rfl ?_
  exact ⟨rfl, hW⟩
set_option maxRecDepth 100000 in
set_option maxHeartbeats 2000000 in
theorem recover_bad (w : World) :
    Calls Tryd.prog 28 #[.agg #[.slice none 0 0, .int .i64 1]] w fun e w' => e = .returned (.tuple #[.slice none 0 0, .agg #[.slice none 0 0, .int .i64 0], .int .i64 9]) ∧ Below w.heap.size w w' := by
  have HO := Lib.hid open_bad
  go_enter Tryd.func28, Tryd.ntmps28
  go_wp2_with fail
  refine abs_run (fun W => Below w.heap.size w W ∧ Blk (w.heap.size + 1) (.cells #[.slice none 0 0, .int .i64 0] 27 (0, 0)) W) ⟨by (repeat (first | exact Below.refl _ _ | assumption | (refine Below.drew ?_) | (refine below_drewN ?_ _) | (refine Below.alloc ?_ (by first | (simp; done) | (simp; omega) | omega) _) | (refine Below.setCell ?_ (by first | (simp; done) | (simp; omega) | omega) _) | (refine Below.trans ?_ (Below.mono (by assumption) (by first | (simp; done) | (simp; omega) | omega))))), Blk.at (w.alloc _) _ (w.heap.size + 1) (by simp)⟩ ?_
  rintro W ⟨hb, bo⟩
  refine (HO.out W).mono ?_
  rintro e W2 ⟨rfl, hb2⟩
  have bo2 := bo.go hb2
  have HB2 := Lib.hid (up hb hb2)
  have HBo := Lib.hid bo2
  have o0 := bo2.cell 0
  have o1 := bo2.cell 1
  simp only [List.getElem?_toArray, List.getElem?_cons_zero, List.getElem?_cons_succ] at o0 o1
  have o2 := bo2.frozen
  have z0 := bo2.lt
  clear hb bo hb2 bo2
  go_wp2_with fail
  refine abs_ret (fun W => Blk (w.heap.size + 1) (.cells #[.slice none 0 0, .int .i64 0] 27 (0, 0)) W ∧ Below w.heap.size w W) ⟨((HBo.out.set 0 _).set 1 _).alloc _, ((HB2.out.setCell (p := ⟨w.heap.size + 1, 0, none⟩) (by show w.heap.size ≤ w.heap.size + 1; omega) _).setCell (p := ⟨w.heap.size + 1, 1, none⟩) (by show w.heap.size ≤ w.heap.size + 1; omega) _).alloc (by simp; omega) _⟩ ?_
  rintro W ⟨hB, hW⟩
  have f0 : W.cell? ⟨w.heap.size + 1, 0, none⟩ = some (.slice none 0 0) := hB.cell 0
  have f1 : W.cell? ⟨w.heap.size + 1, 1, none⟩ = some (.int .i64 0) := hB.cell 1
  refine bodyPost_ret (v := .tuple #[.slice none 0 0, .agg #[.slice none 0 0, .int .i64 0], .int .i64 9]) (by simp [results, Tryd.results28, go_sem, f0, f1]) rfl ?_
  exact ⟨rfl, hW⟩
end Go.Proofs.YtdbdhpjjndhjiaaDoor

set_option linter.unusedSimpArgs false
namespace Go.Proofs.YtdbdhpjjndhjiaaDoor
open Go.RowKit

set_option maxRecDepth 100000 in
set_option maxHeartbeats 4000000 in
theorem begins_ok (p q : List Rec) (hlen : p.length ≤ q.length) (hpq : ∀ k (h : k < p.length) (h2 : k < q.length), q[k] = p[k]) (a1 a2 : Option Addr) (n1 c1 n2 c2 : Nat) (w : World) (h1 : RdS (· < w.heap.size) w p a1 n1 c1) (h2 : RdS (· < w.heap.size) w q a2 n2 c2) :
    Calls Tryd.prog 29 #[.slice a1 n1 c1, .slice a2 n2 c2] w fun e w' => e = .returned (.bool true) ∧ Below w.heap.size w w' := by
  have hm1 : n1 ≤ maxLen := by have := h1.2.1; have := h1.2.2.1; omega
  unfold maxLen at hm1
  have Hl1 := Lib.hid h1.1
  have Hl2 := Lib.hid h2.1
  have hle : n1 ≤ n2 := by have := Hl1.out; have := Hl2.out; omega
  have H1 := Lib.hid h1
  have H2 := Lib.hid h2
  have Hpq := Lib.hid hpq
  clear h1 h2 hpq hlen
  have hd : decide ((n2 : Int) < (n1 : Int)) = false := by simp; omega
  go_enter Tryd.func29, Tryd.ntmps29
  go_wp2_with fail
  go_loopw [13] (fun i wr => ∃ k : Nat, k ≤ n1 ∧ i = .int .i64 k ∧ Below w.heap.size w wr) (fun i _ => n1 - (intOf i).toNat)
  case atStart => exact ⟨0, by omega, rfl, Below.refl _ _⟩
  case round =>
    obtain ⟨k, hk, rfl, hb⟩ := hrel
    by_cases hlt : k < n1
    · obtain ⟨b, off, rfl, hAb, hbs, hcs⟩ := (H1.out.go hb).recs (by omega)
      obtain ⟨b2, off2, rfl, hAb2, hbs2, hcs2⟩ := (H2.out.go hb).recs (by omega)
      have hk1 : k < p.length := by have := Hl1.out; omega
      have hk2 : k < q.length := by have := Hl2.out; omega
      obtain ⟨xa, xn, xc, x1, hx, d0, d1⟩ := hcs k hk1
      obtain ⟨ya, yn, yc, y1, hy, f0, f1⟩ := hcs2 k hk2
      have hkn2 : k < n2 := by omega
      rw [Hpq.out k hk1 hk2] at hy f0
      have HS := Lib.hid (fun W (u : Below wr.heap.size wr W) => sameRecord_ok p[k] xa ya xn xc yn yc W (hx.go u) (hy.go u))
      generalize p[k] = rr at *
      have HB := Lib.hid hb
      clear hcs hcs2 hx hy hb x1 y1
      go_wp2_with fail
      refine region_lit2 (by kernel_rfl) (by kernel_rfl) (by kernel_rfl) [[], [], [0, 1], [0, 1, 2], [], [], [4, 5], [4, 5, 6], [0, 1, 2, 3, 4, 5, 6, 7], [0, 1, 2, 3, 4, 5, 6, 7, 8]] (by kernel_rfl) [some 16, some 17, some 18, some 19, some 20, some 21, some 22, some 23, some 24, some 25] (by kernel_rfl) [false, false, false, false, false, false, false, false, false, true] (by kernel_rfl)
        (fun W => Below wr.heap.size wr W)
        (fun i v W => match i with
          | 0 => v = .slice (some ⟨b, off, none⟩) n1 c1
          | 1 => v = .int .i64 (k : Int)
          | 2 => v = .pointer (some ⟨b, off + k * 2, none⟩)
          | 3 => v = .agg #[.int .i64 rr.epoch, .slice xa xn xc]
          | 4 => v = .slice (some ⟨b2, off2, none⟩) n2 c2
          | 5 => v = .int .i64 (k : Int)
          | 6 => v = .pointer (some ⟨b2, off2 + k * 2, none⟩)
          | 7 => v = .agg #[.int .i64 rr.epoch, .slice ya yn yc]
          | 8 => v = .bool true
          | _ => v = .bool false)
        (fun W W' => Below W.heap.size W W')
        [fun x => ⟨#[.slice (some ⟨b, off, none⟩) n1 c1, undef, undef, undef, undef, undef, undef, undef, undef, undef, undef, undef, undef, undef, undef, undef, undef], []⟩,
   fun x => ⟨#[undef, undef, undef, undef, undef, .int .i64 (k : Int), undef, undef, undef, undef, undef, undef, undef, undef, undef, undef, undef, undef], []⟩,
   fun x => ⟨#[undef, undef, undef, undef, undef, undef, undef, undef, undef, undef, undef, undef, undef, undef, undef, undef, x 0, x 1, undef], []⟩,
   fun x => ⟨#[undef, undef, undef, undef, undef, undef, undef, undef, undef, undef, undef, undef, undef, undef, undef, undef, undef, undef, x 2, undef], []⟩,
   fun x => ⟨#[undef, .slice (some ⟨b2, off2, none⟩) n2 c2, undef, undef, undef, undef, undef, undef, undef, undef, undef, undef, undef, undef, undef, undef, undef, undef, undef, undef, undef], []⟩,
   fun x => ⟨#[undef, undef, undef, undef, undef, .int .i64 (k : Int), undef, undef, undef, undef, undef, undef, undef, undef, undef, undef, undef, undef, undef, undef, undef, undef], []⟩,
   fun x => ⟨#[undef, undef, undef, undef, undef, undef, undef, undef, undef, undef, undef, undef, undef, undef, undef, undef, undef, undef, undef, undef, x 4, x 5, undef], []⟩,
   fun x => ⟨#[undef, undef, undef, undef, undef, undef, undef, undef, undef, undef, undef, undef, undef, undef, undef, undef, undef, undef, undef, undef, undef, undef, x 6, undef], []⟩,
   fun x => ⟨#[undef, undef, undef, undef, undef, undef, undef, undef, undef, undef, undef, undef, undef, undef, undef, undef, undef, undef, undef, x 3, undef, undef, undef, x 7, undef], []⟩,
   fun x => ⟨#[undef, undef, undef, undef, undef, undef, undef, undef, undef, undef, undef, undef, undef, undef, undef, undef, undef, undef, undef, undef, undef, undef, undef, undef, x 8, undef], []⟩]
        ?hF ?mono ?h0 ?step ?fin
      case hF =>
        exact ⟨fun x => ⟨by kernel_rfl, by kernel_rfl⟩, fun x => ⟨by kernel_rfl, by kernel_rfl⟩, fun x => ⟨by kernel_rfl, by kernel_rfl⟩, fun x => ⟨by kernel_rfl, by kernel_rfl⟩, fun x => ⟨by kernel_rfl, by kernel_rfl⟩, fun x => ⟨by kernel_rfl, by kernel_rfl⟩, fun x => ⟨by kernel_rfl, by kernel_rfl⟩, fun x => ⟨by kernel_rfl, by kernel_rfl⟩, fun x => ⟨by kernel_rfl, by kernel_rfl⟩, fun x => ⟨by kernel_rfl, by kernel_rfl⟩, trivial⟩
      case mono =>
        intro i hi v W W' hE hv
        match i, hi with
        | 0, _ | 1, _ | 2, _ | 3, _ | 4, _ | 5, _ | 6, _ | 7, _ | 8, _ => exact hv
        | m + 9, h => exact absurd h (by cases m <;> simp)
      case h0 => first | exact (Below.refl _ _).drew | exact Below.drew (by assumption) | (refine Below.drew ?_; assumption)
      case step =>
        refine ⟨?_, ?_, ?_, ?_, ?_, ?_, ?_, ?_, ?_, ?_, trivial⟩
        all_goals
          intro x W hI hV
          simp only [AllV, and_true] at hV
        · clear hV
          (try dsimp only)
          go_wp2_with fail
          exact step_done rfl hI (Below.refl _ _) rfl
        · clear hV
          (try dsimp only)
          go_wp2_with fail
          exact step_done rfl hI (Below.refl _ _) rfl
        · obtain ⟨u0, u1⟩ := hV
          simp only [u0, u1]
          clear u0 u1
          go_wp2_with fail
          exact step_done rfl hI (Below.refl _ _) rfl
        · obtain ⟨u0, u1, u2⟩ := hV
          simp only [u2]
          clear u0 u1 u2
          have e0 : W.cell? ⟨b, off + k * 2, none⟩ = some (.int .i64 rr.epoch) := (hI.cell (p := ⟨b, off + k * 2, none⟩) hbs).trans d0
          have e1 : W.cell? ⟨b, off + k * 2 + 1, none⟩ = some (.slice xa xn xc) := (hI.cell (p := ⟨b, off + k * 2 + 1, none⟩) hbs).trans d1
          have HI := Lib.hid hI
          clear hI d0 d1 f0 f1
          go_wp2_with fail
          exact step_done rfl HI.out (Below.refl _ _) rfl
        · clear hV
          (try dsimp only)
          go_wp2_with fail
          exact step_done rfl hI (Below.refl _ _) rfl
        · clear hV
          (try dsimp only)
          go_wp2_with fail
          exact step_done rfl hI (Below.refl _ _) rfl
        · obtain ⟨u4, u5⟩ := hV
          simp only [u4, u5]
          clear u4 u5
          go_wp2_with fail
          exact step_done rfl hI (Below.refl _ _) rfl
        · obtain ⟨u4, u5, u6⟩ := hV
          simp only [u6]
          clear u4 u5 u6
          have e0 : W.cell? ⟨b2, off2 + k * 2, none⟩ = some (.int .i64 rr.epoch) := (hI.cell (p := ⟨b2, off2 + k * 2, none⟩) hbs2).trans f0
          have e1 : W.cell? ⟨b2, off2 + k * 2 + 1, none⟩ = some (.slice ya yn yc) := (hI.cell (p := ⟨b2, off2 + k * 2 + 1, none⟩) hbs2).trans f1
          have HI := Lib.hid hI
          clear hI d0 d1 f0 f1
          go_wp2_with fail
          exact step_done rfl HI.out (Below.refl _ _) rfl
        · obtain ⟨u0, u1, u2, u3, u4, u5, u6, u7⟩ := hV
          simp only [u3, u7]
          clear u0 u1 u2 u3 u4 u5 u6 u7
          have HI := Lib.hid hI
          clear hI d0 d1 f0 f1
          go_wp2_with fail
          refine (HS.out W HI.out).mono ?_
          rintro e W' ⟨rfl, uW⟩
          have hs := HI.out.size
          have HW := Lib.hid uW
          have HU := Lib.hid (up HI.out uW)
          clear uW hs HI
          go_wp2_with fail
          exact step_done rfl HU.out HW.out rfl
        · obtain ⟨u0, u1, u2, u3, u4, u5, u6, u7, u8⟩ := hV
          simp only [u8]
          clear u0 u1 u2 u3 u4 u5 u6 u7 u8
          go_wp2_with fail
          exact step_done rfl hI (Below.refl _ _) rfl
      case fin =>
        intro x W hI hV
        simp only [AllV, and_true, List.length_cons, List.length_nil, List.range, List.range.loop] at hV
        obtain ⟨u0, u1, u2, u3, u4, u5, u6, u7, u8, u9⟩ := hV
        simp only [getsD, List.getD_cons_succ, List.getD_cons_zero, List.length_cons, List.length_nil, List.range, List.range.loop, u0, u1, u2, u3, u4, u5, u6, u7, u8, u9, Act.put, List.setIfInBounds_toArray, List.set_cons_succ, List.set_cons_zero]
        clear u0 u1 u2 u3 u4 u5 u6 u7 u8 u9
        have hz := HB.out.size
        have HN := Lib.hid (upper HB.out hI hz)
        clear hI d0 d1 f0 f1 hz
        go_wp2_with fail
        go_roundw
        case rel => exact ⟨k + 1, by omega, by go_num, HN.out⟩
        case measure => simp [intOf]; omega
    · have hkn : k = n1 := by omega
      subst hkn
      have HB := Lib.hid hb
      clear hb
      go_wp2_with fail
      go_ret
      exact ⟨rfl, HB.out⟩
end Go.Proofs.YtdbdhpjjndhjiaaDoor

set_option linter.unusedSimpArgs false
namespace Go.Proofs.YtdbdhpjjndhjiaaDoor
open Go.RowKit

/-- a whole tape is recovered whole -/
theorem recover_all (rs : List Rec) (hrs : ∀ r ∈ rs, checkRecord r = 0 ∧ I64 r.epoch) (hlen : rs.length ≤ 100) (N K : Nat) (hN : N = (tapeB rs).length) (hK : K = rs.length) (s : Int) (h0 : 0 ≤ s) (h1 : s ≤ N) (a : Option Addr) (c : Nat) (w : World) (hg : Good w) (hr : RdS (· < w.heap.size) w (tapeB rs) a N c) :
    Calls Tryd.prog 28 #[.agg #[.slice a N c, .int .i64 s]] w fun e w' => ∃ (ao : Option Addr) (co : Nat) (au : Option Addr) (cu : Nat), e = .returned (.tuple #[.slice ao K co, .agg #[.slice au N cu, .int .i64 s], .int .i64 0]) ∧ RdS (· < w'.heap.size) w' rs ao K co ∧ RdS (· < w'.heap.size) w' (tapeB rs) au N cu ∧ Below w.heap.size w w' := by
  have hr2 : RdS (· < w.heap.size) w ((tapeB rs).take N) a N c := by rw [List.take_of_length_le (by omega)]; exact hr
  refine (recover_ok rs hrs hlen N (by omega) s h0 h1 a c w hg hr2).mono ?_
  rintro e w' ⟨j, ao, au, co, cu, h1', h2, h3, rfl, h5, h6, h7⟩
  have hj : j = rs.length := by
    by_cases h : j < rs.length
    · have := h3 h
      have := offR_le rs (j + 1)
      omega
    · omega
  have ho : offR rs j = N := by rw [hj, offR_all]; omega
  have hmin : min s (N : Int) = s := by omega
  rw [hj, List.take_length] at h5 h6
  rw [← hj, ho] at h6
  rw [ho, hmin, hj, ← hK]
  rw [← hK] at h5
  exact ⟨ao, co, au, cu, rfl, h5, h6, h7⟩
set_option maxRecDepth 100000 in
set_option maxHeartbeats 6000000 in
theorem tapeTorn_walk (w : World) (hg : Good w) (a1 : Option Addr) (n1 c1 : Nat) (l1 : List Raw) (r1 : RdS (· < w.heap.size) w l1 a1 n1 c1) (x : Int) (hx : I64 x) :
    Calls Tryd.prog 10 #[.slice a1 n1 c1, .int .i64 x] w fun e w' => e = .returned (.bool true) ∧ Below w.heap.size w w' := by
  have hn1 := r1.1
  have HRc := Lib.hid (fun W (u : Below w.heap.size w W) => records_any l1 a1 n1 c1 15 W (r1.go u) (by omega))
  rw [show ((15 : Nat) : Int) = 15 from rfl] at HRc
  have hrs := recsOf_ok l1 (min n1 15) (by omega)
  have HT := Lib.hid (fun a c W hg hr => taped_ok (recsOf l1 (min n1 15)) a (min n1 15) c W hg hr (by omega) hrs)
  have hlen : min n1 15 = (recsOf l1 (min n1 15)).length := (recsOf_len l1 _).symm
  have hK : min n1 15 ≤ 15 := by omega
  have Hrs := Lib.hid hrs
  have Hlen := Lib.hid hlen
  have HA := Lib.hid recover_bad
  have g0 := Lib.hid hg
  have B0 := Lib.hid (Below.refl w.heap.size w)
  clear hg r1 hn1 hrs hlen
  generalize recsOf l1 (min n1 15) = rs at *
  generalize min n1 15 = K at *
  have htl : (tapeB rs).length ≤ 600195 := by have := tapeB_len rs (fun r hr => (Hrs.out r hr).1); have := Hlen.out; omega
  have rx := pk_range x (((tapeB rs).length : Int) + 1) (by omega)
  have HX := Lib.hid (fun W => picked_any x (((tapeB rs).length : Int) + 1) W hx (by omega) (by omega))
  generalize pk x (((tapeB rs).length : Int) + 1) = s at *
  obtain ⟨m, rfl⟩ : ∃ m : Nat, s = m := ⟨s.toNat, by omega⟩
  have hm : m ≤ (tapeB rs).length := by omega
  have HR := Lib.hid (fun a c W hg hr => recover_ok rs Hrs.out (by have := Hlen.out; omega) m hm 0 (by omega) (by omega) a c W hg hr)
  have HR2 := Lib.hid (fun j N (hj : j ≤ rs.length) (hN : N = (tapeB (rs.take j)).length) s h0 h1 a c W hg hr => recover_all (rs.take j) (fun r h => Hrs.out r (List.mem_of_mem_take h)) (by rw [List.length_take]; have := Hlen.out; omega) N j hN (by rw [List.length_take]; omega) s h0 h1 a c W hg hr)
  have HB := Lib.hid (fun j (hj : j ≤ rs.length) a1 a2 n1 c1 n2 c2 W h1 h2 => begins_ok (rs.take j) rs (by rw [List.length_take]; omega) (fun k h h2 => by simp) a1 a2 n1 c1 n2 c2 W h1 h2)
  have Hle := Lib.hid (offR_le rs)
  have Hall := Lib.hid (offR_all rs)
  generalize ht : tapeB rs = t at *
  clear ht rx hx
  go_enter Tryd.func10, Tryd.ntmps10
  go_wp2_with fail
  refine (HRc.out _ (Below.refl _ _)).mono ?_
  rintro e w1 ⟨ar, cr, rfl, rr, hb⟩
  have B1 := Lib.hid (up B0.out hb)
  have g1 := Lib.hid (g0.out.below' hb)
  have rr1 := Lib.hid rr
  clear B0 g0 hb rr
  go_wp2_with fail
  refine (HT.out _ _ _ g1.out rr1.out).mono ?_
  rintro e w2 ⟨a7, c7, rfl, rt, hb⟩
  have B2 := Lib.hid (up B1.out hb)
  have g2 := Lib.hid (g1.out.below' hb)
  have rr2 := Lib.hid (rr1.out.go hb)
  have rt2 := Lib.hid rt
  clear B1 g1 rr1 hb rt
  go_wp2_with fail
  refine (HX.out _).mono ?_
  rintro e W' ⟨rfl, rfl⟩
  have hc7 := rt2.out.2.1
  have i1 : (0 : Int) ≤ (m : Int) := by omega
  have i2 : (m : Int) ≤ (c7 : Int) := by omega
  have hal : Option.map (fun x : Addr => x.add 0) a7 = a7 := by cases a7 <;> simp [Addr.add]
  go_wp2_with fail
  refine abs_run (fun W => Below w2.heap.size w2 W ∧ Blk w2.heap.size (.cells #[.slice a7 t.length c7, .int .i64 0] 27 (0, 0)) W) ⟨(by (repeat (first | exact Below.refl _ _ | assumption | (refine Below.drew ?_) | (refine below_drewN ?_ _) | (refine Below.alloc ?_ (by first | (simp; done) | (simp; omega) | omega) _) | (refine Below.setCell ?_ (by first | (simp; done) | (simp; omega) | omega) _) | (refine Below.trans ?_ (Below.mono (by assumption) (by first | (simp; done) | (simp; omega) | omega)))))), Blk.new w2 _⟩ ?_
  rintro w3 ⟨hb, bt⟩
  have B3 := Lib.hid (up B2.out hb)
  have g3 := Lib.hid (g2.out.below' hb)
  have rr3 := Lib.hid (rr2.out.go hb)
  have rt3 := Lib.hid (rt2.out.go hb)
  have bt3 := Lib.hid bt
  clear B2 g2 rr2 rt2 hb bt
  refine (HR.out _ _ _ g3.out ((rt3.out.upto m hm).cap)).mono ?_
  rintro e w4 ⟨j, ag, au, cg, cu, hj1, hj2, hj3, rfl, rg, ru, hb⟩
  have B4 := Lib.hid (up B3.out hb)
  have g4 := Lib.hid (g3.out.below' hb)
  have rr4 := Lib.hid (rr3.out.go hb)
  have rt4 := Lib.hid (rt3.out.go hb)
  have bt4 := Lib.hid (bt3.out.go hb)
  have rg4 := Lib.hid rg
  have ru4 := Lib.hid ru
  clear B3 g3 rr3 rt3 bt3 hb rg ru
  clear i1 i2 hal
  have hmin : min (0 : Int) ((offR rs j : Nat) : Int) = 0 := by omega
  go_wp2_with fail
  refine abs_run (fun W => Below w4.heap.size w4 W ∧ Blk w4.heap.size (.cells #[.slice au (offR rs j) cu, .int .i64 0] 27 (0, 0)) W) ⟨(by (repeat (first | exact Below.refl _ _ | assumption | (refine Below.drew ?_) | (refine below_drewN ?_ _) | (refine Below.alloc ?_ (by first | (simp; done) | (simp; omega) | omega) _) | (refine Below.setCell ?_ (by first | (simp; done) | (simp; omega) | omega) _) | (refine Below.trans ?_ (Below.mono (by assumption) (by first | (simp; done) | (simp; omega) | omega)))))), Blk.new w4 _⟩ ?_
  rintro w5 ⟨hb, b10⟩
  have B5 := Lib.hid (up B4.out hb)
  have g5 := Lib.hid (g4.out.below' hb)
  have rr5 := Lib.hid (rr4.out.go hb)
  have rt5 := Lib.hid (rt4.out.go hb)
  have bt5 := Lib.hid (bt4.out.go hb)
  have rg5 := Lib.hid (rg4.out.go hb)
  have ru5 := Lib.hid (ru4.out.go hb)
  have b105 := Lib.hid b10
  clear B4 g4 rr4 rt4 bt4 rg4 ru4 hb b10
  refine (HR2.out j (offR rs j) hj1 rfl 0 (by omega) (by omega) _ _ _ g5.out ru5.out).mono ?_
  rintro e w6 ⟨ah, ch, av, cv, rfl, rh, rv, hb⟩
  have B6 := Lib.hid (up B5.out hb)
  have g6 := Lib.hid (g5.out.below' hb)
  have rr6 := Lib.hid (rr5.out.go hb)
  have rt6 := Lib.hid (rt5.out.go hb)
  have bt6 := Lib.hid (bt5.out.go hb)
  have rg6 := Lib.hid (rg5.out.go hb)
  have ru6 := Lib.hid (ru5.out.go hb)
  have b106 := Lib.hid (b105.out.go hb)
  have rh6 := Lib.hid rh
  have rv6 := Lib.hid rv
  clear B5 g5 rr5 rt5 bt5 rg5 ru5 b105 hb rh rv
  go_wp2_with fail
  refine abs_run (fun W => Below w6.heap.size w6 W ∧ Blk w6.heap.size (.cells #[.slice av (offR rs j) cv, .int .i64 0] 27 (0, 0)) W) ⟨(by (repeat (first | exact Below.refl _ _ | assumption | (refine Below.drew ?_) | (refine below_drewN ?_ _) | (refine Below.alloc ?_ (by first | (simp; done) | (simp; omega) | omega) _) | (refine Below.setCell ?_ (by first | (simp; done) | (simp; omega) | omega) _) | (refine Below.trans ?_ (Below.mono (by assumption) (by first | (simp; done) | (simp; omega) | omega)))))), Blk.new w6 _⟩ ?_
  rintro w7 ⟨hb, b13⟩
  have B7 := Lib.hid (up B6.out hb)
  have g7 := Lib.hid (g6.out.below' hb)
  have rr7 := Lib.hid (rr6.out.go hb)
  have rt7 := Lib.hid (rt6.out.go hb)
  have bt7 := Lib.hid (bt6.out.go hb)
  have rg7 := Lib.hid (rg6.out.go hb)
  have ru7 := Lib.hid (ru6.out.go hb)
  have b107 := Lib.hid (b106.out.go hb)
  have rh7 := Lib.hid (rh6.out.go hb)
  have rv7 := Lib.hid (rv6.out.go hb)
  have b137 := Lib.hid b13
  clear B6 g6 rr6 rt6 bt6 rg6 ru6 b106 rh6 rv6 hb b13
  refine (HA.out _).mono ?_
  rintro e w8 ⟨rfl, hb⟩
  have B8 := Lib.hid (up B7.out hb)
  have g8 := Lib.hid (g7.out.below' hb)
  have rr8 := Lib.hid (rr7.out.go hb)
  have rt8 := Lib.hid (rt7.out.go hb)
  have bt8 := Lib.hid (bt7.out.go hb)
  have rg8 := Lib.hid (rg7.out.go hb)
  have ru8 := Lib.hid (ru7.out.go hb)
  have b108 := Lib.hid (b107.out.go hb)
  have rh8 := Lib.hid (rh7.out.go hb)
  have rv8 := Lib.hid (rv7.out.go hb)
  have b138 := Lib.hid (b137.out.go hb)
  clear B7 g7 rr7 rt7 bt7 rg7 ru7 b107 rh7 rv7 b137 hb
  go_wp2_with fail
  refine abs_run (fun W => Below w8.heap.size w8 W) (by (repeat (first | exact Below.refl _ _ | assumption | (refine Below.drew ?_) | (refine below_drewN ?_ _) | (refine Below.alloc ?_ (by first | (simp; done) | (simp; omega) | omega) _) | (refine Below.setCell ?_ (by first | (simp; done) | (simp; omega) | omega) _) | (refine Below.trans ?_ (Below.mono (by assumption) (by first | (simp; done) | (simp; omega) | omega)))))) ?_
  rintro w9 hb
  have B9 := Lib.hid (up B8.out hb)
  have g9 := Lib.hid (g8.out.below' hb)
  have rr9 := Lib.hid (rr8.out.go hb)
  have rt9 := Lib.hid (rt8.out.go hb)
  have bt9 := Lib.hid (bt8.out.go hb)
  have rg9 := Lib.hid (rg8.out.go hb)
  have ru9 := Lib.hid (ru8.out.go hb)
  have b109 := Lib.hid (b108.out.go hb)
  have rh9 := Lib.hid (rh8.out.go hb)
  have rv9 := Lib.hid (rv8.out.go hb)
  have b139 := Lib.hid (b138.out.go hb)
  clear B8 g8 rr8 rt8 bt8 rg8 ru8 b108 rh8 rv8 b138 hb
  refine (HB.out j hj1 _ _ _ _ _ _ _ rg9.out rr9.out).mono ?_
  rintro e w10 ⟨rfl, hb⟩
  have B10 := Lib.hid (up B9.out hb)
  have g10 := Lib.hid (g9.out.below' hb)
  have rr10 := Lib.hid (rr9.out.go hb)
  have rt10 := Lib.hid (rt9.out.go hb)
  have bt10 := Lib.hid (bt9.out.go hb)
  have rg10 := Lib.hid (rg9.out.go hb)
  have ru10 := Lib.hid (ru9.out.go hb)
  have b1010 := Lib.hid (b109.out.go hb)
  have rh10 := Lib.hid (rh9.out.go hb)
  have rv10 := Lib.hid (rv9.out.go hb)
  have b1310 := Lib.hid (b139.out.go hb)
  clear B9 g9 rr9 rt9 bt9 rg9 ru9 b109 rh9 rv9 b139 hb
  have hcv1 := ru10.out.conv
  have hcv2 := rv10.out.conv
  have p0 := bt10.out.cell 0
  have p1 := b1010.out.cell 0
  have p2 := b1310.out.cell 0
  simp only [List.getElem?_toArray, List.getElem?_cons_zero, List.getElem?_cons_succ] at p0 p1 p2
  have hd1 : decide (((offR rs j : Nat) : Int) ≤ (m : Int)) = true := by simp; omega
  have hfin : (((j : Int) == (K : Int)) = true ∧ ((m : Int) == (t.length : Int)) = true) ∨ (((j : Int) == (K : Int)) = false ∧ ((m : Int) == (t.length : Int)) = false) := by
    have e1 := Hlen.out
    have e2 := Hall.out
    by_cases hjK : j = K
    · left
      subst hjK
      rw [e1] at hj2
      exact ⟨by simp, by simp; omega⟩
    · right
      have h1 := hj3 (by omega)
      have h2 := Hle.out (j + 1)
      exact ⟨by simp; omega, by simp; omega⟩
  clear hj3
  rcases hfin with ⟨f1, f2⟩ | ⟨f1, f2⟩ <;>
  · go_wp2_with fail
    go_ret
    exact ⟨rfl, B10.out⟩
end Go.Proofs.YtdbdhpjjndhjiaaDoor

set_option linter.unusedSimpArgs false
namespace Go.Proofs.YtdbdhpjjndhjiaaDoor
open Go.RowKit

/-- Append to a tape of records, as the walks of laws take it -/
theorem append_recs (rs : List Rec) (j N : Nat) (hN : N = (tapeB (rs.take j)).length) (s : Int) (x : Rec) (h0 : 0 ≤ s) (h1 : s ≤ N) (x0 : checkRecord x = 0) (x1 : I64 x.epoch) (hl : N ≤ 8000000) (a xa : Option Addr) (c xn xc : Nat) (w : World) (hg : Good w) (hr : RdS (· < w.heap.size) w (tapeB (rs.take j)) a N c) (hx : RdS (· < w.heap.size) w x.op xa xn xc) :
    Calls Tryd.prog 17 #[.agg #[.slice a N c, .int .i64 s], .agg #[.int .i64 x.epoch, .slice xa xn xc]] w fun e w' => ∃ (a' : Option Addr) (c' : Nat), e = .returned (.tuple #[.agg #[.slice a' (tapeB (rs.take j ++ [x])).length c', .int .i64 s], .int .i64 0]) ∧ RdS (· < w'.heap.size) w' (tapeB (rs.take j ++ [x])) a' (tapeB (rs.take j ++ [x])).length c' ∧ Below w.heap.size w w' := by
  subst hN
  have e : tapeB (rs.take j ++ [x]) = tapeB (rs.take j) ++ entry x := by rw [tapeB_app]; simp [tapeB]
  rw [e]
  have hrl := (rec_len x0).1
  exact (append_ok _ s x a xa c xn xc w hg hr h0 h1 hx x0 x1 (by omega)).mono fun e w' ⟨v, h1, a', c', h2, _, h3, h4⟩ => ⟨a', c', by rw [h1, h2], h3.wide fun k hk => hk.2, h4⟩
/-- the box of a tape that crashes: ahead of it and behind it -/
def CrI (T : Nat) (t : Bs) (m : Nat) (a : Option Addr) (c : Nat) (s : Int) (b : Bool) (W : World) : Prop :=
  ∃ v s', Blk T (.cells #[v, .int .i64 s'] 27 (0, 0)) W ∧ (b = false → v = .slice a t.length c ∧ s' = s) ∧ (b = true → ∃ a8 c8, v = .slice a8 m c8 ∧ s' = m ∧ RdS (fun k => k ≠ T ∧ k < W.heap.size) W (t.take m) a8 m c8)
theorem CrI.go {T : Nat} {t : Bs} {m : Nat} {a : Option Addr} {c : Nat} {s : Int} {b : Bool} {W W' : World} (h : CrI T t m a c s b W) (hb : Below W.heap.size W W') : CrI T t m a c s b W' := by
  obtain ⟨v, s', h1, h2, h3⟩ := h
  refine ⟨v, s', h1.go hb, h2, fun h => ?_⟩
  obtain ⟨a8, c8, e1, e2, r⟩ := h3 h
  exact ⟨a8, c8, e1, e2, r.mono fun k hk => ⟨⟨hk.1, Nat.lt_of_lt_of_le hk.2 hb.size⟩, hb.block k hk.2⟩⟩
set_option maxRecDepth 100000 in
set_option maxHeartbeats 6000000 in
theorem tapeOn_walk (w : World) (hg : Good w) (a1 : Option Addr) (n1 c1 : Nat) (l1 : List Raw) (r1 : RdS (· < w.heap.size) w l1 a1 n1 c1) (y : Int) (hy : I64 y) (r : Raw) (hr : r.ok) :
    Calls Tryd.prog 11 #[.slice a1 n1 c1, .int .i64 y, rawV r] w fun e w' => e = .returned (.bool true) ∧ Below w.heap.size w w' := by
  have hn1 := r1.1
  have HRc := Lib.hid (fun W (u : Below w.heap.size w W) => records_any l1 a1 n1 c1 15 W (r1.go u) (by omega))
  rw [show ((15 : Nat) : Int) = 15 from rfl] at HRc
  have hrs := recsOf_ok l1 (min n1 15) (by omega)
  have HT := Lib.hid (fun a c W hg hr => taped_ok (recsOf l1 (min n1 15)) a (min n1 15) c W hg hr (by omega) hrs)
  have hlen : min n1 15 = (recsOf l1 (min n1 15)).length := (recsOf_len l1 _).symm
  have hK : min n1 15 ≤ 15 := by omega
  have Hrs := Lib.hid hrs
  have Hlen := Lib.hid hlen
  have hxr := recOf_ok r l1
  have HRec := Lib.hid (fun W (u : Below w.heap.size w W) => record_go r l1 a1 n1 c1 W (r1.go u) hr)
  have g0 := Lib.hid hg
  have B0 := Lib.hid (Below.refl w.heap.size w)
  clear hg r1 hn1 hrs hlen hr
  generalize recOf r l1 = xr at *
  generalize recsOf l1 (min n1 15) = rs at *
  generalize min n1 15 = K at *
  have htl : (tapeB rs).length ≤ 600195 := by have := tapeB_len rs (fun r hr => (Hrs.out r hr).1); have := Hlen.out; omega
  have ry := pk_range y 200 (by omega)
  have HY := Lib.hid (fun W => picked_any y 200 W hy (by omega) (by omega))
  generalize pk y 200 = keep at *
  obtain ⟨m, hm⟩ : ∃ m : Nat, (m : Int) = 0 + min keep ((tapeB rs).length - 0) := ⟨(0 + min keep ((tapeB rs).length - 0)).toNat, by omega⟩
  have hml : m ≤ (tapeB rs).length := by omega
  have HC := Lib.hid (fun a c W hr => crash_new (tapeB rs) 0 keep m a c W hr (by omega) (by omega) (by omega) (by omega) (by omega) hm)
  have HR := Lib.hid (fun a c W hg hr => recover_ok rs Hrs.out (by have := Hlen.out; omega) m hml m (by omega) (by omega) a c W hg hr)
  have Hmem : Hid (∀ j, ∀ r ∈ rs.take j ++ [xr], checkRecord r = 0 ∧ I64 r.epoch) := fun j r h => by
    rcases List.mem_append.1 h with h | h
    · exact Hrs.out r (List.mem_of_mem_take h)
    · simp at h; subst h; exact hxr
  have HA := Lib.hid (fun j N (hN : N = (tapeB (rs.take j)).length) s h0 h1 hl a xa c xn xc W hg hr hx => append_recs rs j N hN s xr h0 h1 hxr.1 hxr.2 hl a xa c xn xc W hg hr hx)
  have HR2 := Lib.hid (fun j (hj : j ≤ rs.length) N (hN : N = (tapeB (rs.take j ++ [xr])).length) s h0 h1 a c W hg hr => recover_all (rs.take j ++ [xr]) (Hmem.out j) (by rw [List.length_append, List.length_take, List.length_singleton]; have := Hlen.out; omega) N (j + 1) hN (by rw [List.length_append, List.length_take, List.length_singleton]; omega) s h0 h1 a c W hg hr)
  have HB := Lib.hid (fun j (hj : j ≤ rs.length) a1 a2 n1 c1 n2 c2 W h1 h2 => begins_ok (rs.take j) (rs.take j ++ [xr]) (by rw [List.length_append]; omega) (fun k h h2 => by rw [List.getElem_append_left h]) a1 a2 n1 c1 n2 c2 W h1 h2)
  have HS := Lib.hid (fun a b n c m d W h1 h2 => sameRecord_ok xr a b n c m d W h1 h2)
  have Hle := Lib.hid (offR_le rs)
  have Hm := Lib.hid hm
  have Hxi := Lib.hid hxr.2
  clear hm hxr hy
  generalize ht : tapeB rs = t at *
  clear ht
  obtain ⟨rk, xa, xb, xc, xt⟩ := r
  unfold rawV at HRec ⊢
  simp only at HRec ⊢
  go_enter Tryd.func11, Tryd.ntmps11
  go_wp2_with fail
  refine abs_run (fun W => Below w.heap.size w W ∧ Blk w.heap.size (.cells #[.int .i64 rk, .int .i64 xa, .int .i64 xb, .int .i64 xc, .string xt] 45 (0, 0)) W) ⟨(by (repeat (first | exact Below.refl _ _ | assumption | (refine Below.drew ?_) | (refine below_drewN ?_ _) | (refine Below.alloc ?_ (by first | (simp; done) | (simp; omega) | omega) _) | (refine Below.setCell ?_ (by first | (simp; done) | (simp; omega) | omega) _) | (refine Below.trans ?_ (Below.mono (by assumption) (by first | (simp; done) | (simp; omega) | omega)))))), Blk.new w _⟩ ?_
  rintro w1 ⟨hb, bq⟩
  have B1 := Lib.hid (up B0.out hb)
  have g1 := Lib.hid (g0.out.below' hb)
  have bq1 := Lib.hid bq
  clear B0 g0 hb bq
  refine (HRc.out _ B1.out).mono ?_
  rintro e w2 ⟨ar, cr, rfl, rr, hb⟩
  have B2 := Lib.hid (up B1.out hb)
  have g2 := Lib.hid (g1.out.below' hb)
  have bq2 := Lib.hid (bq1.out.go hb)
  have rr2 := Lib.hid rr
  clear B1 g1 bq1 hb rr
  go_wp2_with fail
  refine (HT.out _ _ _ g2.out rr2.out).mono ?_
  rintro e w3 ⟨a7, c7, rfl, rt, hb⟩
  have B3 := Lib.hid (up B2.out hb)
  have g3 := Lib.hid (g2.out.below' hb)
  have bq3 := Lib.hid (bq2.out.go hb)
  have rr3 := Lib.hid (rr2.out.go hb)
  have rt3 := Lib.hid rt
  clear B2 g2 bq2 rr2 hb rt
  clear rr3
  go_wp2_with fail
  refine abs_w (fun W => Below w3.heap.size w3 W ∧ Blk w3.heap.size (.cells #[.slice a7 t.length c7, .int .i64 0] 27 (0, 0)) W) ⟨by (repeat (first | exact Below.refl _ _ | assumption | (refine Below.drew ?_) | (refine below_drewN ?_ _) | (refine Below.alloc ?_ (by first | (simp; done) | (simp; omega) | omega) _) | (refine Below.setCell ?_ (by first | (simp; done) | (simp; omega) | omega) _) | (refine Below.trans ?_ (Below.mono (by assumption) (by first | (simp; done) | (simp; omega) | omega))))), Blk.new _ _⟩ ?_
  rintro w4 ⟨u4, b4⟩
  have U4 := Lib.hid u4
  have X4 := Lib.hid b4
  clear u4 b4
  obtain ⟨Vp, HV⟩ : ∃ Vp : Nat → Value → World → Prop, Hid (Vp = fun i v W => match i with
      | 0 => v = .agg #[.slice a7 t.length c7, .int .i64 0]
      | 1 => v = .int .i64 y
      | 2 => v = .int .i64 keep
      | 3 => ∃ a8 c8, v = .tuple #[.agg #[.slice a8 m c8, .int .i64 m], .int .i64 0] ∧ RdS (fun k => k ≠ w3.heap.size ∧ k < W.heap.size) W (t.take m) a8 m c8
      | 4 => ∃ a8 c8, v = .tuple #[.agg #[.slice a8 m c8, .int .i64 m], .int .i64 0] ∧ RdS (fun k => k ≠ w3.heap.size ∧ k < W.heap.size) W (t.take m) a8 m c8
      | 5 => ∃ a8 c8, v = .agg #[.slice a8 m c8, .int .i64 m] ∧ RdS (fun k => k ≠ w3.heap.size ∧ k < W.heap.size) W (t.take m) a8 m c8
      | 6 => v = .int .i64 0
      | 7 => v = undef
      | _ => v = .int .i64 0) := ⟨_, rfl⟩
  obtain ⟨Ip, HIp⟩ : ∃ Ip : (Nat → Bool) → (Nat → Value) → World → Prop, Hid (Ip = fun L x W => (Below w3.heap.size w3 W ∧ CrI w3.heap.size t m a7 c7 0 (L 7) W)) := ⟨_, rfl⟩
  refine region_lit3 (by kernel_rfl) (by kernel_rfl) (by kernel_rfl) [[], [], [1], [0, 1, 2], [0, 1, 2, 3], [0, 1, 2, 3, 4], [0, 1, 2, 3, 4], [0, 1, 2, 3, 4, 5], [0, 1, 2, 3, 4, 6]] (by kernel_rfl) [some 26, some 27, some 28, some 29, some 25, some 30, some 31, none, some 9] (by kernel_rfl) [[0, 3, 4, 5, 6, 7, 8], [1, 2, 3, 4, 5, 6, 7, 8], [2, 3, 4, 5, 6, 7, 8], [3, 4, 5, 6, 7, 8], [4, 5, 6, 7, 8], [5, 7], [6, 8], [7], [8]] (by kernel_rfl) [[], [], [], [7], [], [7], [], [], []] [[], [], [1], [0, 2], [3], [4], [4], [5], [6]] (by kernel_rfl)
    Ip
    Vp
    (fun j W W' => match j with
      | 7 => Touch (fun z => z = w3.heap.size) W W'
      | _ => Below W.heap.size W W')
    [fun x => ⟨#[undef, undef, undef, undef, undef, undef, undef, .pointer (some ⟨w3.heap.size, 0, none⟩), undef, undef, undef, undef, undef, undef, undef, undef, undef, undef, undef, undef, undef, undef, undef, undef, undef, undef, undef], []⟩,
   fun x => ⟨#[undef, .int .i64 y, undef, undef, undef, undef, undef, undef, undef, undef, undef, undef, undef, undef, undef, undef, undef, undef, undef, undef, undef, undef, undef, undef, undef, undef, undef, undef], []⟩,
   fun x => ⟨#[undef, undef, undef, undef, undef, undef, undef, undef, undef, undef, undef, undef, undef, undef, undef, undef, undef, undef, undef, undef, undef, undef, undef, undef, undef, undef, undef, x 1, undef], []⟩,
   fun x => ⟨#[undef, undef, undef, undef, undef, undef, undef, undef, undef, undef, undef, undef, undef, undef, undef, undef, undef, undef, undef, undef, undef, undef, undef, undef, undef, undef, x 0, undef, x 2, undef], []⟩,
   fun x => ⟨#[undef, undef, undef, undef, undef, undef, undef, undef, undef, undef, undef, undef, undef, undef, undef, undef, undef, undef, undef, undef, undef, undef, undef, undef, undef, undef, undef, undef, undef, x 3], []⟩,
   fun x => ⟨#[undef, undef, undef, undef, undef, undef, undef, undef, undef, undef, undef, undef, undef, undef, undef, undef, undef, undef, undef, undef, undef, undef, undef, undef, undef, x 4, undef, undef, undef, undef, undef], []⟩,
   fun x => ⟨#[undef, undef, undef, undef, undef, undef, undef, undef, undef, undef, undef, undef, undef, undef, undef, undef, undef, undef, undef, undef, undef, undef, undef, undef, undef, x 4, undef, undef, undef, undef, undef, undef], []⟩,
   fun x => ⟨#[undef, undef, undef, undef, undef, undef, undef, .pointer (some ⟨w3.heap.size, 0, none⟩), undef, undef, undef, undef, undef, undef, undef, undef, undef, undef, undef, undef, undef, undef, undef, undef, undef, undef, undef, undef, undef, undef, x 5], []⟩,
   fun x => ⟨#[undef, undef, undef, undef, undef, undef, undef, undef, undef, undef, undef, undef, undef, undef, undef, undef, undef, undef, undef, undef, undef, undef, undef, undef, undef, undef, undef, undef, undef, undef, undef, x 6], []⟩]
    ?hF ?mono ?h0 ?step [0, 1, 2, 4, 6, 7, 8] (by kernel_rfl) ?fin
  case hF =>
    exact ⟨fun x => ⟨by kernel_rfl, by kernel_rfl⟩, fun x => ⟨by kernel_rfl, by kernel_rfl⟩, fun x => ⟨by kernel_rfl, by kernel_rfl⟩, fun x => ⟨by kernel_rfl, by kernel_rfl⟩, fun x => ⟨by kernel_rfl, by kernel_rfl⟩, fun x => ⟨by kernel_rfl, by kernel_rfl⟩, fun x => ⟨by kernel_rfl, by kernel_rfl⟩, fun x => ⟨by kernel_rfl, by kernel_rfl⟩, fun x => ⟨by kernel_rfl, by kernel_rfl⟩, trivial⟩
  case mono =>
    intro i j hi hj hne hna hnk v W W' hE hv
    rw [HV.out] at hv ⊢
    simp only [List.length_cons, List.length_nil] at hi hj
    match i, hi with
    | 0, _ | 1, _ | 2, _ | 6, _ | 7, _ | 8, _ => exact hv
    | 3, _ =>
      match j, hj with
      | 3, _ => exact absurd rfl hne
      | 0, _ => exact absurd (by simp) hna
      | 1, _ => exact absurd (by simp) hna
      | 2, _ => exact absurd (by simp) hna
      | 7, _ => exact absurd (by simp) hnk
      | 4, _ => exact (by obtain ⟨a, c, h1, h2⟩ := hv; exact ⟨a, c, h1, h2.mono fun k hk => ⟨⟨hk.1, Nat.lt_of_lt_of_le hk.2 hE.size⟩, hE.block k hk.2⟩⟩)
      | 5, _ => exact (by obtain ⟨a, c, h1, h2⟩ := hv; exact ⟨a, c, h1, h2.mono fun k hk => ⟨⟨hk.1, Nat.lt_of_lt_of_le hk.2 hE.size⟩, hE.block k hk.2⟩⟩)
      | 6, _ => exact (by obtain ⟨a, c, h1, h2⟩ := hv; exact ⟨a, c, h1, h2.mono fun k hk => ⟨⟨hk.1, Nat.lt_of_lt_of_le hk.2 hE.size⟩, hE.block k hk.2⟩⟩)
      | 8, _ => exact (by obtain ⟨a, c, h1, h2⟩ := hv; exact ⟨a, c, h1, h2.mono fun k hk => ⟨⟨hk.1, Nat.lt_of_lt_of_le hk.2 hE.size⟩, hE.block k hk.2⟩⟩)
      | m + 9, h => exact absurd h (by omega)
    | 4, _ =>
      match j, hj with
      | 4, _ => exact absurd rfl hne
      | 0, _ => exact absurd (by simp) hna
      | 1, _ => exact absurd (by simp) hna
      | 2, _ => exact absurd (by simp) hna
      | 3, _ => exact absurd (by simp) hna
      | 5, _ => exact (by obtain ⟨a, c, h1, h2⟩ := hv; exact ⟨a, c, h1, h2.mono fun k hk => ⟨⟨hk.1, Nat.lt_of_lt_of_le hk.2 hE.size⟩, hE.block k hk.2⟩⟩)
      | 6, _ => exact (by obtain ⟨a, c, h1, h2⟩ := hv; exact ⟨a, c, h1, h2.mono fun k hk => ⟨⟨hk.1, Nat.lt_of_lt_of_le hk.2 hE.size⟩, hE.block k hk.2⟩⟩)
      | 7, _ => exact (by obtain ⟨a, c, h1, h2⟩ := hv; exact ⟨a, c, h1, h2.mono fun k hk => ⟨⟨hk.1, Nat.lt_of_lt_of_le hk.2 hE.size⟩, hE.block k hk.2 hk.1⟩⟩)
      | 8, _ => exact (by obtain ⟨a, c, h1, h2⟩ := hv; exact ⟨a, c, h1, h2.mono fun k hk => ⟨⟨hk.1, Nat.lt_of_lt_of_le hk.2 hE.size⟩, hE.block k hk.2⟩⟩)
      | m + 9, h => exact absurd h (by omega)
    | 5, _ =>
      match j, hj with
      | 5, _ => exact absurd rfl hne
      | 0, _ => exact absurd (by simp) hna
      | 1, _ => exact absurd (by simp) hna
      | 2, _ => exact absurd (by simp) hna
      | 3, _ => exact absurd (by simp) hna
      | 4, _ => exact absurd (by simp) hna
      | 7, _ => exact absurd (by simp) hnk
      | 6, _ => exact (by obtain ⟨a, c, h1, h2⟩ := hv; exact ⟨a, c, h1, h2.mono fun k hk => ⟨⟨hk.1, Nat.lt_of_lt_of_le hk.2 hE.size⟩, hE.block k hk.2⟩⟩)
      | 8, _ => exact (by obtain ⟨a, c, h1, h2⟩ := hv; exact ⟨a, c, h1, h2.mono fun k hk => ⟨⟨hk.1, Nat.lt_of_lt_of_le hk.2 hE.size⟩, hE.block k hk.2⟩⟩)
      | m + 9, h => exact absurd h (by omega)
    | m + 9, h => exact absurd h (by omega)
  case h0 => intro x; exact toI HIp ⟨U4.out.drew, _, _, X4.out, fun _ => ⟨rfl, rfl⟩, fun h => by cases h⟩
  case step =>
    refine ⟨?_, ?_, ?_, ?_, ?_, ?_, ?_, ?_, ?_, trivial⟩
    all_goals
      intro x W L hI hL hV
      replace hI : (Below w3.heap.size w3 W ∧ CrI w3.heap.size t m a7 c7 0 (L 7) W) := ofI HIp hI
      rw [HV.out] at hV
      simp only [AllV, and_true] at hV
    · clear hV
      (try dsimp only)
      obtain ⟨v, s', h1, h2, -⟩ := hI.2
      obtain ⟨rfl, rfl⟩ := h2 (hL.2 7 (by simp))
      have e0 : W.cell? ⟨w3.heap.size, 0, none⟩ = some (.slice a7 t.length c7) := h1.cell 0
      have e1 : W.cell? ⟨w3.heap.size, 1, none⟩ = some (.int .i64 0) := h1.cell 1
      have HI := Lib.hid hI
      clear hI h1
      go_wp2_with fail
      refine step3_done rfl ?_ ?_ ?_
      · exact (toI HIp HI.out)
      · exact (Below.refl _ _)
      · exact (toV HV rfl)
    · clear hV
      (try dsimp only)
      have HI := Lib.hid hI
      clear hI
      go_wp2_with fail
      refine step3_done rfl ?_ ?_ ?_
      · exact (toI HIp HI.out)
      · exact (Below.refl _ _)
      · exact (toV HV rfl)
    · have u1 := hV
      clear hV
      simp only [u1]
      clear u1
      have HI := Lib.hid hI
      clear hI
      go_wp2_with fail
      refine (HY.out _).mono ?_
      rintro e W' ⟨rfl, rfl⟩
      go_wp2_with fail
      refine step3_done rfl ?_ ?_ ?_
      · exact (toI HIp HI.out)
      · exact (Below.refl _ _)
      · exact (toV HV rfl)
    · obtain ⟨u0, u2⟩ := hV
      simp only [u0, u2]
      clear u0 u2
      have HI := Lib.hid hI
      clear hI
      go_wp2_with fail
      refine (HC.out _ _ W (rt3.out.go HI.out.1)).mono ?_
      rintro e W' ⟨a8, c8, rfl, r8, uW⟩
      have hT : w3.heap.size < W.heap.size := by obtain ⟨v, s', h1, -, -⟩ := HI.out.2; exact h1.lt
      have HR8 : Hid (RdS (fun k => k ≠ w3.heap.size ∧ k < W'.heap.size) W' (t.take m) a8 m c8) := r8.mono fun k hk => ⟨⟨by have := hk.1; omega, hk.2⟩, rfl⟩
      have HU := Lib.hid (And.intro (up HI.out.1 uW) (HI.out.2.go uW))
      have HW := Lib.hid uW
      clear uW r8 HI hT
      go_wp2_with fail
      refine step3_done rfl ?_ ?_ ?_
      · exact (toI HIp HU.out)
      · exact HW.out
      · exact (toV HV ⟨_, _, rfl, HR8.out⟩)
    · obtain ⟨a3, c3, u3, r3⟩ := hV
      simp only [u3]
      have U3 := Lib.hid u3
      clear u3
      have HI := Lib.hid hI
      have HR8 := Lib.hid r3
      clear hI r3
      go_wp2_with fail
      refine step3_done rfl ?_ ?_ ?_
      · exact (toI HIp HI.out)
      · exact (Below.refl _ _)
      · exact (toV HV ⟨_, _, rfl, HR8.out⟩)
    · obtain ⟨a4, c4, u4, r4⟩ := hV
      simp only [u4]
      have U4 := Lib.hid u4
      clear u4
      have HI := Lib.hid hI
      have HR8 := Lib.hid r4
      clear hI r4
      go_wp2_with fail
      refine step3_done rfl ?_ ?_ ?_
      · exact (toI HIp HI.out)
      · exact (Below.refl _ _)
      · exact (toV HV ⟨_, _, rfl, HR8.out⟩)
    · obtain ⟨a4, c4, u4, r4⟩ := hV
      simp only [u4]
      have U4 := Lib.hid u4
      clear u4
      have HI := Lib.hid hI
      clear hI r4
      go_wp2_with fail
      refine step3_done rfl ?_ ?_ ?_
      · exact (toI HIp HI.out)
      · exact (Below.refl _ _)
      · exact (toV HV rfl)
    · obtain ⟨a5, c5, u5, r5⟩ := hV
      simp only [u5]
      have U5 := Lib.hid u5
      clear u5
      obtain ⟨v, s', h1, -, -⟩ := hI.2
      have e0 : W.cell? ⟨w3.heap.size, 0, none⟩ = some v := h1.cell 0
      have e1 : W.cell? ⟨w3.heap.size, 1, none⟩ = some (.int .i64 s') := h1.cell 1
      have e2 := h1.frozen
      have hT := touch2 W w3.heap.size (.slice a5 m c5) (.int .i64 m)
      have HT2 := Lib.hid hT
      have HN : Hid (Below w3.heap.size w3 ((W.setCell ⟨w3.heap.size, 0, none⟩ (.slice a5 m c5)).setCell ⟨w3.heap.size, 1, none⟩ (.int .i64 m)) ∧ CrI w3.heap.size t m a7 c7 0 true ((W.setCell ⟨w3.heap.size, 0, none⟩ (.slice a5 m c5)).setCell ⟨w3.heap.size, 1, none⟩ (.int .i64 m))) :=
        ⟨hI.1.trans (hT.toBelow hI.1.size (fun k hk => by subst hk; exact Nat.le_refl _)), ⟨_, _, (h1.set 0 _).set 1 _, (fun h => by cases h), (fun _ => ⟨_, _, rfl, rfl, r5.mono fun k hk => ⟨⟨hk.1, Nat.lt_of_lt_of_le hk.2 hT.size⟩, hT.block k hk.2 hk.1⟩⟩)⟩⟩
      clear hI h1 hT r5
      go_wp2_with fail
      exact step3_done (v := undef) rfl (toI HIp HN.out) HT2.out (toV HV rfl)
    · have u6 := hV
      clear hV
      simp only [u6]
      clear u6
      have HI := Lib.hid hI
      clear hI
      go_wp2_with fail
      refine step3_done rfl ?_ ?_ ?_
      · exact (toI HIp HI.out)
      · exact (Below.refl _ _)
      · exact (toV HV rfl)
  case fin =>
    intro x W L hL hI hV
    replace hI : (Below w3.heap.size w3 W ∧ CrI w3.heap.size t m a7 c7 0 (L 7) W) := ofI HIp hI
    rw [HV.out] at hV
    simp only [AllV, and_true] at hV
    obtain ⟨u0, u1, u2, ⟨a4, c4, u4, r4⟩, u6, u7, u8⟩ := hV
    simp only [getsD, List.getD_cons_succ, List.getD_cons_zero, List.length_cons, List.length_nil, List.range, List.range.loop, u0, u1, u2, u4, u6, u7, u8, Act.put, List.setIfInBounds_toArray, List.set_cons_succ, List.set_cons_zero]
    clear u0 u1 u2 u4 u6 u7 u8
    rw [hL 7 (by simp)] at hI
    obtain ⟨hbW, v, s', h1, -, h3⟩ := hI
    obtain ⟨a8, c8, rfl, rfl, r8⟩ := h3 rfl
    have r8' := r8.wide fun k hk => hk.2
    have e0 : W.cell? ⟨w3.heap.size, 0, none⟩ = some (.slice a8 m c8) := h1.cell 0
    have e1 : W.cell? ⟨w3.heap.size, 1, none⟩ = some (.int .i64 m) := h1.cell 1
    have rc0 := Lib.hid r8'
    have bq0 := Lib.hid (bq3.out.go (hbW : Below w3.heap.size w3 W))
    have B0 := Lib.hid (up B3.out hbW)
    have g0 := Lib.hid (g3.out.below' hbW)
    clear hbW h1 h3 r8 r8' U4 X4 HRc HT HY HC bq3 B3 g3 rt3
    generalize w3.heap.size = T at *
    generalize x 3 = y3 at *
    generalize x 4 = y4 at *
    generalize x 5 = y5 at *
    go_wp2_with fail
    refine (HR.out _ _ _ g0.out rc0.out).mono ?_
    rintro e w1 ⟨j, ag, au, cg, cu, hj1, hj2, hj3, rfl, rg, ru, hb⟩
    have B1 := Lib.hid (up B0.out hb)
    have g1 := Lib.hid (g0.out.below' hb)
    have rc1 := Lib.hid (rc0.out.go hb)
    have bq1 := Lib.hid (bq0.out.go hb)
    have rg1 := Lib.hid rg
    have ru1 := Lib.hid ru
    clear B0 g0 rc0 bq0 hb rg ru
    clear rc1
    have hmin : min (m : Int) ((offR rs j : Nat) : Int) = ((offR rs j : Nat) : Int) := by omega
    clear e0 e1 hj3
    have q0 := bq1.out.cell 0
    have q1 := bq1.out.cell 1
    have q2 := bq1.out.cell 2
    have q3 := bq1.out.cell 3
    have q4 := bq1.out.cell 4
    simp only [List.getElem?_toArray, List.getElem?_cons_zero, List.getElem?_cons_succ] at q0 q1 q2 q3 q4
    have lq := bq1.out.lt
    go_wp2_with fail
    refine abs_run (fun W => Below w1.heap.size w1 W ∧ Blk w1.heap.size (.cells #[.slice au (offR rs j) cu, .int .i64 ((offR rs j : Nat) : Int)] 27 (0, 0)) W) ⟨(by (repeat (first | exact Below.refl _ _ | assumption | (refine Below.drew ?_) | (refine below_drewN ?_ _) | (refine Below.alloc ?_ (by first | (simp; done) | (simp; omega) | omega) _) | (refine Below.setCell ?_ (by first | (simp; done) | (simp; omega) | omega) _) | (refine Below.trans ?_ (Below.mono (by assumption) (by first | (simp; done) | (simp; omega) | omega)))))), Blk.new w1 _⟩ ?_
    rintro w2 ⟨hb, b11⟩
    have B2 := Lib.hid (up B1.out hb)
    have g2 := Lib.hid (g1.out.below' hb)
    have bq2 := Lib.hid (bq1.out.go hb)
    have rg2 := Lib.hid (rg1.out.go hb)
    have ru2 := Lib.hid (ru1.out.go hb)
    have b112 := Lib.hid b11
    clear B1 g1 bq1 rg1 ru1 hb b11
    refine (HRec.out _ B2.out).mono ?_
    rintro e w3 ⟨ax, cx, rfl, rx, hb⟩
    have B3 := Lib.hid (up B2.out hb)
    have g3 := Lib.hid (g2.out.below' hb)
    have bq3 := Lib.hid (bq2.out.go hb)
    have rg3 := Lib.hid (rg2.out.go hb)
    have ru3 := Lib.hid (ru2.out.go hb)
    have b113 := Lib.hid (b112.out.go hb)
    have rx3 := Lib.hid rx
    clear B2 g2 bq2 rg2 ru2 b112 hb rx
    clear bq3
    clear q0 q1 q2 q3 q4 lq
    have p0 := b113.out.cell 0
    have p1 := b113.out.cell 1
    simp only [List.getElem?_toArray, List.getElem?_cons_zero, List.getElem?_cons_succ] at p0 p1
    have lp := b113.out.lt
    go_wp2_with fail
    refine abs_run (fun W => Below w3.heap.size w3 W ∧ Blk w3.heap.size (.cells #[.int .i64 xr.epoch, .slice ax xr.op.length cx] 33 (0, 0)) W) ⟨(by (repeat (first | exact Below.refl _ _ | assumption | (refine Below.drew ?_) | (refine below_drewN ?_ _) | (refine Below.alloc ?_ (by first | (simp; done) | (simp; omega) | omega) _) | (refine Below.setCell ?_ (by first | (simp; done) | (simp; omega) | omega) _) | (refine Below.trans ?_ (Below.mono (by assumption) (by first | (simp; done) | (simp; omega) | omega)))))), Blk.new w3 _⟩ ?_
    rintro w4 ⟨hb, b13⟩
    have B4 := Lib.hid (up B3.out hb)
    have g4 := Lib.hid (g3.out.below' hb)
    have rg4 := Lib.hid (rg3.out.go hb)
    have ru4 := Lib.hid (ru3.out.go hb)
    have b114 := Lib.hid (b113.out.go hb)
    have rx4 := Lib.hid (rx3.out.go hb)
    have b134 := Lib.hid b13
    clear B3 g3 rg3 ru3 b113 rx3 hb b13
    refine (HA.out j (offR rs j) rfl ((offR rs j : Nat) : Int) (by omega) (by omega) (by omega) _ _ _ _ _ _ g4.out ru4.out rx4.out).mono ?_
    rintro e w5 ⟨ay, cy, rfl, ry, hb⟩
    have B5 := Lib.hid (up B4.out hb)
    have g5 := Lib.hid (g4.out.below' hb)
    have rg5 := Lib.hid (rg4.out.go hb)
    have ru5 := Lib.hid (ru4.out.go hb)
    have b115 := Lib.hid (b114.out.go hb)
    have rx5 := Lib.hid (rx4.out.go hb)
    have b135 := Lib.hid (b134.out.go hb)
    have ry5 := Lib.hid ry
    clear B4 g4 rg4 ru4 b114 rx4 b134 hb ry
    clear b115
    clear p0 p1 lp
    have Hoj := Lib.hid (p := offR rs j ≤ (tapeB (rs.take j ++ [xr])).length) (by rw [tapeB_app, List.length_append]; exact Nat.le_add_right _ _)
    have hoj := Hoj.out
    generalize hN2 : (tapeB (rs.take j ++ [xr])).length = N2 at *
    go_wp2_with fail
    refine abs_run (fun W => Below w5.heap.size w5 W ∧ Blk w5.heap.size (.cells #[.slice ay N2 cy, .int .i64 ((offR rs j : Nat) : Int)] 27 (0, 0)) W) ⟨(by (repeat (first | exact Below.refl _ _ | assumption | (refine Below.drew ?_) | (refine below_drewN ?_ _) | (refine Below.alloc ?_ (by first | (simp; done) | (simp; omega) | omega) _) | (refine Below.setCell ?_ (by first | (simp; done) | (simp; omega) | omega) _) | (refine Below.trans ?_ (Below.mono (by assumption) (by first | (simp; done) | (simp; omega) | omega)))))), Blk.new w5 _⟩ ?_
    rintro w6 ⟨hb, b14⟩
    have B6 := Lib.hid (up B5.out hb)
    have g6 := Lib.hid (g5.out.below' hb)
    have rg6 := Lib.hid (rg5.out.go hb)
    have ru6 := Lib.hid (ru5.out.go hb)
    have rx6 := Lib.hid (rx5.out.go hb)
    have b136 := Lib.hid (b135.out.go hb)
    have ry6 := Lib.hid (ry5.out.go hb)
    have b146 := Lib.hid b14
    clear B5 g5 rg5 ru5 rx5 b135 ry5 hb b14
    refine (HR2.out j hj1 N2 hN2.symm ((offR rs j : Nat) : Int) (by omega) (by omega) _ _ _ g6.out ry6.out).mono ?_
    rintro e w7 ⟨ah, ch, av, cv, rfl, rh, rv, hb⟩
    have B7 := Lib.hid (up B6.out hb)
    have g7 := Lib.hid (g6.out.below' hb)
    have rg7 := Lib.hid (rg6.out.go hb)
    have ru7 := Lib.hid (ru6.out.go hb)
    have rx7 := Lib.hid (rx6.out.go hb)
    have b137 := Lib.hid (b136.out.go hb)
    have ry7 := Lib.hid (ry6.out.go hb)
    have b147 := Lib.hid (b146.out.go hb)
    have rh7 := Lib.hid rh
    have rv7 := Lib.hid rv
    clear B6 g6 rg6 ru6 rx6 b136 ry6 b146 hb rh rv
    clear b147
    go_wp2_with fail
    have hjl : j < (rs.take j ++ [xr]).length := by rw [List.length_append, List.length_take, List.length_singleton]; omega
    have hjx : (rs.take j ++ [xr])[j] = xr := by rw [List.getElem_append_right (by rw [List.length_take]; omega)]; simp
    obtain ⟨bh, offh, rfl, hAh, hbh, hch⟩ := rh7.out.recs (by omega)
    obtain ⟨ya, yn, yc, y1, hy, d0, d1⟩ := hch j hjl
    rw [hjx] at hy d0
    refine abs_w (fun W => Below w7.heap.size w7 W) (by (repeat (first | exact Below.refl _ _ | assumption | (refine Below.drew ?_) | (refine below_drewN ?_ _) | (refine Below.alloc ?_ (by first | (simp; done) | (simp; omega) | omega) _) | (refine Below.setCell ?_ (by first | (simp; done) | (simp; omega) | omega) _) | (refine Below.trans ?_ (Below.mono (by assumption) (by first | (simp; done) | (simp; omega) | omega)))))) ?_
    intro wz hwz
    have hzb : bh < wz.heap.size := Nat.lt_of_lt_of_le hbh hwz.size
    have z0 : wz.cell? ⟨bh, offh + j * 2, none⟩ = some (.int .i64 xr.epoch) := (hwz.cell (p := ⟨bh, offh + j * 2, none⟩) hbh).trans d0
    have z1 : wz.cell? ⟨bh, offh + j * 2 + 1, none⟩ = some (.slice ya yn yc) := (hwz.cell (p := ⟨bh, offh + j * 2 + 1, none⟩) hbh).trans d1
    have x13 := b137.out.go hwz
    have l13 := x13.lt
    have z2 : wz.cell? ⟨w3.heap.size, 0, none⟩ = some (.int .i64 xr.epoch) := x13.cell 0
    have z3 : wz.cell? ⟨w3.heap.size, 1, none⟩ = some (.slice ax xr.op.length cx) := x13.cell 1
    have HBW := Lib.hid (up B7.out hwz)
    have HBG := Lib.hid (fun W (u : Below wz.heap.size wz W) => HB.out j hj1 _ _ _ _ _ _ W ((rg7.out.go hwz).go u) ((rh7.out.go hwz).go u))
    have HSM := Lib.hid (fun W (u : Below wz.heap.size wz W) => HS.out _ _ _ _ _ _ W ((hy.go hwz).go u) ((rx7.out.go hwz).go u))
    clear hch hy d0 d1 hAh y1 x13 hwz rg7 rh7 rx7 rv7 ry7 ru7 b137 B7 g7 HB HS HR HR2 HA HRec hjx hjl
    generalize w3.heap.size = T13 at *
    have hj15 : j ≤ 15 := by have := Hlen.out; omega
    generalize xr.op.length = nx at *
    refine region_lit2 (by kernel_rfl) (by kernel_rfl) (by kernel_rfl) [[], [0], [0, 1], [0, 1, 2], [0, 1, 2, 3], [0, 1, 2, 3, 4], [0, 1, 2, 3, 4, 5], [0, 1, 2, 3, 4, 5, 6], [0, 1, 2, 3, 4, 5, 6, 7], [0, 1, 2, 3, 4, 5, 6, 7, 8], [0, 1, 2, 3, 4, 5, 6, 7, 8, 9], [0, 1, 2, 3, 4, 5, 6, 7, 8, 9, 10], [0, 1, 2, 3, 4, 5, 6, 7, 8, 9, 10, 11], [0, 1, 2, 3, 4, 5, 6, 7, 8, 9, 10, 11, 12], [0, 1, 2, 3, 4, 5, 6, 7, 8, 9, 10, 11, 12, 13], [0, 1, 2, 3, 4, 5, 6, 7, 8, 9, 10, 11, 12, 13, 14], [0, 1, 2, 3, 4, 5, 6, 7, 8, 9, 10, 11, 12, 13, 14, 15], [0, 1, 2, 3, 4, 5, 6, 7, 8, 9, 10, 11, 12, 13, 14, 15, 16], [0, 1, 2, 3, 4, 5, 6, 7, 8, 9, 10, 11, 12, 13, 14, 15, 16, 17], [0, 1, 2, 3, 4, 5, 6, 7, 8, 9, 10, 11, 12, 13, 14, 15, 16, 17, 18], [0, 1, 2, 3, 4, 5, 6, 7, 8, 9, 10, 11, 12, 13, 14, 15, 16, 17], [0, 1, 2, 3, 4, 5, 6, 7, 8, 9, 10, 11, 12, 13, 14, 15, 16, 17, 20], [0, 1, 2, 3, 4, 5, 6, 7, 8, 9, 10, 11, 12, 13, 14, 15, 16, 17, 20, 21], [0, 1, 2, 3, 4, 5, 6, 7, 8, 9, 10, 11, 12, 13, 14, 15, 16, 17, 18, 19, 20, 21, 22], [0, 1, 2, 3, 4, 5, 6, 7, 8, 9, 10, 11, 12, 13, 14, 15, 16, 17, 18, 19, 20, 21, 22, 23], [0, 1, 2, 3, 4, 5, 6, 7, 8, 9, 10, 11, 12, 13, 14, 15, 16, 17, 18, 19, 20, 21, 22, 23, 24], [0, 1, 2, 3, 4, 5, 6, 7, 8, 9, 10, 11, 12, 13, 14, 15, 16, 17, 18, 19, 20, 21, 22, 23, 24, 25], [0, 1, 2, 3, 4, 5, 6, 7, 8, 9, 10, 11, 12, 13, 14, 15, 16, 17, 18, 19, 20, 21, 22, 23, 24, 25], [0, 1, 2, 3, 4, 5, 6, 7, 8, 9, 10, 11, 12, 13, 14, 15, 16, 17, 18, 19, 20, 21, 22, 23, 24, 25, 26, 27], [0, 1, 2, 3, 4, 5, 6, 7, 8, 9, 10, 11, 12, 13, 14, 15, 16, 17, 18, 19, 20, 21, 22, 23, 24, 25, 26, 27, 28], [0, 1, 2, 3, 4, 5, 6, 7, 8, 9, 10, 11, 12, 13, 14, 15, 16, 17, 18, 19, 20, 21, 22, 23, 24, 25, 26, 27, 28, 29], [0, 1, 2, 3, 4, 5, 6, 7, 8, 9, 10, 11, 12, 13, 14, 15, 16, 17, 18, 19, 20, 21, 22, 23, 24, 25, 26, 27, 28, 29, 30], [0, 1, 2, 3, 4, 5, 6, 7, 8, 9, 10, 11, 12, 13, 14, 15, 16, 17, 18, 19, 20, 21, 22, 23, 24, 25, 26, 27, 28, 29, 30], [0, 1, 2, 3, 4, 5, 6, 7, 8, 9, 10, 11, 12, 13, 14, 15, 16, 17, 18, 19, 20, 21, 22, 23, 24, 25, 26, 27, 28, 29, 30, 32], [0, 1, 2, 3, 4, 5, 6, 7, 8, 9, 10, 11, 12, 13, 14, 15, 16, 17, 18, 19, 20, 21, 22, 23, 24, 25, 26, 27, 28, 29, 30, 31, 32, 33], [0, 1, 2, 3, 4, 5, 6, 7, 8, 9, 10, 11, 12, 13, 14, 15, 16, 17, 18, 19, 20, 21, 22, 23, 24, 25, 26, 27, 28, 29, 30, 31, 32, 33, 34], [0, 1, 2, 3, 4, 5, 6, 7, 8, 9, 10, 11, 12, 13, 14, 15, 16, 17, 18, 19, 20, 21, 22, 23, 24, 25, 26, 27, 28, 29, 30], [0, 1, 2, 3, 4, 5, 6, 7, 8, 9, 10, 11, 12, 13, 14, 15, 16, 17, 18, 19, 20, 21, 22, 23, 24, 25, 26, 27, 28, 29, 30, 31, 32, 33, 34, 35, 36], [0, 1, 2, 3, 4, 5, 6, 7, 8, 9, 10, 11, 12, 13, 14, 15, 16, 17, 18, 19, 20, 21, 22, 23, 24, 25, 26, 27, 28, 29, 30, 31, 32, 33, 34, 35, 36, 37], [0, 1, 2, 3, 4, 5, 6, 7, 8, 9, 10, 11, 12, 13, 14, 15, 16, 17, 18, 19, 20, 21, 22, 23, 24, 25, 26, 27, 28, 29, 30, 31, 32, 33, 34, 35, 36, 37, 38]] (by kernel_rfl) [some 53, some 54, some 55, some 56, some 57, some 58, some 59, some 60, some 61, some 62, some 63, some 64, some 65, some 66, some 67, some 68, some 69, some 70, some 71, some 72, some 73, some 74, some 75, some 76, some 77, some 78, some 79, some 80, some 81, some 82, some 83, some 84, some 85, some 86, some 87, some 88, some 89, some 90, some 91, some 6] (by kernel_rfl) [false, false, false, false, false, false, false, false, false, false, false, false, false, false, false, false, false, false, false, false, false, false, false, false, false, false, false, false, false, false, false, false, false, false, false, false, false, false, false, true] (by kernel_rfl)
      (fun W => Below wz.heap.size wz W)
      (fun i v W => match i with
        | 0 => v = .bool true
        | 1 => v = .bool true
        | 2 => v = .int .i64 0
        | 3 => v = .bool true
        | 4 => v = .bool true
        | 5 => v = .bool true
        | 6 => v = .int .i64 0
        | 7 => v = .bool true
        | 8 => v = .bool true
        | 9 => v = .bool true
        | 10 => v = .int .i64 0
        | 11 => v = .bool true
        | 12 => v = .bool true
        | 13 => v = .bool true
        | 14 => v = .int .i64 0
        | 15 => v = .bool true
        | 16 => v = .bool true
        | 17 => v = .bool true
        | 18 => v = .slice (some ⟨bh, offh, none⟩) (j + 1) ch
        | 19 => v = .int .i64 ((j : Int) + 1)
        | 20 => v = .slice ag j cg
        | 21 => v = .int .i64 (j : Int)
        | 22 => v = .int .i64 ((j : Int) + 1)
        | 23 => v = .bool true
        | 24 => v = .bool true
        | 25 => v = .bool true
        | 26 => v = .slice ag j cg
        | 27 => v = .slice (some ⟨bh, offh, none⟩) (j + 1) ch
        | 28 => v = .bool true
        | 29 => v = .bool true
        | 30 => v = .bool true
        | 31 => v = .slice (some ⟨bh, offh, none⟩) (j + 1) ch
        | 32 => v = .slice ag j cg
        | 33 => v = .int .i64 (j : Int)
        | 34 => v = .pointer (some ⟨bh, offh + j * 2, none⟩)
        | 35 => v = .agg #[.int .i64 xr.epoch, .slice ya yn yc]
        | 36 => v = .agg #[.int .i64 xr.epoch, .slice ax nx cx]
        | 37 => v = .bool true
        | 38 => v = .bool true
        | _ => v = .bool true)
      (fun W W' => Below W.heap.size W W')
      [fun x => ⟨#[undef, undef, undef, undef, undef, undef, undef, undef, .bool true, undef, undef, undef, undef, undef, undef, undef, undef, undef, undef, undef, undef, undef, undef, undef, undef, undef, undef, undef, undef, undef, undef, undef, undef, undef, undef, undef, undef, undef, undef, undef, undef, undef, undef, undef, undef, undef, undef, undef, undef, undef, undef, undef, undef, undef], []⟩,
   fun x => ⟨#[undef, undef, undef, undef, undef, undef, undef, undef, undef, undef, undef, undef, undef, undef, undef, undef, undef, undef, undef, undef, undef, undef, undef, undef, undef, undef, undef, undef, undef, undef, undef, undef, undef, undef, undef, undef, undef, undef, undef, undef, undef, undef, undef, undef, undef, undef, undef, undef, undef, undef, undef, undef, undef, x 0, undef], []⟩,
   fun x => ⟨#[undef, undef, undef, undef, undef, undef, undef, undef, undef, .int .i64 0, undef, undef, undef, undef, undef, undef, undef, undef, undef, undef, undef, undef, undef, undef, undef, undef, undef, undef, undef, undef, undef, undef, undef, undef, undef, undef, undef, undef, undef, undef, undef, undef, undef, undef, undef, undef, undef, undef, undef, undef, undef, undef, undef, undef, x 1, undef], []⟩,
   fun x => ⟨#[undef, undef, undef, undef, undef, undef, undef, undef, undef, undef, undef, undef, undef, undef, undef, undef, undef, undef, undef, undef, undef, undef, undef, undef, undef, undef, undef, undef, undef, undef, undef, undef, undef, undef, undef, undef, undef, undef, undef, undef, undef, undef, undef, undef, undef, undef, undef, undef, undef, undef, undef, undef, undef, undef, x 1, x 2, undef], []⟩,
   fun x => ⟨#[undef, undef, undef, undef, undef, undef, undef, undef, undef, undef, undef, undef, undef, undef, undef, undef, undef, undef, undef, undef, undef, undef, undef, undef, undef, undef, undef, undef, undef, undef, undef, undef, undef, undef, undef, undef, undef, undef, undef, undef, undef, undef, undef, undef, undef, undef, undef, undef, undef, undef, undef, undef, undef, undef, x 1, undef, x 3, undef], []⟩,
   fun x => ⟨#[undef, undef, undef, undef, undef, undef, undef, undef, undef, undef, undef, undef, undef, undef, undef, undef, undef, undef, undef, undef, undef, undef, undef, undef, undef, undef, undef, undef, undef, undef, undef, undef, undef, undef, undef, undef, undef, undef, undef, undef, undef, undef, undef, undef, undef, undef, undef, undef, undef, undef, undef, undef, undef, undef, undef, undef, undef, x 4, undef], []⟩,
   fun x => ⟨#[undef, undef, undef, undef, undef, undef, undef, undef, undef, undef, undef, undef, .int .i64 0, undef, undef, undef, undef, undef, undef, undef, undef, undef, undef, undef, undef, undef, undef, undef, undef, undef, undef, undef, undef, undef, undef, undef, undef, undef, undef, undef, undef, undef, undef, undef, undef, undef, undef, undef, undef, undef, undef, undef, undef, undef, undef, undef, undef, undef, x 5, undef], []⟩,
   fun x => ⟨#[undef, undef, undef, undef, undef, undef, undef, undef, undef, undef, undef, undef, undef, undef, undef, undef, undef, undef, undef, undef, undef, undef, undef, undef, undef, undef, undef, undef, undef, undef, undef, undef, undef, undef, undef, undef, undef, undef, undef, undef, undef, undef, undef, undef, undef, undef, undef, undef, undef, undef, undef, undef, undef, undef, undef, undef, undef, undef, x 5, x 6, undef], []⟩,
   fun x => ⟨#[undef, undef, undef, undef, undef, undef, undef, undef, undef, undef, undef, undef, undef, undef, undef, undef, undef, undef, undef, undef, undef, undef, undef, undef, undef, undef, undef, undef, undef, undef, undef, undef, undef, undef, undef, undef, undef, undef, undef, undef, undef, undef, undef, undef, undef, undef, undef, undef, undef, undef, undef, undef, undef, undef, undef, undef, undef, undef, x 5, undef, x 7, undef], []⟩,
   fun x => ⟨#[undef, undef, undef, undef, undef, undef, undef, undef, undef, undef, undef, undef, undef, undef, undef, undef, undef, undef, undef, undef, undef, undef, undef, undef, undef, undef, undef, undef, undef, undef, undef, undef, undef, undef, undef, undef, undef, undef, undef, undef, undef, undef, undef, undef, undef, undef, undef, undef, undef, undef, undef, undef, undef, undef, undef, undef, undef, undef, undef, undef, undef, x 8, undef], []⟩,
   fun x => ⟨#[undef, undef, undef, undef, undef, undef, undef, undef, undef, undef, undef, undef, undef, undef, undef, .int .i64 0, undef, undef, undef, undef, undef, undef, undef, undef, undef, undef, undef, undef, undef, undef, undef, undef, undef, undef, undef, undef, undef, undef, undef, undef, undef, undef, undef, undef, undef, undef, undef, undef, undef, undef, undef, undef, undef, undef, undef, undef, undef, undef, undef, undef, undef, undef, x 9, undef], []⟩,
   fun x => ⟨#[undef, undef, undef, undef, undef, undef, undef, undef, undef, undef, undef, undef, undef, undef, undef, undef, undef, undef, undef, undef, undef, undef, undef, undef, undef, undef, undef, undef, undef, undef, undef, undef, undef, undef, undef, undef, undef, undef, undef, undef, undef, undef, undef, undef, undef, undef, undef, undef, undef, undef, undef, undef, undef, undef, undef, undef, undef, undef, undef, undef, undef, undef, x 9, x 10, undef], []⟩,
   fun x => ⟨#[undef, undef, undef, undef, undef, undef, undef, undef, undef, undef, undef, undef, undef, undef, undef, undef, undef, undef, undef, undef, undef, undef, undef, undef, undef, undef, undef, undef, undef, undef, undef, undef, undef, undef, undef, undef, undef, undef, undef, undef, undef, undef, undef, undef, undef, undef, undef, undef, undef, undef, undef, undef, undef, undef, undef, undef, undef, undef, undef, undef, undef, undef, x 9, undef, x 11, undef], []⟩,
   fun x => ⟨#[undef, undef, undef, undef, undef, undef, undef, undef, undef, undef, undef, undef, undef, undef, undef, undef, undef, undef, undef, undef, undef, undef, undef, undef, undef, undef, undef, undef, undef, undef, undef, undef, undef, undef, undef, undef, undef, undef, undef, undef, undef, undef, undef, undef, undef, undef, undef, undef, undef, undef, undef, undef, undef, undef, undef, undef, undef, undef, undef, undef, undef, undef, undef, undef, undef, x 12, undef], []⟩,
   fun x => ⟨#[undef, undef, undef, undef, undef, undef, undef, undef, undef, undef, undef, undef, undef, undef, undef, undef, undef, undef, .int .i64 0, undef, undef, undef, undef, undef, undef, undef, undef, undef, undef, undef, undef, undef, undef, undef, undef, undef, undef, undef, undef, undef, undef, undef, undef, undef, undef, undef, undef, undef, undef, undef, undef, undef, undef, undef, undef, undef, undef, undef, undef, undef, undef, undef, undef, undef, undef, undef, x 13, undef], []⟩,
   fun x => ⟨#[undef, undef, undef, undef, undef, undef, undef, undef, undef, undef, undef, undef, undef, undef, undef, undef, undef, undef, undef, undef, undef, undef, undef, undef, undef, undef, undef, undef, undef, undef, undef, undef, undef, undef, undef, undef, undef, undef, undef, undef, undef, undef, undef, undef, undef, undef, undef, undef, undef, undef, undef, undef, undef, undef, undef, undef, undef, undef, undef, undef, undef, undef, undef, undef, undef, undef, x 13, x 14, undef], []⟩,
   fun x => ⟨#[undef, undef, undef, undef, undef, undef, undef, undef, undef, undef, undef, undef, undef, undef, undef, undef, undef, undef, undef, undef, undef, undef, undef, undef, undef, undef, undef, undef, undef, undef, undef, undef, undef, undef, undef, undef, undef, undef, undef, undef, undef, undef, undef, undef, undef, undef, undef, undef, undef, undef, undef, undef, undef, undef, undef, undef, undef, undef, undef, undef, undef, undef, undef, undef, undef, undef, x 13, undef, x 15, undef], []⟩,
   fun x => ⟨#[undef, undef, undef, undef, undef, undef, undef, undef, undef, undef, undef, undef, undef, undef, undef, undef, undef, undef, undef, undef, undef, undef, undef, undef, undef, undef, undef, undef, undef, undef, undef, undef, undef, undef, undef, undef, undef, undef, undef, undef, undef, undef, undef, undef, undef, undef, undef, undef, undef, undef, undef, undef, undef, undef, undef, undef, undef, undef, undef, undef, undef, undef, undef, undef, undef, undef, undef, undef, undef, x 16, undef], []⟩,
   fun x => ⟨#[undef, undef, undef, undef, undef, undef, undef, undef, undef, undef, undef, undef, undef, undef, undef, undef, .slice (some ⟨bh, offh, none⟩) (j + 1) ch, undef, undef, undef, undef, undef, undef, undef, undef, undef, undef, undef, undef, undef, undef, undef, undef, undef, undef, undef, undef, undef, undef, undef, undef, undef, undef, undef, undef, undef, undef, undef, undef, undef, undef, undef, undef, undef, undef, undef, undef, undef, undef, undef, undef, undef, undef, undef, undef, undef, undef, undef, undef, undef, x 17, undef], []⟩,
   fun x => ⟨#[undef, undef, undef, undef, undef, undef, undef, undef, undef, undef, undef, undef, undef, undef, undef, undef, undef, undef, undef, undef, undef, undef, undef, undef, undef, undef, undef, undef, undef, undef, undef, undef, undef, undef, undef, undef, undef, undef, undef, undef, undef, undef, undef, undef, undef, undef, undef, undef, undef, undef, undef, undef, undef, undef, undef, undef, undef, undef, undef, undef, undef, undef, undef, undef, undef, undef, undef, undef, undef, undef, x 17, x 18, undef], []⟩,
   fun x => ⟨#[undef, undef, undef, undef, undef, undef, undef, undef, undef, undef, .slice ag j cg, undef, undef, undef, undef, undef, undef, undef, undef, undef, undef, undef, undef, undef, undef, undef, undef, undef, undef, undef, undef, undef, undef, undef, undef, undef, undef, undef, undef, undef, undef, undef, undef, undef, undef, undef, undef, undef, undef, undef, undef, undef, undef, undef, undef, undef, undef, undef, undef, undef, undef, undef, undef, undef, undef, undef, undef, undef, undef, undef, x 17, undef, undef, undef], []⟩,
   fun x => ⟨#[undef, undef, undef, undef, undef, undef, undef, undef, undef, undef, undef, undef, undef, undef, undef, undef, undef, undef, undef, undef, undef, undef, undef, undef, undef, undef, undef, undef, undef, undef, undef, undef, undef, undef, undef, undef, undef, undef, undef, undef, undef, undef, undef, undef, undef, undef, undef, undef, undef, undef, undef, undef, undef, undef, undef, undef, undef, undef, undef, undef, undef, undef, undef, undef, undef, undef, undef, undef, undef, undef, x 17, undef, undef, x 20, undef], []⟩,
   fun x => ⟨#[undef, undef, undef, undef, undef, undef, undef, undef, undef, undef, undef, undef, undef, undef, undef, undef, undef, undef, undef, undef, undef, undef, undef, undef, undef, undef, undef, undef, undef, undef, undef, undef, undef, undef, undef, undef, undef, undef, undef, undef, undef, undef, undef, undef, undef, undef, undef, undef, undef, undef, undef, undef, undef, undef, undef, undef, undef, undef, undef, undef, undef, undef, undef, undef, undef, undef, undef, undef, undef, undef, x 17, undef, undef, undef, x 21, undef], []⟩,
   fun x => ⟨#[undef, undef, undef, undef, undef, undef, undef, undef, undef, undef, undef, undef, undef, undef, undef, undef, undef, undef, undef, undef, undef, undef, undef, undef, undef, undef, undef, undef, undef, undef, undef, undef, undef, undef, undef, undef, undef, undef, undef, undef, undef, undef, undef, undef, undef, undef, undef, undef, undef, undef, undef, undef, undef, undef, undef, undef, undef, undef, undef, undef, undef, undef, undef, undef, undef, undef, undef, undef, undef, undef, x 17, undef, x 19, undef, undef, x 22, undef], []⟩,
   fun x => ⟨#[undef, undef, undef, undef, undef, undef, undef, undef, undef, undef, undef, undef, undef, undef, undef, undef, undef, undef, undef, undef, undef, undef, undef, undef, undef, undef, undef, undef, undef, undef, undef, undef, undef, undef, undef, undef, undef, undef, undef, undef, undef, undef, undef, undef, undef, undef, undef, undef, undef, undef, undef, undef, undef, undef, undef, undef, undef, undef, undef, undef, undef, undef, undef, undef, undef, undef, undef, undef, undef, undef, x 17, undef, undef, undef, undef, undef, x 23, undef], []⟩,
   fun x => ⟨#[undef, undef, undef, undef, undef, undef, undef, undef, undef, undef, undef, undef, undef, undef, undef, undef, undef, undef, undef, undef, undef, undef, undef, undef, undef, undef, undef, undef, undef, undef, undef, undef, undef, undef, undef, undef, undef, undef, undef, undef, undef, undef, undef, undef, undef, undef, undef, undef, undef, undef, undef, undef, undef, undef, undef, undef, undef, undef, undef, undef, undef, undef, undef, undef, undef, undef, undef, undef, undef, undef, undef, undef, undef, undef, undef, undef, undef, x 24, undef], []⟩,
   fun x => ⟨#[undef, undef, undef, undef, undef, undef, undef, undef, undef, undef, .slice ag j cg, undef, undef, undef, undef, undef, undef, undef, undef, undef, undef, undef, undef, undef, undef, undef, undef, undef, undef, undef, undef, undef, undef, undef, undef, undef, undef, undef, undef, undef, undef, undef, undef, undef, undef, undef, undef, undef, undef, undef, undef, undef, undef, undef, undef, undef, undef, undef, undef, undef, undef, undef, undef, undef, undef, undef, undef, undef, undef, undef, undef, undef, undef, undef, undef, undef, undef, undef, x 25, undef], []⟩,
   fun x => ⟨#[undef, undef, undef, undef, undef, undef, undef, undef, undef, undef, undef, undef, undef, undef, undef, undef, .slice (some ⟨bh, offh, none⟩) (j + 1) ch, undef, undef, undef, undef, undef, undef, undef, undef, undef, undef, undef, undef, undef, undef, undef, undef, undef, undef, undef, undef, undef, undef, undef, undef, undef, undef, undef, undef, undef, undef, undef, undef, undef, undef, undef, undef, undef, undef, undef, undef, undef, undef, undef, undef, undef, undef, undef, undef, undef, undef, undef, undef, undef, undef, undef, undef, undef, undef, undef, undef, undef, x 25, undef, undef], []⟩,
   fun x => ⟨#[undef, undef, undef, undef, undef, undef, undef, undef, undef, undef, undef, undef, undef, undef, undef, undef, undef, undef, undef, undef, undef, undef, undef, undef, undef, undef, undef, undef, undef, undef, undef, undef, undef, undef, undef, undef, undef, undef, undef, undef, undef, undef, undef, undef, undef, undef, undef, undef, undef, undef, undef, undef, undef, undef, undef, undef, undef, undef, undef, undef, undef, undef, undef, undef, undef, undef, undef, undef, undef, undef, undef, undef, undef, undef, undef, undef, undef, undef, x 25, x 26, x 27, undef], []⟩,
   fun x => ⟨#[undef, undef, undef, undef, undef, undef, undef, undef, undef, undef, undef, undef, undef, undef, undef, undef, undef, undef, undef, undef, undef, undef, undef, undef, undef, undef, undef, undef, undef, undef, undef, undef, undef, undef, undef, undef, undef, undef, undef, undef, undef, undef, undef, undef, undef, undef, undef, undef, undef, undef, undef, undef, undef, undef, undef, undef, undef, undef, undef, undef, undef, undef, undef, undef, undef, undef, undef, undef, undef, undef, undef, undef, undef, undef, undef, undef, undef, undef, x 25, undef, undef, x 28, undef], []⟩,
   fun x => ⟨#[undef, undef, undef, undef, undef, undef, undef, undef, undef, undef, undef, undef, undef, undef, undef, undef, undef, undef, undef, undef, undef, undef, undef, undef, undef, undef, undef, undef, undef, undef, undef, undef, undef, undef, undef, undef, undef, undef, undef, undef, undef, undef, undef, undef, undef, undef, undef, undef, undef, undef, undef, undef, undef, undef, undef, undef, undef, undef, undef, undef, undef, undef, undef, undef, undef, undef, undef, undef, undef, undef, undef, undef, undef, undef, undef, undef, undef, undef, undef, undef, undef, undef, x 29, undef], []⟩,
   fun x => ⟨#[undef, undef, undef, undef, undef, undef, undef, undef, undef, undef, undef, undef, undef, undef, undef, undef, .slice (some ⟨bh, offh, none⟩) (j + 1) ch, undef, undef, undef, undef, undef, undef, undef, undef, undef, undef, undef, undef, undef, undef, undef, undef, undef, undef, undef, undef, undef, undef, undef, undef, undef, undef, undef, undef, undef, undef, undef, undef, undef, undef, undef, undef, undef, undef, undef, undef, undef, undef, undef, undef, undef, undef, undef, undef, undef, undef, undef, undef, undef, undef, undef, undef, undef, undef, undef, undef, undef, undef, undef, undef, undef, undef, x 30, undef], []⟩,
   fun x => ⟨#[undef, undef, undef, undef, undef, undef, undef, undef, undef, undef, .slice ag j cg, undef, undef, undef, undef, undef, undef, undef, undef, undef, undef, undef, undef, undef, undef, undef, undef, undef, undef, undef, undef, undef, undef, undef, undef, undef, undef, undef, undef, undef, undef, undef, undef, undef, undef, undef, undef, undef, undef, undef, undef, undef, undef, undef, undef, undef, undef, undef, undef, undef, undef, undef, undef, undef, undef, undef, undef, undef, undef, undef, undef, undef, undef, undef, undef, undef, undef, undef, undef, undef, undef, undef, undef, x 30, undef, undef], []⟩,
   fun x => ⟨#[undef, undef, undef, undef, undef, undef, undef, undef, undef, undef, undef, undef, undef, undef, undef, undef, undef, undef, undef, undef, undef, undef, undef, undef, undef, undef, undef, undef, undef, undef, undef, undef, undef, undef, undef, undef, undef, undef, undef, undef, undef, undef, undef, undef, undef, undef, undef, undef, undef, undef, undef, undef, undef, undef, undef, undef, undef, undef, undef, undef, undef, undef, undef, undef, undef, undef, undef, undef, undef, undef, undef, undef, undef, undef, undef, undef, undef, undef, undef, undef, undef, undef, undef, x 30, undef, x 32, undef], []⟩,
   fun x => ⟨#[undef, undef, undef, undef, undef, undef, undef, undef, undef, undef, undef, undef, undef, undef, undef, undef, undef, undef, undef, undef, undef, undef, undef, undef, undef, undef, undef, undef, undef, undef, undef, undef, undef, undef, undef, undef, undef, undef, undef, undef, undef, undef, undef, undef, undef, undef, undef, undef, undef, undef, undef, undef, undef, undef, undef, undef, undef, undef, undef, undef, undef, undef, undef, undef, undef, undef, undef, undef, undef, undef, undef, undef, undef, undef, undef, undef, undef, undef, undef, undef, undef, undef, undef, x 30, x 31, undef, x 33, undef], []⟩,
   fun x => ⟨#[undef, undef, undef, undef, undef, undef, undef, undef, undef, undef, undef, undef, undef, undef, undef, undef, undef, undef, undef, undef, undef, undef, undef, undef, undef, undef, undef, undef, undef, undef, undef, undef, undef, undef, undef, undef, undef, undef, undef, undef, undef, undef, undef, undef, undef, undef, undef, undef, undef, undef, undef, undef, undef, undef, undef, undef, undef, undef, undef, undef, undef, undef, undef, undef, undef, undef, undef, undef, undef, undef, undef, undef, undef, undef, undef, undef, undef, undef, undef, undef, undef, undef, undef, x 30, undef, undef, undef, x 34, undef], []⟩,
   fun x => ⟨#[undef, undef, undef, undef, undef, undef, undef, undef, undef, undef, undef, undef, undef, .pointer (some ⟨T13, 0, none⟩), undef, undef, undef, undef, undef, undef, undef, undef, undef, undef, undef, undef, undef, undef, undef, undef, undef, undef, undef, undef, undef, undef, undef, undef, undef, undef, undef, undef, undef, undef, undef, undef, undef, undef, undef, undef, undef, undef, undef, undef, undef, undef, undef, undef, undef, undef, undef, undef, undef, undef, undef, undef, undef, undef, undef, undef, undef, undef, undef, undef, undef, undef, undef, undef, undef, undef, undef, undef, undef, x 30, undef, undef, undef, undef, undef, undef], []⟩,
   fun x => ⟨#[undef, undef, undef, undef, undef, undef, undef, undef, undef, undef, undef, undef, undef, undef, undef, undef, undef, undef, undef, undef, undef, undef, undef, undef, undef, undef, undef, undef, undef, undef, undef, undef, undef, undef, undef, undef, undef, undef, undef, undef, undef, undef, undef, undef, undef, undef, undef, undef, undef, undef, undef, undef, undef, undef, undef, undef, undef, undef, undef, undef, undef, undef, undef, undef, undef, undef, undef, undef, undef, undef, undef, undef, undef, undef, undef, undef, undef, undef, undef, undef, undef, undef, undef, x 30, undef, undef, undef, undef, x 35, x 36, undef], []⟩,
   fun x => ⟨#[undef, undef, undef, undef, undef, undef, undef, undef, undef, undef, undef, undef, undef, undef, undef, undef, undef, undef, undef, undef, undef, undef, undef, undef, undef, undef, undef, undef, undef, undef, undef, undef, undef, undef, undef, undef, undef, undef, undef, undef, undef, undef, undef, undef, undef, undef, undef, undef, undef, undef, undef, undef, undef, undef, undef, undef, undef, undef, undef, undef, undef, undef, undef, undef, undef, undef, undef, undef, undef, undef, undef, undef, undef, undef, undef, undef, undef, undef, undef, undef, undef, undef, undef, x 30, undef, undef, undef, undef, undef, undef, x 37, undef], []⟩,
   fun x => ⟨#[undef, undef, undef, undef, undef, undef, undef, undef, undef, undef, undef, undef, undef, undef, undef, undef, undef, undef, undef, undef, undef, undef, undef, undef, undef, undef, undef, undef, undef, undef, undef, undef, undef, undef, undef, undef, undef, undef, undef, undef, undef, undef, undef, undef, undef, undef, undef, undef, undef, undef, undef, undef, undef, undef, undef, undef, undef, undef, undef, undef, undef, undef, undef, undef, undef, undef, undef, undef, undef, undef, undef, undef, undef, undef, undef, undef, undef, undef, undef, undef, undef, undef, undef, undef, undef, undef, undef, undef, undef, undef, undef, x 38], []⟩]
      ?hF ?mono ?h0 ?step ?fin
    case hF =>
      exact ⟨fun x => ⟨by kernel_rfl, by kernel_rfl⟩, fun x => ⟨by kernel_rfl, by kernel_rfl⟩, fun x => ⟨by kernel_rfl, by kernel_rfl⟩, fun x => ⟨by kernel_rfl, by kernel_rfl⟩, fun x => ⟨by kernel_rfl, by kernel_rfl⟩, fun x => ⟨by kernel_rfl, by kernel_rfl⟩, fun x => ⟨by kernel_rfl, by kernel_rfl⟩, fun x => ⟨by kernel_rfl, by kernel_rfl⟩, fun x => ⟨by kernel_rfl, by kernel_rfl⟩, fun x => ⟨by kernel_rfl, by kernel_rfl⟩, fun x => ⟨by kernel_rfl, by kernel_rfl⟩, fun x => ⟨by kernel_rfl, by kernel_rfl⟩, fun x => ⟨by kernel_rfl, by kernel_rfl⟩, fun x => ⟨by kernel_rfl, by kernel_rfl⟩, fun x => ⟨by kernel_rfl, by kernel_rfl⟩, fun x => ⟨by kernel_rfl, by kernel_rfl⟩, fun x => ⟨by kernel_rfl, by kernel_rfl⟩, fun x => ⟨by kernel_rfl, by kernel_rfl⟩, fun x => ⟨by kernel_rfl, by kernel_rfl⟩, fun x => ⟨by kernel_rfl, by kernel_rfl⟩, fun x => ⟨by kernel_rfl, by kernel_rfl⟩, fun x => ⟨by kernel_rfl, by kernel_rfl⟩, fun x => ⟨by kernel_rfl, by kernel_rfl⟩, fun x => ⟨by kernel_rfl, by kernel_rfl⟩, fun x => ⟨by kernel_rfl, by kernel_rfl⟩, fun x => ⟨by kernel_rfl, by kernel_rfl⟩, fun x => ⟨by kernel_rfl, by kernel_rfl⟩, fun x => ⟨by kernel_rfl, by kernel_rfl⟩, fun x => ⟨by kernel_rfl, by kernel_rfl⟩, fun x => ⟨by kernel_rfl, by kernel_rfl⟩, fun x => ⟨by kernel_rfl, by kernel_rfl⟩, fun x => ⟨by kernel_rfl, by kernel_rfl⟩, fun x => ⟨by kernel_rfl, by kernel_rfl⟩, fun x => ⟨by kernel_rfl, by kernel_rfl⟩, fun x => ⟨by kernel_rfl, by kernel_rfl⟩, fun x => ⟨by kernel_rfl, by kernel_rfl⟩, fun x => ⟨by kernel_rfl, by kernel_rfl⟩, fun x => ⟨by kernel_rfl, by kernel_rfl⟩, fun x => ⟨by kernel_rfl, by kernel_rfl⟩, fun x => ⟨by kernel_rfl, by kernel_rfl⟩, trivial⟩
    case mono =>
      intro i hi v W W' hE hv
      match i, hi with
      | 0, _ | 1, _ | 2, _ | 3, _ | 4, _ | 5, _ | 6, _ | 7, _ | 8, _ | 9, _ | 10, _ | 11, _ | 12, _ | 13, _ | 14, _ | 15, _ | 16, _ | 17, _ | 18, _ | 19, _ | 20, _ | 21, _ | 22, _ | 23, _ | 24, _ | 25, _ | 26, _ | 27, _ | 28, _ | 29, _ | 30, _ | 31, _ | 32, _ | 33, _ | 34, _ | 35, _ | 36, _ | 37, _ | 38, _ => exact hv
      | m + 39, h => exact absurd h (by cases m <;> simp)
    case h0 => first | exact (Below.refl _ _).drew | exact Below.drew (by assumption) | (refine Below.drew ?_; assumption)
    case step =>
      refine ⟨?_, ?_, ?_, ?_, ?_, ?_, ?_, ?_, ?_, ?_, ?_, ?_, ?_, ?_, ?_, ?_, ?_, ?_, ?_, ?_, ?_, ?_, ?_, ?_, ?_, ?_, ?_, ?_, ?_, ?_, ?_, ?_, ?_, ?_, ?_, ?_, ?_, ?_, ?_, ?_, trivial⟩
      all_goals
        intro x W hI hV
        simp only [AllV, and_true] at hV
      · clear hV
        (try dsimp only)
        go_wp2_with fail
        exact step_done rfl hI (Below.refl _ _) rfl
      · have u0 := hV
        clear hV
        simp only [u0]
        clear u0
        go_wp2_with fail
        exact step_done rfl hI (Below.refl _ _) rfl
      · obtain ⟨u0, u1⟩ := hV
        simp only [u1]
        clear u0 u1
        go_wp2_with fail
        exact step_done rfl hI (Below.refl _ _) rfl
      · obtain ⟨u0, u1, u2⟩ := hV
        simp only [u1, u2]
        clear u0 u1 u2
        go_wp2_with fail
        exact step_done rfl hI (Below.refl _ _) rfl
      · obtain ⟨u0, u1, u2, u3⟩ := hV
        simp only [u1, u3]
        clear u0 u1 u2 u3
        go_wp2_with fail
        exact step_done rfl hI (Below.refl _ _) rfl
      · obtain ⟨u0, u1, u2, u3, u4⟩ := hV
        simp only [u4]
        clear u0 u1 u2 u3 u4
        go_wp2_with fail
        exact step_done rfl hI (Below.refl _ _) rfl
      · obtain ⟨u0, u1, u2, u3, u4, u5⟩ := hV
        simp only [u5]
        clear u0 u1 u2 u3 u4 u5
        go_wp2_with fail
        exact step_done rfl hI (Below.refl _ _) rfl
      · obtain ⟨u0, u1, u2, u3, u4, u5, u6⟩ := hV
        simp only [u5, u6]
        clear u0 u1 u2 u3 u4 u5 u6
        go_wp2_with fail
        exact step_done rfl hI (Below.refl _ _) rfl
      · obtain ⟨u0, u1, u2, u3, u4, u5, u6, u7⟩ := hV
        simp only [u5, u7]
        clear u0 u1 u2 u3 u4 u5 u6 u7
        go_wp2_with fail
        exact step_done rfl hI (Below.refl _ _) rfl
      · obtain ⟨u0, u1, u2, u3, u4, u5, u6, u7, u8⟩ := hV
        simp only [u8]
        clear u0 u1 u2 u3 u4 u5 u6 u7 u8
        go_wp2_with fail
        exact step_done rfl hI (Below.refl _ _) rfl
      · obtain ⟨u0, u1, u2, u3, u4, u5, u6, u7, u8, u9⟩ := hV
        simp only [u9]
        clear u0 u1 u2 u3 u4 u5 u6 u7 u8 u9
        go_wp2_with fail
        exact step_done rfl hI (Below.refl _ _) rfl
      · obtain ⟨u0, u1, u2, u3, u4, u5, u6, u7, u8, u9, u10⟩ := hV
        simp only [u9, u10]
        clear u0 u1 u2 u3 u4 u5 u6 u7 u8 u9 u10
        go_wp2_with fail
        exact step_done rfl hI (Below.refl _ _) rfl
      · obtain ⟨u0, u1, u2, u3, u4, u5, u6, u7, u8, u9, u10, u11⟩ := hV
        simp only [u9, u11]
        clear u0 u1 u2 u3 u4 u5 u6 u7 u8 u9 u10 u11
        go_wp2_with fail
        exact step_done rfl hI (Below.refl _ _) rfl
      · obtain ⟨u0, u1, u2, u3, u4, u5, u6, u7, u8, u9, u10, u11, u12⟩ := hV
        simp only [u12]
        clear u0 u1 u2 u3 u4 u5 u6 u7 u8 u9 u10 u11 u12
        go_wp2_with fail
        exact step_done rfl hI (Below.refl _ _) rfl
      · obtain ⟨u0, u1, u2, u3, u4, u5, u6, u7, u8, u9, u10, u11, u12, u13⟩ := hV
        simp only [u13]
        clear u0 u1 u2 u3 u4 u5 u6 u7 u8 u9 u10 u11 u12 u13
        go_wp2_with fail
        exact step_done rfl hI (Below.refl _ _) rfl
      · obtain ⟨u0, u1, u2, u3, u4, u5, u6, u7, u8, u9, u10, u11, u12, u13, u14⟩ := hV
        simp only [u13, u14]
        clear u0 u1 u2 u3 u4 u5 u6 u7 u8 u9 u10 u11 u12 u13 u14
        go_wp2_with fail
        exact step_done rfl hI (Below.refl _ _) rfl
      · obtain ⟨u0, u1, u2, u3, u4, u5, u6, u7, u8, u9, u10, u11, u12, u13, u14, u15⟩ := hV
        simp only [u13, u15]
        clear u0 u1 u2 u3 u4 u5 u6 u7 u8 u9 u10 u11 u12 u13 u14 u15
        go_wp2_with fail
        exact step_done rfl hI (Below.refl _ _) rfl
      · obtain ⟨u0, u1, u2, u3, u4, u5, u6, u7, u8, u9, u10, u11, u12, u13, u14, u15, u16⟩ := hV
        simp only [u16]
        clear u0 u1 u2 u3 u4 u5 u6 u7 u8 u9 u10 u11 u12 u13 u14 u15 u16
        go_wp2_with fail
        exact step_done rfl hI (Below.refl _ _) rfl
      · obtain ⟨u0, u1, u2, u3, u4, u5, u6, u7, u8, u9, u10, u11, u12, u13, u14, u15, u16, u17⟩ := hV
        simp only [u17]
        clear u0 u1 u2 u3 u4 u5 u6 u7 u8 u9 u10 u11 u12 u13 u14 u15 u16 u17
        go_wp2_with fail
        exact step_done rfl hI (Below.refl _ _) rfl
      · obtain ⟨u0, u1, u2, u3, u4, u5, u6, u7, u8, u9, u10, u11, u12, u13, u14, u15, u16, u17, u18⟩ := hV
        simp only [u17, u18]
        clear u0 u1 u2 u3 u4 u5 u6 u7 u8 u9 u10 u11 u12 u13 u14 u15 u16 u17 u18
        go_wp2_with fail
        exact step_done rfl hI (Below.refl _ _) rfl
      · obtain ⟨u0, u1, u2, u3, u4, u5, u6, u7, u8, u9, u10, u11, u12, u13, u14, u15, u16, u17⟩ := hV
        simp only [u17]
        clear u0 u1 u2 u3 u4 u5 u6 u7 u8 u9 u10 u11 u12 u13 u14 u15 u16 u17
        go_wp2_with fail
        exact step_done rfl hI (Below.refl _ _) rfl
      · obtain ⟨u0, u1, u2, u3, u4, u5, u6, u7, u8, u9, u10, u11, u12, u13, u14, u15, u16, u17, u20⟩ := hV
        simp only [u17, u20]
        clear u0 u1 u2 u3 u4 u5 u6 u7 u8 u9 u10 u11 u12 u13 u14 u15 u16 u17 u20
        go_wp2_with fail
        exact step_done rfl hI (Below.refl _ _) rfl
      · obtain ⟨u0, u1, u2, u3, u4, u5, u6, u7, u8, u9, u10, u11, u12, u13, u14, u15, u16, u17, u20, u21⟩ := hV
        simp only [u17, u21]
        clear u0 u1 u2 u3 u4 u5 u6 u7 u8 u9 u10 u11 u12 u13 u14 u15 u16 u17 u20 u21
        go_wp2_with fail
        exact step_done rfl hI (Below.refl _ _) rfl
      · obtain ⟨u0, u1, u2, u3, u4, u5, u6, u7, u8, u9, u10, u11, u12, u13, u14, u15, u16, u17, u18, u19, u20, u21, u22⟩ := hV
        simp only [u17, u19, u22]
        clear u0 u1 u2 u3 u4 u5 u6 u7 u8 u9 u10 u11 u12 u13 u14 u15 u16 u17 u18 u19 u20 u21 u22
        go_wp2_with fail
        exact step_done rfl hI (Below.refl _ _) rfl
      · obtain ⟨u0, u1, u2, u3, u4, u5, u6, u7, u8, u9, u10, u11, u12, u13, u14, u15, u16, u17, u18, u19, u20, u21, u22, u23⟩ := hV
        simp only [u17, u23]
        clear u0 u1 u2 u3 u4 u5 u6 u7 u8 u9 u10 u11 u12 u13 u14 u15 u16 u17 u18 u19 u20 u21 u22 u23
        go_wp2_with fail
        exact step_done rfl hI (Below.refl _ _) rfl
      · obtain ⟨u0, u1, u2, u3, u4, u5, u6, u7, u8, u9, u10, u11, u12, u13, u14, u15, u16, u17, u18, u19, u20, u21, u22, u23, u24⟩ := hV
        simp only [u24]
        clear u0 u1 u2 u3 u4 u5 u6 u7 u8 u9 u10 u11 u12 u13 u14 u15 u16 u17 u18 u19 u20 u21 u22 u23 u24
        go_wp2_with fail
        exact step_done rfl hI (Below.refl _ _) rfl
      · obtain ⟨u0, u1, u2, u3, u4, u5, u6, u7, u8, u9, u10, u11, u12, u13, u14, u15, u16, u17, u18, u19, u20, u21, u22, u23, u24, u25⟩ := hV
        simp only [u25]
        clear u0 u1 u2 u3 u4 u5 u6 u7 u8 u9 u10 u11 u12 u13 u14 u15 u16 u17 u18 u19 u20 u21 u22 u23 u24 u25
        go_wp2_with fail
        exact step_done rfl hI (Below.refl _ _) rfl
      · obtain ⟨u0, u1, u2, u3, u4, u5, u6, u7, u8, u9, u10, u11, u12, u13, u14, u15, u16, u17, u18, u19, u20, u21, u22, u23, u24, u25⟩ := hV
        simp only [u25]
        clear u0 u1 u2 u3 u4 u5 u6 u7 u8 u9 u10 u11 u12 u13 u14 u15 u16 u17 u18 u19 u20 u21 u22 u23 u24 u25
        go_wp2_with fail
        exact step_done rfl hI (Below.refl _ _) rfl
      · obtain ⟨u0, u1, u2, u3, u4, u5, u6, u7, u8, u9, u10, u11, u12, u13, u14, u15, u16, u17, u18, u19, u20, u21, u22, u23, u24, u25, u26, u27⟩ := hV
        simp only [u25, u26, u27]
        clear u0 u1 u2 u3 u4 u5 u6 u7 u8 u9 u10 u11 u12 u13 u14 u15 u16 u17 u18 u19 u20 u21 u22 u23 u24 u25 u26 u27
        have HI := Lib.hid hI
        clear hI z0 z1 z2 z3
        go_wp2_with fail
        refine (HBG.out W HI.out).mono ?_
        rintro e W' ⟨rfl, uW⟩
        have HW := Lib.hid uW
        have HU := Lib.hid (up HI.out uW)
        clear uW HI
        go_wp2_with fail
        exact step_done rfl HU.out HW.out rfl
      · obtain ⟨u0, u1, u2, u3, u4, u5, u6, u7, u8, u9, u10, u11, u12, u13, u14, u15, u16, u17, u18, u19, u20, u21, u22, u23, u24, u25, u26, u27, u28⟩ := hV
        simp only [u25, u28]
        clear u0 u1 u2 u3 u4 u5 u6 u7 u8 u9 u10 u11 u12 u13 u14 u15 u16 u17 u18 u19 u20 u21 u22 u23 u24 u25 u26 u27 u28
        go_wp2_with fail
        exact step_done rfl hI (Below.refl _ _) rfl
      · obtain ⟨u0, u1, u2, u3, u4, u5, u6, u7, u8, u9, u10, u11, u12, u13, u14, u15, u16, u17, u18, u19, u20, u21, u22, u23, u24, u25, u26, u27, u28, u29⟩ := hV
        simp only [u29]
        clear u0 u1 u2 u3 u4 u5 u6 u7 u8 u9 u10 u11 u12 u13 u14 u15 u16 u17 u18 u19 u20 u21 u22 u23 u24 u25 u26 u27 u28 u29
        go_wp2_with fail
        exact step_done rfl hI (Below.refl _ _) rfl
      · obtain ⟨u0, u1, u2, u3, u4, u5, u6, u7, u8, u9, u10, u11, u12, u13, u14, u15, u16, u17, u18, u19, u20, u21, u22, u23, u24, u25, u26, u27, u28, u29, u30⟩ := hV
        simp only [u30]
        clear u0 u1 u2 u3 u4 u5 u6 u7 u8 u9 u10 u11 u12 u13 u14 u15 u16 u17 u18 u19 u20 u21 u22 u23 u24 u25 u26 u27 u28 u29 u30
        go_wp2_with fail
        exact step_done rfl hI (Below.refl _ _) rfl
      · obtain ⟨u0, u1, u2, u3, u4, u5, u6, u7, u8, u9, u10, u11, u12, u13, u14, u15, u16, u17, u18, u19, u20, u21, u22, u23, u24, u25, u26, u27, u28, u29, u30⟩ := hV
        simp only [u30]
        clear u0 u1 u2 u3 u4 u5 u6 u7 u8 u9 u10 u11 u12 u13 u14 u15 u16 u17 u18 u19 u20 u21 u22 u23 u24 u25 u26 u27 u28 u29 u30
        go_wp2_with fail
        exact step_done rfl hI (Below.refl _ _) rfl
      · obtain ⟨u0, u1, u2, u3, u4, u5, u6, u7, u8, u9, u10, u11, u12, u13, u14, u15, u16, u17, u18, u19, u20, u21, u22, u23, u24, u25, u26, u27, u28, u29, u30, u32⟩ := hV
        simp only [u30, u32]
        clear u0 u1 u2 u3 u4 u5 u6 u7 u8 u9 u10 u11 u12 u13 u14 u15 u16 u17 u18 u19 u20 u21 u22 u23 u24 u25 u26 u27 u28 u29 u30 u32
        go_wp2_with fail
        exact step_done rfl hI (Below.refl _ _) rfl
      · obtain ⟨u0, u1, u2, u3, u4, u5, u6, u7, u8, u9, u10, u11, u12, u13, u14, u15, u16, u17, u18, u19, u20, u21, u22, u23, u24, u25, u26, u27, u28, u29, u30, u31, u32, u33⟩ := hV
        simp only [u30, u31, u33]
        clear u0 u1 u2 u3 u4 u5 u6 u7 u8 u9 u10 u11 u12 u13 u14 u15 u16 u17 u18 u19 u20 u21 u22 u23 u24 u25 u26 u27 u28 u29 u30 u31 u32 u33
        go_wp2_with fail
        exact step_done rfl hI (Below.refl _ _) rfl
      · obtain ⟨u0, u1, u2, u3, u4, u5, u6, u7, u8, u9, u10, u11, u12, u13, u14, u15, u16, u17, u18, u19, u20, u21, u22, u23, u24, u25, u26, u27, u28, u29, u30, u31, u32, u33, u34⟩ := hV
        simp only [u30, u34]
        clear u0 u1 u2 u3 u4 u5 u6 u7 u8 u9 u10 u11 u12 u13 u14 u15 u16 u17 u18 u19 u20 u21 u22 u23 u24 u25 u26 u27 u28 u29 u30 u31 u32 u33 u34
        have e0 : W.cell? ⟨bh, offh + j * 2, none⟩ = some (.int .i64 xr.epoch) := (hI.cell (p := ⟨bh, offh + j * 2, none⟩) hzb).trans z0
        have e1 : W.cell? ⟨bh, offh + j * 2 + 1, none⟩ = some (.slice ya yn yc) := (hI.cell (p := ⟨bh, offh + j * 2 + 1, none⟩) hzb).trans z1
        have HI := Lib.hid hI
        clear hI z0 z1 z2 z3
        go_wp2_with fail
        exact step_done rfl HI.out (Below.refl _ _) rfl
      · obtain ⟨u0, u1, u2, u3, u4, u5, u6, u7, u8, u9, u10, u11, u12, u13, u14, u15, u16, u17, u18, u19, u20, u21, u22, u23, u24, u25, u26, u27, u28, u29, u30⟩ := hV
        simp only [u30]
        clear u0 u1 u2 u3 u4 u5 u6 u7 u8 u9 u10 u11 u12 u13 u14 u15 u16 u17 u18 u19 u20 u21 u22 u23 u24 u25 u26 u27 u28 u29 u30
        have e0 : W.cell? ⟨T13, 0, none⟩ = some (.int .i64 xr.epoch) := (hI.cell (p := ⟨T13, 0, none⟩) l13).trans z2
        have e1 : W.cell? ⟨T13, 1, none⟩ = some (.slice ax nx cx) := (hI.cell (p := ⟨T13, 1, none⟩) l13).trans z3
        have HI := Lib.hid hI
        clear hI z0 z1 z2 z3
        go_wp2_with fail
        exact step_done rfl HI.out (Below.refl _ _) rfl
      · obtain ⟨u0, u1, u2, u3, u4, u5, u6, u7, u8, u9, u10, u11, u12, u13, u14, u15, u16, u17, u18, u19, u20, u21, u22, u23, u24, u25, u26, u27, u28, u29, u30, u31, u32, u33, u34, u35, u36⟩ := hV
        simp only [u30, u35, u36]
        clear u0 u1 u2 u3 u4 u5 u6 u7 u8 u9 u10 u11 u12 u13 u14 u15 u16 u17 u18 u19 u20 u21 u22 u23 u24 u25 u26 u27 u28 u29 u30 u31 u32 u33 u34 u35 u36
        have HI := Lib.hid hI
        clear hI z0 z1 z2 z3
        go_wp2_with fail
        refine (HSM.out W HI.out).mono ?_
        rintro e W' ⟨rfl, uW⟩
        have HW := Lib.hid uW
        have HU := Lib.hid (up HI.out uW)
        clear uW HI
        go_wp2_with fail
        exact step_done rfl HU.out HW.out rfl
      · obtain ⟨u0, u1, u2, u3, u4, u5, u6, u7, u8, u9, u10, u11, u12, u13, u14, u15, u16, u17, u18, u19, u20, u21, u22, u23, u24, u25, u26, u27, u28, u29, u30, u31, u32, u33, u34, u35, u36, u37⟩ := hV
        simp only [u30, u37]
        clear u0 u1 u2 u3 u4 u5 u6 u7 u8 u9 u10 u11 u12 u13 u14 u15 u16 u17 u18 u19 u20 u21 u22 u23 u24 u25 u26 u27 u28 u29 u30 u31 u32 u33 u34 u35 u36 u37
        go_wp2_with fail
        exact step_done rfl hI (Below.refl _ _) rfl
      · obtain ⟨u0, u1, u2, u3, u4, u5, u6, u7, u8, u9, u10, u11, u12, u13, u14, u15, u16, u17, u18, u19, u20, u21, u22, u23, u24, u25, u26, u27, u28, u29, u30, u31, u32, u33, u34, u35, u36, u37, u38⟩ := hV
        simp only [u38]
        clear u0 u1 u2 u3 u4 u5 u6 u7 u8 u9 u10 u11 u12 u13 u14 u15 u16 u17 u18 u19 u20 u21 u22 u23 u24 u25 u26 u27 u28 u29 u30 u31 u32 u33 u34 u35 u36 u37 u38
        go_wp2_with fail
        exact step_done rfl hI (Below.refl _ _) rfl
    case fin =>
      intro x W hI hV
      simp only [AllV, and_true, List.length_cons, List.length_nil, List.range, List.range.loop] at hV
      obtain ⟨u0, u1, u2, u3, u4, u5, u6, u7, u8, u9, u10, u11, u12, u13, u14, u15, u16, u17, u18, u19, u20, u21, u22, u23, u24, u25, u26, u27, u28, u29, u30, u31, u32, u33, u34, u35, u36, u37, u38, u39⟩ := hV
      simp only [getsD, List.getD_cons_succ, List.getD_cons_zero, List.length_cons, List.length_nil, List.range, List.range.loop, u0, u1, u2, u3, u4, u5, u6, u7, u8, u9, u10, u11, u12, u13, u14, u15, u16, u17, u18, u19, u20, u21, u22, u23, u24, u25, u26, u27, u28, u29, u30, u31, u32, u33, u34, u35, u36, u37, u38, u39, Act.put, List.setIfInBounds_toArray, List.set_cons_succ, List.set_cons_zero]
      clear u0 u1 u2 u3 u4 u5 u6 u7 u8 u9 u10 u11 u12 u13 u14 u15 u16 u17 u18 u19 u20 u21 u22 u23 u24 u25 u26 u27 u28 u29 u30 u31 u32 u33 u34 u35 u36 u37 u38 u39
      have HN := Lib.hid (up HBW.out hI)
      clear hI z0 z1 z2 z3
      go_wp2_with fail
      go_ret
      exact ⟨rfl, HN.out⟩
end Go.Proofs.YtdbdhpjjndhjiaaDoor

set_option linter.unusedSimpArgs false
namespace Go.Proofs.YtdbdhpjjndhjiaaDoor
open Go.RowKit

set_option maxRecDepth 100000 in
set_option maxHeartbeats 4000000 in
theorem sync_ok (l : Bs) (s : Int) (N : Nat) (a : Option Addr) (c : Nat) (w : World) (hN : N = l.length) (hr : RdS (· < w.heap.size) w l a N c) (h0 : 0 ≤ s) (h1 : s ≤ N) (h2 : N ≤ 8388608) :
    Calls Tryd.prog 30 #[.agg #[.slice a N c, .int .i64 s]] w fun e w' => ∃ a' c', e = .returned (.tuple #[.agg #[.slice a' N c', .int .i64 N], .int .i64 0]) ∧ RdS (fun b => w.heap.size ≤ b ∧ b < w'.heap.size) w' l a' N c' ∧ Below w.heap.size w w' := by
  have HO : Hid (∀ a c W, RdS (· < W.heap.size) W l a N c → Calls Tryd.prog 38 #[.agg #[.slice a N c, .int .i64 s]] W fun e w' => ∃ a' c', e = .returned (.tuple #[.agg #[.slice a' N c', .int .i64 s], .bool true]) ∧ Flat a' ∧ RdS (fun b => W.heap.size ≤ b ∧ b < w'.heap.size) w' l a' N c' ∧ Below W.heap.size W w') := by
    subst hN
    exact fun a c W h => open_flat l s a c W h h0 h1 h2
  have ra0 := Lib.hid hr
  clear hr hN
  go_enter Tryd.func30, Tryd.ntmps30
  go_wp2_with fail
  refine abs_run (fun W => Below w.heap.size w W ∧ Blk (w.heap.size + 1) (.cells #[.slice none 0 0, .int .i64 0] 27 (0, 0)) W) ⟨by (repeat (first | exact Below.refl _ _ | assumption | (refine Below.drew ?_) | (refine below_drewN ?_ _) | (refine Below.alloc ?_ (by first | (simp; done) | (simp; omega) | omega) _) | (refine Below.setCell ?_ (by first | (simp; done) | (simp; omega) | omega) _) | (refine Below.trans ?_ (Below.mono (by assumption) (by first | (simp; done) | (simp; omega) | omega))))), Blk.at (w.alloc _) _ (w.heap.size + 1) (by simp)⟩ ?_
  rintro W ⟨hb, bo⟩
  refine (HO.out _ _ _ (ra0.out.go hb)).mono ?_
  rintro e W2 ⟨ad, cd, rfl, fd, rd, hb2⟩
  have y0 := bo.lt
  have y9 := hb.size
  have rd : RdS (fun b => (w.heap.size ≤ b ∧ b ≠ w.heap.size + 1) ∧ b < W2.heap.size) W2 l ad N cd := rd.mono fun b hb => ⟨⟨⟨by have := hb.1; omega, by have := hb.1; omega⟩, hb.2⟩, rfl⟩
  clear y9
  have bo2 := bo.go hb2
  have HB2 := Lib.hid (up hb hb2)
  have HBo := Lib.hid bo2
  have HR := Lib.hid rd
  have o0 : W2.cell? ⟨w.heap.size + 1, 0, none⟩ = some (.slice none 0 0) := bo2.cell 0
  have o1 : W2.cell? ⟨w.heap.size + 1, 1, none⟩ = some (.int .i64 0) := bo2.cell 1
  have o2 : ∀ i, W2.frozen? ⟨w.heap.size + 1, i, none⟩ = false := bo2.frozen
  have z0 := bo2.lt
  clear hb bo hb2 bo2 rd
  go_wp2_with fail
  refine abs_ret (fun W => Blk (w.heap.size + 1) (.cells #[.slice ad N cd, .int .i64 N] 27 (0, 0)) W ∧ RdS (fun b => w.heap.size ≤ b ∧ b < W.heap.size) W l ad N cd ∧ Below w.heap.size w W) ⟨((HBo.out.set 0 _).set 1 _).alloc _, HR.out.mono fun k hk => ?_, ((HB2.out.setCell (p := ⟨w.heap.size + 1, 0, none⟩) (by show w.heap.size ≤ w.heap.size + 1; omega) _).setCell (p := ⟨w.heap.size + 1, 1, none⟩) (by show w.heap.size ≤ w.heap.size + 1; omega) _).alloc (by simp; omega) _⟩ ?_
  · have y1 := hk.1.2
    refine ⟨⟨hk.1.1, by simp; have := hk.2; omega⟩, ?_⟩
    refine (((Below.refl _ _).alloc (Nat.le_refl _) _).block k (by simp; exact hk.2)).trans ?_
    rw [Below.heap_setCell _ _ _ _ (by show k ≠ w.heap.size + 1; omega), Below.heap_setCell _ _ _ _ (by show k ≠ w.heap.size + 1; omega)]
  rintro W ⟨hB, hT, hW⟩
  have f0 : W.cell? ⟨w.heap.size + 1, 0, none⟩ = some (.slice ad N cd) := hB.cell 0
  have f1 : W.cell? ⟨w.heap.size + 1, 1, none⟩ = some (.int .i64 N) := hB.cell 1
  refine bodyPost_ret (v := .tuple #[.agg #[.slice ad N cd, .int .i64 N], .int .i64 0]) (by simp [results, Tryd.results30, go_sem, f0, f1]) rfl ?_
  exact ⟨_, _, rfl, hT, hW⟩
end Go.Proofs.YtdbdhpjjndhjiaaDoor
