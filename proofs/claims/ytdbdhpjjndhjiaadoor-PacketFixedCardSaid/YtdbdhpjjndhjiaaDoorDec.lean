/- The walk of wire.DecodeRecord. -/
import Derived.Test.YtdbdhpjjndhjiaaDoorEnc
set_option linter.unusedSimpArgs false
namespace Go.Proofs.YtdbdhpjjndhjiaaDoor
open Go.RowKit

/-- a record from bytes: what is read, and the reader behind it -/
def rdRec (b : Bs) : Rec × Rd := if (Rd.take ⟨b, 0⟩).1 = 0 then (⟨0, (Rd.take ⟨b, 0⟩).2.op.1⟩, (Rd.take ⟨b, 0⟩).2.op.2.done) else (⟨(Rd.take ⟨b, 0⟩).1, []⟩, (Rd.take ⟨b, 0⟩).2.done)
def recFault (b : Bs) : Int := if (rdRec b).2.fault = 0 then checkRecord (rdRec b).1 else (rdRec b).2.fault
def decRec (b : Bs) : Rec × Int := if 50000 < b.length then (⟨0, []⟩, 1) else if recFault b = 0 then ((rdRec b).1, 0) else (⟨0, []⟩, recFault b)
/-- what a call of a reader of records leaves -/
def RecP (x : Rec × Int) (w : World) (e : Ending) (w' : World) : Prop :=
  ∃ (a : Option Addr) (c : Nat), e = .returned (.tuple #[.agg #[.int .i64 x.1.epoch, .slice a x.1.op.length c], .int .i64 x.2]) ∧ RdS (fun k => w.heap.size ≤ k ∧ k < w'.heap.size) w' x.1.op a x.1.op.length c ∧ Below w.heap.size w w' ∧ I64 x.1.epoch
theorem Rdr.new {w : World} {l : Bs} {a : Option Addr} {c : Nat} (hf : Flat a) (hr : RdS (· < w.heap.size) w l a l.length c) : Rdr w.heap.size ⟨l, 0⟩ (w.alloc (.cells #[.slice a l.length c, .int .i64 0] 87)) :=
  ⟨a, c, hf, Blk.new _ _, hr.mono fun k hk => ⟨hk, ((Below.refl w.heap.size w).alloc (Nat.le_refl _) _).block k hk⟩⟩
theorem only_below {b : Nat} {w w' : World} (h : Only b w w') (hb : b ≤ w.heap.size) : Below b w w' := h.toBelow hb (fun k hk => by have hk' : k = b := hk; omega)

set_option maxRecDepth 100000 in
set_option maxHeartbeats 1000000 in
theorem decRecord_long (b : Bs) (a : Option Addr) (n c : Nat) (w : World) (hr : RdS (· < w.heap.size) w b a n c) (hl : 50000 < b.length) :
    Calls Tryd.prog 21 #[.slice a n c] w (RecP (decRec b) w) := by
  have hn := hr.1
  have hnm : n ≤ maxLen := Nat.le_trans hr.2.1 hr.2.2.1
  unfold maxLen at hnm
  have hnI : decide ((50000 : Int) < (n : Int)) = true := by simp; omega
  have hd : decRec b = (⟨0, []⟩, 1) := by unfold decRec; rw [if_pos hl]
  rw [hd]
  clear hr hl hd hn
  go_enter Tryd.func21, Tryd.ntmps21
  go_wp2_with fail
  refine bodyPost_ret (v := .tuple #[.agg #[.int .i64 0, .slice none 0 0], .int .i64 1]) (by simp [results, Tryd.results21, go_sem]) rfl ?_
  exact ⟨none, 0, rfl, RdS.empty _ _ _, by (repeat (first | exact Below.refl _ _ | assumption | (refine Below.drew ?_) | (refine below_drewN ?_ _) | (refine Below.alloc ?_ (by first | (simp; done) | (simp; omega) | omega) _) | (refine Below.setCell ?_ (by first | (simp; done) | (simp; omega) | omega) _) | (refine Below.trans ?_ (Below.mono (by assumption) (by first | (simp; done) | (simp; omega) | omega))))), by unfold I64; simp⟩
/-- what stands behind the last read: the reader (block b), the record (block X), the result (block w.heap.size) -/
structure Dst (w : World) (b X : Nat) (e : Int) (o : Op) (a : Option Addr) (c : Nat) (r : Rd) (W : World) : Prop where
  rd : Rdr b r W
  box : Blk X (.cells #[.int .i64 e, .slice a o.length c] 33 (0, 0)) W
  res : Blk w.heap.size (.cells #[.int .i64 0, .slice none 0 0] 33 (0, 0)) W
  op : RdS (fun k => w.heap.size ≤ k ∧ k < W.heap.size ∧ k ≠ b ∧ k ≠ w.heap.size ∧ k ≠ X) W o a o.length c
  below : Below w.heap.size w W
  blt : w.heap.size < b
  xlt : b < X
theorem Dst.go {w W W' : World} {b X : Nat} {e : Int} {o : Op} {a : Option Addr} {c : Nat} {r : Rd} (h : Dst w b X e o a c r W) (hb : Below W.heap.size W W') : Dst w b X e o a c r W' :=
  ⟨h.rd.go hb, h.box.go hb, h.res.go hb, h.op.mono fun k hk => ⟨⟨hk.1, Nat.lt_of_lt_of_le hk.2.1 hb.size, hk.2.2⟩, hb.block k hk.2.1⟩, up h.below hb, h.blt, h.xlt⟩
theorem dst_op {w w1 w2 w3 : World} {n1 : Int} {o : Op} {ax a1 : Option Addr} {cx c1 : Nat} {b : Bs} (xR : Blk w.heap.size (.cells #[.int .i64 0, .slice none 0 0] 33 (0, 0)) w1 ∧ Below w.heap.size w w1) (hwb : w.heap.size < w1.heap.size)
    (t2 : Only w1.heap.size (w1.alloc (.cells #[.slice a1 b.length c1, .int .i64 0] 87)) w2) (t3 : Only w1.heap.size (w2.alloc (.cells #[.int .i64 n1, .slice none 0 0] 33)) w3)
    (ro : RdS (fun k => (w2.alloc (.cells #[.int .i64 n1, .slice none 0 0] 33)).heap.size ≤ k ∧ k < w3.heap.size) w3 o ax o.length cx) (bx : Blk w2.heap.size (.cells #[.int .i64 n1, .slice none 0 0] 33 (0, 0)) w3) :
    ∀ w4, Only w1.heap.size (w3.setCell ⟨w2.heap.size, 1, none⟩ (.slice ax o.length cx)) w4 → ∀ r, Rdr w1.heap.size r w4 → Dst w w1.heap.size w2.heap.size n1 o ax cx r w4 := by
  intro w4 t4 r hr
  have z2 := t2.size
  have z3 := t3.size
  have z4 := t4.size
  simp at z2 z3 z4
  have a1' : Blk w.heap.size (.cells #[.int .i64 0, .slice none 0 0] 33 (0, 0)) w2 := (xR.1.alloc _).touch t2 (by omega)
  have a2 : Blk w.heap.size (.cells #[.int .i64 0, .slice none 0 0] 33 (0, 0)) w3 := (a1'.alloc _).touch t3 (by omega)
  refine ⟨hr, (bx.set 1 _).touch t4 (by omega), (a2.other (by show w2.heap.size ≠ w.heap.size; omega) _).touch t4 (by omega), ?_, ?_, hwb, by omega⟩
  · refine ro.mono fun k hk => ?_
    have hk1 := hk.1
    simp at hk1
    have hk2 := hk.2
    refine ⟨⟨by omega, by omega, by omega, by omega, by omega⟩, ?_⟩
    rw [t4.block k (by simp; omega) (by omega), Below.heap_setCell _ _ _ _ (by show k ≠ w2.heap.size; omega)]
  · have c1 : Below w.heap.size w w2 := (xR.2.alloc (by omega) _).trans ((only_below t2 (by simp)).mono (by omega))
    have c2 : Below w.heap.size w w3 := (c1.alloc (by omega) _).trans ((only_below t3 (by simp; omega)).mono (by omega))
    exact (c2.setCell (p := ⟨w2.heap.size, 1, none⟩) (by show w.heap.size ≤ w2.heap.size; omega) _).trans ((only_below t4 (by simp; omega)).mono (by omega))
theorem dst_no {w w1 w2 : World} {n1 : Int} {a1 : Option Addr} {c1 : Nat} {b : Bs} (xR : Blk w.heap.size (.cells #[.int .i64 0, .slice none 0 0] 33 (0, 0)) w1 ∧ Below w.heap.size w w1) (hwb : w.heap.size < w1.heap.size)
    (t2 : Only w1.heap.size (w1.alloc (.cells #[.slice a1 b.length c1, .int .i64 0] 87)) w2) :
    ∀ w4, Only w1.heap.size (w2.alloc (.cells #[.int .i64 n1, .slice none 0 0] 33)) w4 → ∀ r, Rdr w1.heap.size r w4 → Dst w w1.heap.size w2.heap.size n1 [] none 0 r w4 := by
  intro w4 t4 r hr
  have z2 := t2.size
  have z4 := t4.size
  simp at z2 z4
  have a1' : Blk w.heap.size (.cells #[.int .i64 0, .slice none 0 0] 33 (0, 0)) w2 := (xR.1.alloc _).touch t2 (by omega)
  refine ⟨hr, (Blk.new w2 _).touch t4 (by omega), (a1'.alloc _).touch t4 (by omega), RdS.empty _ _ _, ?_, hwb, by omega⟩
  have c1 : Below w.heap.size w w2 := (xR.2.alloc (by omega) _).trans ((only_below t2 (by simp)).mono (by omega))
  exact (c1.alloc (by omega) _).trans ((only_below t4 (by simp; omega)).mono (by omega))
set_option maxRecDepth 100000 in
set_option maxHeartbeats 10000000 in
theorem decRecord_any (b : Bs) (a : Option Addr) (n c : Nat) (w : World) (hg : Good w) (hr : RdS (· < w.heap.size) w b a n c) :
    Calls Tryd.prog 21 #[.slice a n c] w (RecP (decRec b) w) := by
  by_cases hl : 50000 < b.length
  · exact decRecord_long b a n c w hr hl
  · have hn := hr.1
    have hn5 : n ≤ 50000 := by omega
    have hnI : decide ((50000 : Int) < (n : Int)) = false := by simp; omega
    have HCl := Lib.hid (fun W (hW : Below w.heap.size w W) => cloneB_any b a n c W (hr.go hW) (by omega))
    have hd : decRec b = if recFault b = 0 then ((rdRec b).1, 0) else (⟨0, []⟩, recFault b) := by unfold decRec; rw [if_neg hl]
    have hbl : b.length ≤ 50000 := by omega
    have Hok0 : Hid (recFault b = 0 → ∀ x, (rdRec b).1 = x → ∀ a c W, I64 x.epoch → RdS (fun k => w.heap.size ≤ k ∧ k < W.heap.size) W x.op a x.op.length c → Below w.heap.size w W → RecP (decRec b) w (.returned (.tuple #[.agg #[.int .i64 x.epoch, .slice a x.op.length c], .int .i64 0])) W) := by
      intro h x hx a c W h0 h1 h2
      rw [hd, if_pos h, hx]
      exact ⟨a, c, rfl, h1, h2, h0⟩
    have Hbad0 : Hid (∀ F, recFault b = F → F ≠ 0 → ∀ W, Below w.heap.size w W → RecP (decRec b) w (.returned (.tuple #[.agg #[.int .i64 0, .slice none 0 0], .int .i64 F])) W) := by
      intro F hF h0 W h2
      rw [hd, if_neg (by rw [hF]; exact h0), hF]
      exact ⟨none, 0, rfl, RdS.empty _ _ _, h2, by unfold I64; simp⟩
    have hpath : ((Rd.take ⟨b, 0⟩).1 = 0 → (rdRec b).1 = ⟨((Rd.take ⟨b, 0⟩).1 : Int), (Rd.take ⟨b, 0⟩).2.op.1⟩ ∧ (rdRec b).2 = (Rd.take ⟨b, 0⟩).2.op.2.done) ∧ ((Rd.take ⟨b, 0⟩).1 ≠ 0 → (rdRec b).1 = ⟨((Rd.take ⟨b, 0⟩).1 : Int), []⟩ ∧ (rdRec b).2 = (Rd.take ⟨b, 0⟩).2.done) := by
      unfold rdRec
      refine ⟨fun h => ?_, fun h => ?_⟩
      · rw [if_pos h, h]; exact ⟨rfl, rfl⟩
      · rw [if_neg h]; exact ⟨rfl, rfl⟩
    have htl := take_lt ⟨b, 0⟩
    have htr := take_rest ⟨b, 0⟩
    generalize RecP (decRec b) w = RP at *
    clear hr hd hn hl
    go_enter Tryd.func21, Tryd.ntmps21
    go_wp2_with fail
    refine (HCl.out _ ((Below.refl _ _).alloc (Nat.le_refl _) _)).mono ?_
    rintro e w1 ⟨a1, c1, rfl, hf1, hr1, u1⟩
    have hwb := u1.size
    simp at hwb
    have XR : Hid (Blk w.heap.size (.cells #[.int .i64 0, .slice none 0 0] 33 (0, 0)) w1 ∧ Below w.heap.size w w1) := ⟨(Blk.new w _).go u1, ((Below.refl _ _).alloc (Nat.le_refl _) _).trans (u1.mono (by simp))⟩
    have R0 := Lib.hid (Rdr.new hf1 (hr1.wide fun k hk => hk.2))
    clear u1 hf1 hr1 HCl
    go_wp2_with fail
    refine (take_any w1.heap.size ⟨b, 0⟩ _ R0.out).mono ?_
    unfold TakeP
    generalize (Rd.take ⟨b, 0⟩).1 = n1 at *
    generalize (Rd.take ⟨b, 0⟩).2 = q1 at *
    try simp only at htr
    rintro e w2 ⟨rfl, q2, t2⟩
    have hz2 := t2.size
    simp at hz2
    clear R0
    by_cases hn1 : n1 = 0
    · have hb0 : ((n1 : Int) == 0) = true := by simp; omega
      obtain ⟨o1, rq⟩ := hpath.1 hn1
      have HO := Lib.hid (fun W (hW : Rdr w1.heap.size q1 W) => rop_any w1.heap.size q1 W hW (by omega))
      have T2 := Lib.hid t2
      have Q2 := Lib.hid q2
      clear t2 q2 hpath hn1
      go_wp2_with fail
      refine (HO.out _ (Q2.out.go ((Below.refl _ _).alloc (Nat.le_refl _) _))).mono ?_
      rintro e w3 ⟨ax, cx, rfl, ro, r3', t3, ft⟩
      have hz3 := t3.size
      simp at hz3
      have bx : Blk w2.heap.size (.cells #[.int .i64 (n1 : Int), .slice none 0 0] 33 (0, 0)) w3 := (Blk.new w2 _).touch t3 (by omega)
      have f3 := bx.frozen
      have b0 : w3.cell? ⟨w2.heap.size, 0, none⟩ = some (.int .i64 (n1 : Int)) := bx.cell 0
      have b1 : w3.cell? ⟨w2.heap.size, 1, none⟩ = some (.slice none 0 0) := bx.cell 1
      have HE := Lib.hid (end_any w1.heap.size q1.op.2 (w3.setCell ⟨w2.heap.size, 1, none⟩ (.slice ax q1.op.1.length cx)) (r3'.below ((Below.refl _ _).setCell (p := ⟨w2.heap.size, 1, none⟩) (by show w1.heap.size + 1 ≤ w2.heap.size; omega) _)))
      have hD0 := Lib.hid (dst_op (w := w) XR.out hwb T2.out t3 ro bx)
      clear ro r3' t3 bx HO
      go_wp2_with fail
      refine HE.out.mono ?_
      rintro e w4 ⟨rfl, r4, t4⟩
      have hD := hD0.out w4 t4 q1.op.2.done r4
      have hrf : Hid (recFault b = if q1.op.2.done.fault = 0 then checkRecord ⟨(n1 : Int), q1.op.1⟩ else q1.op.2.done.fault) := by unfold Hid recFault; rw [o1, rq]
      have hex : I64 (n1 : Int) := by unfold I64; omega
      have Hok : Hid (recFault b = 0 → ∀ a c W, RdS (fun k => w.heap.size ≤ k ∧ k < W.heap.size) W q1.op.1 a q1.op.1.length c → Below w.heap.size w W → RP (.returned (.tuple #[.agg #[.int .i64 (n1 : Int), .slice a q1.op.1.length c], .int .i64 0])) W) := fun h a c W h1 h2 => Hok0.out h _ o1 _ _ _ hex h1 h2
      have Hbad : Hid (∀ F, recFault b = F → F ≠ 0 → ∀ W, Below w.heap.size w W → RP (.returned (.tuple #[.agg #[.int .i64 0, .slice none 0 0], .int .i64 F])) W) := Hbad0.out
      clear b0 b1 f3 r4 t4 hD0 T2 Q2 HE Hok0 Hbad0 o1 rq ft
      generalize q1.op.2.done = r3 at *
      generalize q1.op.1 = ox at *
      generalize (n1 : Int) = ex at *
      generalize w2.heap.size = X at *
      obtain ⟨ar, cr, -, y1, -⟩ := hD.rd.ex
      have e1 : w4.cell? ⟨w1.heap.size, 1, none⟩ = some (.int .i64 r3.fault) := y1.cell 1
      by_cases hf : r3.fault = 0
      · have hf0 : (r3.fault == 0) = true := by simpa using hf
        rw [hf] at e1 y1
        have HC := Lib.hid (checkRecord_any ⟨ex, ox⟩ ax ox.length cx w4 (hg.go hD.below) (hD.op.wide fun k hk => hk.2.1) hex)
        have q0 : w4.cell? ⟨X, 0, none⟩ = some (.int .i64 ex) := hD.box.cell 0
        have q1 : w4.cell? ⟨X, 1, none⟩ = some (.slice ax ox.length cx) := hD.box.cell 1
        have HD := Lib.hid hD
        have hblt := hD.blt
        have hxlt := hD.xlt
        have HF := Lib.hid (hrf.out.trans (if_pos hf))
        simp only at HC
        generalize hch : checkRecord ⟨ex, ox⟩ = F at *
        clear hD hch hf
        by_cases hF : F = 0
        · have hFn : (F != 0) = false := by simpa using hF
          subst hF
          have Hok2 := Lib.hid (Hok.out (HF.out))
          clear Hbad Hok HF
          go_wp2_with fail
          refine HC.out.mono ?_
          rintro e w5 ⟨rfl, u5⟩
          have hD5 := HD.out.go u5
          have y5 := y1.go u5
          have g0 : w5.cell? ⟨X, 0, none⟩ = some (.int .i64 ex) := hD5.box.cell 0
          have g1 : w5.cell? ⟨X, 1, none⟩ = some (.slice ax ox.length cx) := hD5.box.cell 1
          have e5 : w5.cell? ⟨w1.heap.size, 1, none⟩ = some (.int .i64 0) := y5.cell 1
          have f5 := y5.frozen 1
          have k0 : w5.cell? ⟨w.heap.size, 0, none⟩ = some (.int .i64 0) := hD5.res.cell 0
          have k1 : w5.cell? ⟨w.heap.size, 1, none⟩ = some (.slice none 0 0) := hD5.res.cell 1
          have k2 : ∀ i, w5.frozen? ⟨w.heap.size, i, none⟩ = false := hD5.res.frozen
          have Hop : Hid (RdS (fun k => w.heap.size ≤ k ∧ k < (((w5.setCell ⟨w1.heap.size, 1, none⟩ (.int .i64 0)).setCell ⟨w.heap.size, 0, none⟩ (.int .i64 ex)).setCell ⟨w.heap.size, 1, none⟩ (.slice ax ox.length cx)).heap.size) (((w5.setCell ⟨w1.heap.size, 1, none⟩ (.int .i64 0)).setCell ⟨w.heap.size, 0, none⟩ (.int .i64 ex)).setCell ⟨w.heap.size, 1, none⟩ (.slice ax ox.length cx)) ox ax ox.length cx ∧ Below w.heap.size w (((w5.setCell ⟨w1.heap.size, 1, none⟩ (.int .i64 0)).setCell ⟨w.heap.size, 0, none⟩ (.int .i64 ex)).setCell ⟨w.heap.size, 1, none⟩ (.slice ax ox.length cx))) := by
            refine ⟨hD5.op.mono fun k hk => ⟨⟨hk.1, by simp; exact hk.2.1⟩, ?_⟩, ((hD5.below.setCell (p := ⟨w1.heap.size, 1, none⟩) (by show w.heap.size ≤ w1.heap.size; omega) _).setCell (p := ⟨w.heap.size, 0, none⟩) (Nat.le_refl _) _).setCell (p := ⟨w.heap.size, 1, none⟩) (Nat.le_refl _) _⟩
            rw [Below.heap_setCell _ _ _ _ (by show k ≠ w.heap.size; exact hk.2.2.2.1), Below.heap_setCell _ _ _ _ (by show k ≠ w.heap.size; exact hk.2.2.2.1), Below.heap_setCell _ _ _ _ (by show k ≠ w1.heap.size; exact hk.2.2.1)]
          clear HC HD hD5 u5 y5 y1 e1 q0 q1
          go_wp2_with fail
          refine bodyPost_ret (v := .tuple #[.agg #[.int .i64 ex, .slice ax ox.length cx], .int .i64 0]) (by simp [results, Tryd.results21, go_sem, k0, k1]) rfl ?_
          exact Hok2.out _ _ _ Hop.out.1 Hop.out.2
        · have hFn : (F != 0) = true := by simpa using hF
          have Hbad := Lib.hid (Hbad.out F HF.out hF)
          clear Hok HF hF
          go_wp2_with fail
          refine HC.out.mono ?_
          rintro e w5 ⟨rfl, u5⟩
          have hD5 := HD.out.go u5
          have y5 := y1.go u5
          have e5 : w5.cell? ⟨w1.heap.size, 1, none⟩ = some (.int .i64 0) := y5.cell 1
          have f5 := y5.frozen 1
          generalize r3.rest.length = lr at *
          have HS : Hid (Blk w.heap.size (.cells #[.int .i64 0, .slice none 0 0] 33 (0, 0)) (w5.setCell ⟨w1.heap.size, 1, none⟩ (.int .i64 F)) ∧ Blk w1.heap.size (.cells #[.slice ar lr cr, .int .i64 F] 87 (0, 0)) (w5.setCell ⟨w1.heap.size, 1, none⟩ (.int .i64 F)) ∧ Below w.heap.size w (w5.setCell ⟨w1.heap.size, 1, none⟩ (.int .i64 F))) :=
            ⟨hD5.res.other (by show w1.heap.size ≠ w.heap.size; omega) _, y5.set 1 _, hD5.below.setCell (p := ⟨w1.heap.size, 1, none⟩) (by show w.heap.size ≤ w1.heap.size; omega) _⟩
          clear HC HD hD5 u5 y5 y1 e1 q0 q1
          go_wp2_with fail
          obtain ⟨Vp, HV⟩ : ∃ Vp : Nat → Value → World → Prop, Hid (Vp = fun i v W => match i with
              | 0 => v = .agg #[.int .i64 0, .slice none 0 0]
              | 1 => v = .pointer (some ⟨w1.heap.size, 0, none⟩)
              | 2 => v = .pointer (some ⟨w1.heap.size, 0, none⟩)
              | 3 => v = .pointer (some ⟨w1.heap.size, 1, none⟩)
              | 4 => v = .int .i64 F
              | 5 => v = undef
              | _ => v = .int .i64 F) := ⟨_, rfl⟩
          obtain ⟨Ip, HIp⟩ : ∃ Ip : (Nat → Bool) → (Nat → Value) → World → Prop, Hid (Ip = fun L x W => (Blk w.heap.size (.cells #[.int .i64 0, .slice none 0 0] 33 (0, 0)) W ∧ Blk w1.heap.size (.cells #[.slice ar lr cr, .int .i64 F] 87 (0, 0)) W ∧ Below w.heap.size w W)) := ⟨_, rfl⟩
          refine region_lit3 (by kernel_rfl) (by kernel_rfl) (by kernel_rfl) [[], [], [1], [1, 2], [1, 2, 3], [0], [1, 2, 3, 4]] (by kernel_rfl) [some 40, some 41, some 42, some 43, some 44, none, some 3] (by kernel_rfl) [[0, 5], [1, 2, 3, 4, 6], [2, 3, 4, 6], [3, 4, 6], [4, 6], [5], [6]] (by kernel_rfl) [[], [], [], [], [], [], []] [[], [], [1], [2], [3], [0], [4]] (by kernel_rfl)
            Ip
            Vp
            (fun j W W' => match j with
              | 5 => True
              | _ => Below W.heap.size W W')
            [fun x => ⟨#[undef, undef, undef, undef, undef, undef, undef, undef, undef, undef, undef, undef, undef, undef, undef, undef, undef, undef, undef, undef, undef, undef, undef, undef, undef, undef, undef, undef, undef, undef, undef, undef, undef, undef, undef, undef, undef, undef, undef, undef, undef], []⟩,
   fun x => ⟨#[undef, undef, undef, undef, .pointer (some ⟨w1.heap.size, 0, none⟩), undef, undef, undef, undef, undef, undef, undef, undef, undef, undef, undef, undef, undef, undef, undef, undef, undef, undef, undef, undef, undef, undef, undef, undef, undef, undef, undef, undef, undef, undef, undef, undef, undef, undef, undef, undef, undef], []⟩,
   fun x => ⟨#[undef, undef, undef, undef, undef, undef, undef, undef, undef, undef, undef, undef, undef, undef, undef, undef, undef, undef, undef, undef, undef, undef, undef, undef, undef, undef, undef, undef, undef, undef, undef, undef, undef, undef, undef, undef, undef, undef, undef, undef, undef, x 1, undef], []⟩,
   fun x => ⟨#[undef, undef, undef, undef, undef, undef, undef, undef, undef, undef, undef, undef, undef, undef, undef, undef, undef, undef, undef, undef, undef, undef, undef, undef, undef, undef, undef, undef, undef, undef, undef, undef, undef, undef, undef, undef, undef, undef, undef, undef, undef, undef, x 2, undef], []⟩,
   fun x => ⟨#[undef, undef, undef, undef, undef, undef, undef, undef, undef, undef, undef, undef, undef, undef, undef, undef, undef, undef, undef, undef, undef, undef, undef, undef, undef, undef, undef, undef, undef, undef, undef, undef, undef, undef, undef, undef, undef, undef, undef, undef, undef, undef, undef, x 3, undef], []⟩,
   fun x => ⟨#[undef, undef, .pointer (some ⟨w.heap.size, 0, none⟩), undef, undef, undef, undef, undef, undef, undef, undef, undef, undef, undef, undef, undef, undef, undef, undef, undef, undef, undef, undef, undef, undef, undef, undef, undef, undef, undef, undef, undef, undef, undef, undef, undef, undef, undef, undef, undef, x 0], []⟩,
   fun x => ⟨#[undef, undef, undef, undef, undef, undef, undef, undef, undef, undef, undef, undef, undef, undef, undef, undef, undef, undef, undef, undef, undef, undef, undef, undef, undef, undef, undef, undef, undef, undef, undef, undef, undef, undef, undef, undef, undef, undef, undef, undef, undef, undef, undef, undef, x 4], []⟩]
            ?hF ?mono ?h0 ?step [0, 1, 2, 3, 4, 5, 6] (by kernel_rfl) ?fin
          case hF =>
            exact ⟨fun x => ⟨by kernel_rfl, by kernel_rfl⟩, fun x => ⟨by kernel_rfl, by kernel_rfl⟩, fun x => ⟨by kernel_rfl, by kernel_rfl⟩, fun x => ⟨by kernel_rfl, by kernel_rfl⟩, fun x => ⟨by kernel_rfl, by kernel_rfl⟩, fun x => ⟨by kernel_rfl, by kernel_rfl⟩, fun x => ⟨by kernel_rfl, by kernel_rfl⟩, trivial⟩
          case mono =>
            intro i j hi hj hne hna hnk v W W' hE hv
            rw [HV.out] at hv ⊢
            simp only [List.length_cons, List.length_nil] at hi hj
            match i, hi with
            | 0, _ | 1, _ | 2, _ | 3, _ | 4, _ | 5, _ | 6, _ => exact hv
            | m + 7, h => exact absurd h (by omega)
          case h0 => intro x; exact toI HIp ⟨HS.out.1, HS.out.2.1, HS.out.2.2.drew⟩
          case step =>
            refine ⟨?_, ?_, ?_, ?_, ?_, ?_, ?_, trivial⟩
            all_goals
              intro x W L hI hL hV
              replace hI : (Blk w.heap.size (.cells #[.int .i64 0, .slice none 0 0] 33 (0, 0)) W ∧ Blk w1.heap.size (.cells #[.slice ar lr cr, .int .i64 F] 87 (0, 0)) W ∧ Below w.heap.size w W) := ofI HIp hI
              rw [HV.out] at hV
              simp only [AllV, and_true] at hV
            · clear hV
              (try dsimp only)
              have HI := Lib.hid hI
              clear hI
              go_wp2_with fail
              refine step3_done rfl ?_ ?_ ?_
              · exact (toI HIp HI.out)
              · exact (Below.refl _ _)
              · exact (toV HV rfl)
            · clear hV
              (try dsimp only)
              have HI := Lib.hid hI
              clear hI
              go_wp2_with fail
              refine step3_done rfl ?_ ?_ ?_
              · exact (toI HIp HI.out)
              · exact (Below.refl _ _)
              · exact (toV HV rfl)
            · have u1 := hV
              clear hV
              simp only [u1]
              clear u1
              have HI := Lib.hid hI
              clear hI
              go_wp2_with fail
              refine step3_done rfl ?_ ?_ ?_
              · exact (toI HIp HI.out)
              · exact (Below.refl _ _)
              · exact (toV HV rfl)
            · have u2 := hV
              clear hV
              simp only [u2]
              clear u2
              have HI := Lib.hid hI
              clear hI
              go_wp2_with fail
              refine step3_done rfl ?_ ?_ ?_
              · exact (toI HIp HI.out)
              · exact (Below.refl _ _)
              · exact (toV HV rfl)
            · have u3 := hV
              clear hV
              simp only [u3]
              clear u3
              have e1 : W.cell? ⟨w1.heap.size, 1, none⟩ = some (.int .i64 F) := hI.2.1.cell 1
              have HI := Lib.hid hI
              clear hI
              go_wp2_with fail
              refine step3_done rfl ?_ ?_ ?_
              · exact (toI HIp HI.out)
              · exact (Below.refl _ _)
              · exact (toV HV rfl)
            · have u0 := hV
              clear hV
              simp only [u0]
              clear u0
              have e1 : W.cell? ⟨w.heap.size, 0, none⟩ = some (.int .i64 0) := hI.1.cell 0
              have e2 : W.cell? ⟨w.heap.size, 1, none⟩ = some (.slice none 0 0) := hI.1.cell 1
              have e3 : ∀ i, W.frozen? ⟨w.heap.size, i, none⟩ = false := hI.1.frozen
              have hI2 : Blk w.heap.size (.cells #[.int .i64 0, .slice none 0 0] 33 (0, 0)) ((W.setCell ⟨w.heap.size, 0, none⟩ (.int .i64 0)).setCell ⟨w.heap.size, 1, none⟩ (.slice none 0 0)) ∧ Blk w1.heap.size (.cells #[.slice ar lr cr, .int .i64 F] 87 (0, 0)) ((W.setCell ⟨w.heap.size, 0, none⟩ (.int .i64 0)).setCell ⟨w.heap.size, 1, none⟩ (.slice none 0 0)) ∧ Below w.heap.size w ((W.setCell ⟨w.heap.size, 0, none⟩ (.int .i64 0)).setCell ⟨w.heap.size, 1, none⟩ (.slice none 0 0)) :=
                ⟨(hI.1.set 0 _).set 1 _, (hI.2.1.other (by show w.heap.size ≠ w1.heap.size; omega) _).other (by show w.heap.size ≠ w1.heap.size; omega) _, (hI.2.2.setCell (p := ⟨w.heap.size, 0, none⟩) (Nat.le_refl _) _).setCell (p := ⟨w.heap.size, 1, none⟩) (Nat.le_refl _) _⟩
              have HI := Lib.hid hI2
              clear hI hI2
              go_wp2_with fail
              exact step3_done (v := undef) rfl (toI HIp HI.out) trivial (toV HV rfl)
            · have u4 := hV
              clear hV
              simp only [u4]
              clear u4
              have HI := Lib.hid hI
              clear hI
              go_wp2_with fail
              refine step3_done rfl ?_ ?_ ?_
              · exact (toI HIp HI.out)
              · exact (Below.refl _ _)
              · exact (toV HV rfl)
          case fin =>
            intro x W L hL hI hV
            replace hI : (Blk w.heap.size (.cells #[.int .i64 0, .slice none 0 0] 33 (0, 0)) W ∧ Blk w1.heap.size (.cells #[.slice ar lr cr, .int .i64 F] 87 (0, 0)) W ∧ Below w.heap.size w W) := ofI HIp hI
            rw [HV.out] at hV
            simp only [AllV, and_true] at hV
            obtain ⟨u0, u1, u2, u3, u4, u5, u6⟩ := hV
            simp only [getsD, List.getD_cons_succ, List.getD_cons_zero, List.length_cons, List.length_nil, List.range, List.range.loop, u0, u1, u2, u3, u4, u5, u6, Act.put, List.setIfInBounds_toArray, List.set_cons_succ, List.set_cons_zero]
            clear u0 u1 u2 u3 u4 u5 u6
            have e1 : W.cell? ⟨w.heap.size, 0, none⟩ = some (.int .i64 0) := hI.1.cell 0
            have e2 : W.cell? ⟨w.heap.size, 1, none⟩ = some (.slice none 0 0) := hI.1.cell 1
            have HB := Lib.hid hI.2.2
            clear hI
            go_wp2_with fail
            refine bodyPost_ret (v := .tuple #[.agg #[.int .i64 0, .slice none 0 0], .int .i64 F]) (by simp [results, Tryd.results21, go_sem, e1, e2]) rfl ?_
            exact Hbad.out W HB.out
      · have hf0 : (r3.fault == 0) = false := by simpa using hf
        have hf1 : (r3.fault != 0) = true := by simpa using hf
        have Hbad := Lib.hid (Hbad.out r3.fault (hrf.out.trans (if_neg hf)) hf)
        have hblt := hD.blt
        generalize r3.rest.length = lr at *
        generalize r3.fault = F at *
        have HS : Hid (Blk w.heap.size (.cells #[.int .i64 0, .slice none 0 0] 33 (0, 0)) w4 ∧ Blk w1.heap.size (.cells #[.slice ar lr cr, .int .i64 F] 87 (0, 0)) w4 ∧ Below w.heap.size w w4) := ⟨hD.res, y1, hD.below⟩
        clear hD y1 Hok hf
        go_wp2_with fail
        obtain ⟨Vp, HV⟩ : ∃ Vp : Nat → Value → World → Prop, Hid (Vp = fun i v W => match i with
            | 0 => v = .agg #[.int .i64 0, .slice none 0 0]
            | 1 => v = .pointer (some ⟨w1.heap.size, 0, none⟩)
            | 2 => v = .pointer (some ⟨w1.heap.size, 0, none⟩)
            | 3 => v = .pointer (some ⟨w1.heap.size, 1, none⟩)
            | 4 => v = .int .i64 F
            | 5 => v = undef
            | _ => v = .int .i64 F) := ⟨_, rfl⟩
        obtain ⟨Ip, HIp⟩ : ∃ Ip : (Nat → Bool) → (Nat → Value) → World → Prop, Hid (Ip = fun L x W => (Blk w.heap.size (.cells #[.int .i64 0, .slice none 0 0] 33 (0, 0)) W ∧ Blk w1.heap.size (.cells #[.slice ar lr cr, .int .i64 F] 87 (0, 0)) W ∧ Below w.heap.size w W)) := ⟨_, rfl⟩
        refine region_lit3 (by kernel_rfl) (by kernel_rfl) (by kernel_rfl) [[], [], [1], [1, 2], [1, 2, 3], [0], [1, 2, 3, 4]] (by kernel_rfl) [some 40, some 41, some 42, some 43, some 44, none, some 3] (by kernel_rfl) [[0, 5], [1, 2, 3, 4, 6], [2, 3, 4, 6], [3, 4, 6], [4, 6], [5], [6]] (by kernel_rfl) [[], [], [], [], [], [], []] [[], [], [1], [2], [3], [0], [4]] (by kernel_rfl)
          Ip
          Vp
          (fun j W W' => match j with
            | 5 => True
            | _ => Below W.heap.size W W')
          [fun x => ⟨#[undef, undef, undef, undef, undef, undef, undef, undef, undef, undef, undef, undef, undef, undef, undef, undef, undef, undef, undef, undef, undef, undef, undef, undef, undef, undef, undef, undef, undef, undef, undef, undef, undef, undef, undef, undef, undef, undef, undef, undef, undef], []⟩,
   fun x => ⟨#[undef, undef, undef, undef, .pointer (some ⟨w1.heap.size, 0, none⟩), undef, undef, undef, undef, undef, undef, undef, undef, undef, undef, undef, undef, undef, undef, undef, undef, undef, undef, undef, undef, undef, undef, undef, undef, undef, undef, undef, undef, undef, undef, undef, undef, undef, undef, undef, undef, undef], []⟩,
   fun x => ⟨#[undef, undef, undef, undef, undef, undef, undef, undef, undef, undef, undef, undef, undef, undef, undef, undef, undef, undef, undef, undef, undef, undef, undef, undef, undef, undef, undef, undef, undef, undef, undef, undef, undef, undef, undef, undef, undef, undef, undef, undef, undef, x 1, undef], []⟩,
   fun x => ⟨#[undef, undef, undef, undef, undef, undef, undef, undef, undef, undef, undef, undef, undef, undef, undef, undef, undef, undef, undef, undef, undef, undef, undef, undef, undef, undef, undef, undef, undef, undef, undef, undef, undef, undef, undef, undef, undef, undef, undef, undef, undef, undef, x 2, undef], []⟩,
   fun x => ⟨#[undef, undef, undef, undef, undef, undef, undef, undef, undef, undef, undef, undef, undef, undef, undef, undef, undef, undef, undef, undef, undef, undef, undef, undef, undef, undef, undef, undef, undef, undef, undef, undef, undef, undef, undef, undef, undef, undef, undef, undef, undef, undef, undef, x 3, undef], []⟩,
   fun x => ⟨#[undef, undef, .pointer (some ⟨w.heap.size, 0, none⟩), undef, undef, undef, undef, undef, undef, undef, undef, undef, undef, undef, undef, undef, undef, undef, undef, undef, undef, undef, undef, undef, undef, undef, undef, undef, undef, undef, undef, undef, undef, undef, undef, undef, undef, undef, undef, undef, x 0], []⟩,
   fun x => ⟨#[undef, undef, undef, undef, undef, undef, undef, undef, undef, undef, undef, undef, undef, undef, undef, undef, undef, undef, undef, undef, undef, undef, undef, undef, undef, undef, undef, undef, undef, undef, undef, undef, undef, undef, undef, undef, undef, undef, undef, undef, undef, undef, undef, undef, x 4], []⟩]
          ?hF ?mono ?h0 ?step [0, 1, 2, 3, 4, 5, 6] (by kernel_rfl) ?fin
        case hF =>
          exact ⟨fun x => ⟨by kernel_rfl, by kernel_rfl⟩, fun x => ⟨by kernel_rfl, by kernel_rfl⟩, fun x => ⟨by kernel_rfl, by kernel_rfl⟩, fun x => ⟨by kernel_rfl, by kernel_rfl⟩, fun x => ⟨by kernel_rfl, by kernel_rfl⟩, fun x => ⟨by kernel_rfl, by kernel_rfl⟩, fun x => ⟨by kernel_rfl, by kernel_rfl⟩, trivial⟩
        case mono =>
          intro i j hi hj hne hna hnk v W W' hE hv
          rw [HV.out] at hv ⊢
          simp only [List.length_cons, List.length_nil] at hi hj
          match i, hi with
          | 0, _ | 1, _ | 2, _ | 3, _ | 4, _ | 5, _ | 6, _ => exact hv
          | m + 7, h => exact absurd h (by omega)
        case h0 => intro x; exact toI HIp ⟨HS.out.1, HS.out.2.1, HS.out.2.2.drew⟩
        case step =>
          refine ⟨?_, ?_, ?_, ?_, ?_, ?_, ?_, trivial⟩
          all_goals
            intro x W L hI hL hV
            replace hI : (Blk w.heap.size (.cells #[.int .i64 0, .slice none 0 0] 33 (0, 0)) W ∧ Blk w1.heap.size (.cells #[.slice ar lr cr, .int .i64 F] 87 (0, 0)) W ∧ Below w.heap.size w W) := ofI HIp hI
            rw [HV.out] at hV
            simp only [AllV, and_true] at hV
          · clear hV
            (try dsimp only)
            have HI := Lib.hid hI
            clear hI
            go_wp2_with fail
            refine step3_done rfl ?_ ?_ ?_
            · exact (toI HIp HI.out)
            · exact (Below.refl _ _)
            · exact (toV HV rfl)
          · clear hV
            (try dsimp only)
            have HI := Lib.hid hI
            clear hI
            go_wp2_with fail
            refine step3_done rfl ?_ ?_ ?_
            · exact (toI HIp HI.out)
            · exact (Below.refl _ _)
            · exact (toV HV rfl)
          · have u1 := hV
            clear hV
            simp only [u1]
            clear u1
            have HI := Lib.hid hI
            clear hI
            go_wp2_with fail
            refine step3_done rfl ?_ ?_ ?_
            · exact (toI HIp HI.out)
            · exact (Below.refl _ _)
            · exact (toV HV rfl)
          · have u2 := hV
            clear hV
            simp only [u2]
            clear u2
            have HI := Lib.hid hI
            clear hI
            go_wp2_with fail
            refine step3_done rfl ?_ ?_ ?_
            · exact (toI HIp HI.out)
            · exact (Below.refl _ _)
            · exact (toV HV rfl)
          · have u3 := hV
            clear hV
            simp only [u3]
            clear u3
            have e1 : W.cell? ⟨w1.heap.size, 1, none⟩ = some (.int .i64 F) := hI.2.1.cell 1
            have HI := Lib.hid hI
            clear hI
            go_wp2_with fail
            refine step3_done rfl ?_ ?_ ?_
            · exact (toI HIp HI.out)
            · exact (Below.refl _ _)
            · exact (toV HV rfl)
          · have u0 := hV
            clear hV
            simp only [u0]
            clear u0
            have e1 : W.cell? ⟨w.heap.size, 0, none⟩ = some (.int .i64 0) := hI.1.cell 0
            have e2 : W.cell? ⟨w.heap.size, 1, none⟩ = some (.slice none 0 0) := hI.1.cell 1
            have e3 : ∀ i, W.frozen? ⟨w.heap.size, i, none⟩ = false := hI.1.frozen
            have hI2 : Blk w.heap.size (.cells #[.int .i64 0, .slice none 0 0] 33 (0, 0)) ((W.setCell ⟨w.heap.size, 0, none⟩ (.int .i64 0)).setCell ⟨w.heap.size, 1, none⟩ (.slice none 0 0)) ∧ Blk w1.heap.size (.cells #[.slice ar lr cr, .int .i64 F] 87 (0, 0)) ((W.setCell ⟨w.heap.size, 0, none⟩ (.int .i64 0)).setCell ⟨w.heap.size, 1, none⟩ (.slice none 0 0)) ∧ Below w.heap.size w ((W.setCell ⟨w.heap.size, 0, none⟩ (.int .i64 0)).setCell ⟨w.heap.size, 1, none⟩ (.slice none 0 0)) :=
              ⟨(hI.1.set 0 _).set 1 _, (hI.2.1.other (by show w.heap.size ≠ w1.heap.size; omega) _).other (by show w.heap.size ≠ w1.heap.size; omega) _, (hI.2.2.setCell (p := ⟨w.heap.size, 0, none⟩) (Nat.le_refl _) _).setCell (p := ⟨w.heap.size, 1, none⟩) (Nat.le_refl _) _⟩
            have HI := Lib.hid hI2
            clear hI hI2
            go_wp2_with fail
            exact step3_done (v := undef) rfl (toI HIp HI.out) trivial (toV HV rfl)
          · have u4 := hV
            clear hV
            simp only [u4]
            clear u4
            have HI := Lib.hid hI
            clear hI
            go_wp2_with fail
            refine step3_done rfl ?_ ?_ ?_
            · exact (toI HIp HI.out)
            · exact (Below.refl _ _)
            · exact (toV HV rfl)
        case fin =>
          intro x W L hL hI hV
          replace hI : (Blk w.heap.size (.cells #[.int .i64 0, .slice none 0 0] 33 (0, 0)) W ∧ Blk w1.heap.size (.cells #[.slice ar lr cr, .int .i64 F] 87 (0, 0)) W ∧ Below w.heap.size w W) := ofI HIp hI
          rw [HV.out] at hV
          simp only [AllV, and_true] at hV
          obtain ⟨u0, u1, u2, u3, u4, u5, u6⟩ := hV
          simp only [getsD, List.getD_cons_succ, List.getD_cons_zero, List.length_cons, List.length_nil, List.range, List.range.loop, u0, u1, u2, u3, u4, u5, u6, Act.put, List.setIfInBounds_toArray, List.set_cons_succ, List.set_cons_zero]
          clear u0 u1 u2 u3 u4 u5 u6
          have e1 : W.cell? ⟨w.heap.size, 0, none⟩ = some (.int .i64 0) := hI.1.cell 0
          have e2 : W.cell? ⟨w.heap.size, 1, none⟩ = some (.slice none 0 0) := hI.1.cell 1
          have HB := Lib.hid hI.2.2
          clear hI
          go_wp2_with fail
          refine bodyPost_ret (v := .tuple #[.agg #[.int .i64 0, .slice none 0 0], .int .i64 F]) (by simp [results, Tryd.results21, go_sem, e1, e2]) rfl ?_
          exact Hbad.out W HB.out
    · have hb0 : ((n1 : Int) == 0) = false := by simp; omega
      obtain ⟨o1, rq⟩ := hpath.2 hn1
      have T2 := Lib.hid t2
      have HE := Lib.hid (end_any w1.heap.size q1 (w2.alloc (.cells #[.int .i64 (n1 : Int), .slice none 0 0] 33)) (q2.go ((Below.refl _ _).alloc (Nat.le_refl _) _)))
      have hD0 := Lib.hid (dst_no (w := w) (n1 := (n1 : Int)) XR.out hwb T2.out)
      clear t2 q2 hpath hn1
      go_wp2_with fail
      refine HE.out.mono ?_
      rintro e w4 ⟨rfl, r4, t4⟩
      have hD := hD0.out w4 t4 q1.done r4
      have hrf : Hid (recFault b = if q1.done.fault = 0 then checkRecord ⟨(n1 : Int), []⟩ else q1.done.fault) := by unfold Hid recFault; rw [o1, rq]
      have hex : I64 (n1 : Int) := by unfold I64; omega
      have Hok : Hid (recFault b = 0 → ∀ a c W, RdS (fun k => w.heap.size ≤ k ∧ k < W.heap.size) W ([] : Op) a ([] : Op).length c → Below w.heap.size w W → RP (.returned (.tuple #[.agg #[.int .i64 (n1 : Int), .slice a ([] : Op).length c], .int .i64 0])) W) := fun h a c W h1 h2 => Hok0.out h _ o1 _ _ _ hex h1 h2
      have Hbad : Hid (∀ F, recFault b = F → F ≠ 0 → ∀ W, Below w.heap.size w W → RP (.returned (.tuple #[.agg #[.int .i64 0, .slice none 0 0], .int .i64 F])) W) := Hbad0.out
      clear r4 t4 hD0 T2 HE Hok0 Hbad0 o1 rq
      obtain ⟨ax, hax⟩ : ∃ ax : Option Addr, ax = none := ⟨_, rfl⟩
      obtain ⟨cx, hcx⟩ : ∃ cx : Nat, cx = 0 := ⟨_, rfl⟩
      rw [← hax, ← hcx] at hD
      clear hax hcx
      generalize q1.done = r3 at *
      generalize ([] : Op) = ox at *
      generalize (n1 : Int) = ex at *
      generalize w2.heap.size = X at *
      obtain ⟨ar, cr, -, y1, -⟩ := hD.rd.ex
      have e1 : w4.cell? ⟨w1.heap.size, 1, none⟩ = some (.int .i64 r3.fault) := y1.cell 1
      by_cases hf : r3.fault = 0
      · have hf0 : (r3.fault == 0) = true := by simpa using hf
        rw [hf] at e1 y1
        have HC := Lib.hid (checkRecord_any ⟨ex, ox⟩ ax ox.length cx w4 (hg.go hD.below) (hD.op.wide fun k hk => hk.2.1) hex)
        have q0 : w4.cell? ⟨X, 0, none⟩ = some (.int .i64 ex) := hD.box.cell 0
        have q1 : w4.cell? ⟨X, 1, none⟩ = some (.slice ax ox.length cx) := hD.box.cell 1
        have HD := Lib.hid hD
        have hblt := hD.blt
        have hxlt := hD.xlt
        have HF := Lib.hid (hrf.out.trans (if_pos hf))
        simp only at HC
        generalize hch : checkRecord ⟨ex, ox⟩ = F at *
        clear hD hch hf
        by_cases hF : F = 0
        · have hFn : (F != 0) = false := by simpa using hF
          subst hF
          have Hok2 := Lib.hid (Hok.out (HF.out))
          clear Hbad Hok HF
          go_wp2_with fail
          refine HC.out.mono ?_
          rintro e w5 ⟨rfl, u5⟩
          have hD5 := HD.out.go u5
          have y5 := y1.go u5
          have g0 : w5.cell? ⟨X, 0, none⟩ = some (.int .i64 ex) := hD5.box.cell 0
          have g1 : w5.cell? ⟨X, 1, none⟩ = some (.slice ax ox.length cx) := hD5.box.cell 1
          have e5 : w5.cell? ⟨w1.heap.size, 1, none⟩ = some (.int .i64 0) := y5.cell 1
          have f5 := y5.frozen 1
          have k0 : w5.cell? ⟨w.heap.size, 0, none⟩ = some (.int .i64 0) := hD5.res.cell 0
          have k1 : w5.cell? ⟨w.heap.size, 1, none⟩ = some (.slice none 0 0) := hD5.res.cell 1
          have k2 : ∀ i, w5.frozen? ⟨w.heap.size, i, none⟩ = false := hD5.res.frozen
          have Hop : Hid (RdS (fun k => w.heap.size ≤ k ∧ k < (((w5.setCell ⟨w1.heap.size, 1, none⟩ (.int .i64 0)).setCell ⟨w.heap.size, 0, none⟩ (.int .i64 ex)).setCell ⟨w.heap.size, 1, none⟩ (.slice ax ox.length cx)).heap.size) (((w5.setCell ⟨w1.heap.size, 1, none⟩ (.int .i64 0)).setCell ⟨w.heap.size, 0, none⟩ (.int .i64 ex)).setCell ⟨w.heap.size, 1, none⟩ (.slice ax ox.length cx)) ox ax ox.length cx ∧ Below w.heap.size w (((w5.setCell ⟨w1.heap.size, 1, none⟩ (.int .i64 0)).setCell ⟨w.heap.size, 0, none⟩ (.int .i64 ex)).setCell ⟨w.heap.size, 1, none⟩ (.slice ax ox.length cx))) := by
            refine ⟨hD5.op.mono fun k hk => ⟨⟨hk.1, by simp; exact hk.2.1⟩, ?_⟩, ((hD5.below.setCell (p := ⟨w1.heap.size, 1, none⟩) (by show w.heap.size ≤ w1.heap.size; omega) _).setCell (p := ⟨w.heap.size, 0, none⟩) (Nat.le_refl _) _).setCell (p := ⟨w.heap.size, 1, none⟩) (Nat.le_refl _) _⟩
            rw [Below.heap_setCell _ _ _ _ (by show k ≠ w.heap.size; exact hk.2.2.2.1), Below.heap_setCell _ _ _ _ (by show k ≠ w.heap.size; exact hk.2.2.2.1), Below.heap_setCell _ _ _ _ (by show k ≠ w1.heap.size; exact hk.2.2.1)]
          clear HC HD hD5 u5 y5 y1 e1 q0 q1
          go_wp2_with fail
          refine bodyPost_ret (v := .tuple #[.agg #[.int .i64 ex, .slice ax ox.length cx], .int .i64 0]) (by simp [results, Tryd.results21, go_sem, k0, k1]) rfl ?_
          exact Hok2.out _ _ _ Hop.out.1 Hop.out.2
        · have hFn : (F != 0) = true := by simpa using hF
          have Hbad := Lib.hid (Hbad.out F HF.out hF)
          clear Hok HF hF
          go_wp2_with fail
          refine HC.out.mono ?_
          rintro e w5 ⟨rfl, u5⟩
          have hD5 := HD.out.go u5
          have y5 := y1.go u5
          have e5 : w5.cell? ⟨w1.heap.size, 1, none⟩ = some (.int .i64 0) := y5.cell 1
          have f5 := y5.frozen 1
          generalize r3.rest.length = lr at *
          have HS : Hid (Blk w.heap.size (.cells #[.int .i64 0, .slice none 0 0] 33 (0, 0)) (w5.setCell ⟨w1.heap.size, 1, none⟩ (.int .i64 F)) ∧ Blk w1.heap.size (.cells #[.slice ar lr cr, .int .i64 F] 87 (0, 0)) (w5.setCell ⟨w1.heap.size, 1, none⟩ (.int .i64 F)) ∧ Below w.heap.size w (w5.setCell ⟨w1.heap.size, 1, none⟩ (.int .i64 F))) :=
            ⟨hD5.res.other (by show w1.heap.size ≠ w.heap.size; omega) _, y5.set 1 _, hD5.below.setCell (p := ⟨w1.heap.size, 1, none⟩) (by show w.heap.size ≤ w1.heap.size; omega) _⟩
          clear HC HD hD5 u5 y5 y1 e1 q0 q1
          go_wp2_with fail
          obtain ⟨Vp, HV⟩ : ∃ Vp : Nat → Value → World → Prop, Hid (Vp = fun i v W => match i with
              | 0 => v = .agg #[.int .i64 0, .slice none 0 0]
              | 1 => v = .pointer (some ⟨w1.heap.size, 0, none⟩)
              | 2 => v = .pointer (some ⟨w1.heap.size, 0, none⟩)
              | 3 => v = .pointer (some ⟨w1.heap.size, 1, none⟩)
              | 4 => v = .int .i64 F
              | 5 => v = undef
              | _ => v = .int .i64 F) := ⟨_, rfl⟩
          obtain ⟨Ip, HIp⟩ : ∃ Ip : (Nat → Bool) → (Nat → Value) → World → Prop, Hid (Ip = fun L x W => (Blk w.heap.size (.cells #[.int .i64 0, .slice none 0 0] 33 (0, 0)) W ∧ Blk w1.heap.size (.cells #[.slice ar lr cr, .int .i64 F] 87 (0, 0)) W ∧ Below w.heap.size w W)) := ⟨_, rfl⟩
          refine region_lit3 (by kernel_rfl) (by kernel_rfl) (by kernel_rfl) [[], [], [1], [1, 2], [1, 2, 3], [0], [1, 2, 3, 4]] (by kernel_rfl) [some 40, some 41, some 42, some 43, some 44, none, some 3] (by kernel_rfl) [[0, 5], [1, 2, 3, 4, 6], [2, 3, 4, 6], [3, 4, 6], [4, 6], [5], [6]] (by kernel_rfl) [[], [], [], [], [], [], []] [[], [], [1], [2], [3], [0], [4]] (by kernel_rfl)
            Ip
            Vp
            (fun j W W' => match j with
              | 5 => True
              | _ => Below W.heap.size W W')
            [fun x => ⟨#[undef, undef, undef, undef, undef, undef, undef, undef, undef, undef, undef, undef, undef, undef, undef, undef, undef, undef, undef, undef, undef, undef, undef, undef, undef, undef, undef, undef, undef, undef, undef, undef, undef, undef, undef, undef, undef, undef, undef, undef, undef], []⟩,
   fun x => ⟨#[undef, undef, undef, undef, .pointer (some ⟨w1.heap.size, 0, none⟩), undef, undef, undef, undef, undef, undef, undef, undef, undef, undef, undef, undef, undef, undef, undef, undef, undef, undef, undef, undef, undef, undef, undef, undef, undef, undef, undef, undef, undef, undef, undef, undef, undef, undef, undef, undef, undef], []⟩,
   fun x => ⟨#[undef, undef, undef, undef, undef, undef, undef, undef, undef, undef, undef, undef, undef, undef, undef, undef, undef, undef, undef, undef, undef, undef, undef, undef, undef, undef, undef, undef, undef, undef, undef, undef, undef, undef, undef, undef, undef, undef, undef, undef, undef, x 1, undef], []⟩,
   fun x => ⟨#[undef, undef, undef, undef, undef, undef, undef, undef, undef, undef, undef, undef, undef, undef, undef, undef, undef, undef, undef, undef, undef, undef, undef, undef, undef, undef, undef, undef, undef, undef, undef, undef, undef, undef, undef, undef, undef, undef, undef, undef, undef, undef, x 2, undef], []⟩,
   fun x => ⟨#[undef, undef, undef, undef, undef, undef, undef, undef, undef, undef, undef, undef, undef, undef, undef, undef, undef, undef, undef, undef, undef, undef, undef, undef, undef, undef, undef, undef, undef, undef, undef, undef, undef, undef, undef, undef, undef, undef, undef, undef, undef, undef, undef, x 3, undef], []⟩,
   fun x => ⟨#[undef, undef, .pointer (some ⟨w.heap.size, 0, none⟩), undef, undef, undef, undef, undef, undef, undef, undef, undef, undef, undef, undef, undef, undef, undef, undef, undef, undef, undef, undef, undef, undef, undef, undef, undef, undef, undef, undef, undef, undef, undef, undef, undef, undef, undef, undef, undef, x 0], []⟩,
   fun x => ⟨#[undef, undef, undef, undef, undef, undef, undef, undef, undef, undef, undef, undef, undef, undef, undef, undef, undef, undef, undef, undef, undef, undef, undef, undef, undef, undef, undef, undef, undef, undef, undef, undef, undef, undef, undef, undef, undef, undef, undef, undef, undef, undef, undef, undef, x 4], []⟩]
            ?hF ?mono ?h0 ?step [0, 1, 2, 3, 4, 5, 6] (by kernel_rfl) ?fin
          case hF =>
            exact ⟨fun x => ⟨by kernel_rfl, by kernel_rfl⟩, fun x => ⟨by kernel_rfl, by kernel_rfl⟩, fun x => ⟨by kernel_rfl, by kernel_rfl⟩, fun x => ⟨by kernel_rfl, by kernel_rfl⟩, fun x => ⟨by kernel_rfl, by kernel_rfl⟩, fun x => ⟨by kernel_rfl, by kernel_rfl⟩, fun x => ⟨by kernel_rfl, by kernel_rfl⟩, trivial⟩
          case mono =>
            intro i j hi hj hne hna hnk v W W' hE hv
            rw [HV.out] at hv ⊢
            simp only [List.length_cons, List.length_nil] at hi hj
            match i, hi with
            | 0, _ | 1, _ | 2, _ | 3, _ | 4, _ | 5, _ | 6, _ => exact hv
            | m + 7, h => exact absurd h (by omega)
          case h0 => intro x; exact toI HIp ⟨HS.out.1, HS.out.2.1, HS.out.2.2.drew⟩
          case step =>
            refine ⟨?_, ?_, ?_, ?_, ?_, ?_, ?_, trivial⟩
            all_goals
              intro x W L hI hL hV
              replace hI : (Blk w.heap.size (.cells #[.int .i64 0, .slice none 0 0] 33 (0, 0)) W ∧ Blk w1.heap.size (.cells #[.slice ar lr cr, .int .i64 F] 87 (0, 0)) W ∧ Below w.heap.size w W) := ofI HIp hI
              rw [HV.out] at hV
              simp only [AllV, and_true] at hV
            · clear hV
              (try dsimp only)
              have HI := Lib.hid hI
              clear hI
              go_wp2_with fail
              refine step3_done rfl ?_ ?_ ?_
              · exact (toI HIp HI.out)
              · exact (Below.refl _ _)
              · exact (toV HV rfl)
            · clear hV
              (try dsimp only)
              have HI := Lib.hid hI
              clear hI
              go_wp2_with fail
              refine step3_done rfl ?_ ?_ ?_
              · exact (toI HIp HI.out)
              · exact (Below.refl _ _)
              · exact (toV HV rfl)
            · have u1 := hV
              clear hV
              simp only [u1]
              clear u1
              have HI := Lib.hid hI
              clear hI
              go_wp2_with fail
              refine step3_done rfl ?_ ?_ ?_
              · exact (toI HIp HI.out)
              · exact (Below.refl _ _)
              · exact (toV HV rfl)
            · have u2 := hV
              clear hV
              simp only [u2]
              clear u2
              have HI := Lib.hid hI
              clear hI
              go_wp2_with fail
              refine step3_done rfl ?_ ?_ ?_
              · exact (toI HIp HI.out)
              · exact (Below.refl _ _)
              · exact (toV HV rfl)
            · have u3 := hV
              clear hV
              simp only [u3]
              clear u3
              have e1 : W.cell? ⟨w1.heap.size, 1, none⟩ = some (.int .i64 F) := hI.2.1.cell 1
              have HI := Lib.hid hI
              clear hI
              go_wp2_with fail
              refine step3_done rfl ?_ ?_ ?_
              · exact (toI HIp HI.out)
              · exact (Below.refl _ _)
              · exact (toV HV rfl)
            · have u0 := hV
              clear hV
              simp only [u0]
              clear u0
              have e1 : W.cell? ⟨w.heap.size, 0, none⟩ = some (.int .i64 0) := hI.1.cell 0
              have e2 : W.cell? ⟨w.heap.size, 1, none⟩ = some (.slice none 0 0) := hI.1.cell 1
              have e3 : ∀ i, W.frozen? ⟨w.heap.size, i, none⟩ = false := hI.1.frozen
              have hI2 : Blk w.heap.size (.cells #[.int .i64 0, .slice none 0 0] 33 (0, 0)) ((W.setCell ⟨w.heap.size, 0, none⟩ (.int .i64 0)).setCell ⟨w.heap.size, 1, none⟩ (.slice none 0 0)) ∧ Blk w1.heap.size (.cells #[.slice ar lr cr, .int .i64 F] 87 (0, 0)) ((W.setCell ⟨w.heap.size, 0, none⟩ (.int .i64 0)).setCell ⟨w.heap.size, 1, none⟩ (.slice none 0 0)) ∧ Below w.heap.size w ((W.setCell ⟨w.heap.size, 0, none⟩ (.int .i64 0)).setCell ⟨w.heap.size, 1, none⟩ (.slice none 0 0)) :=
                ⟨(hI.1.set 0 _).set 1 _, (hI.2.1.other (by show w.heap.size ≠ w1.heap.size; omega) _).other (by show w.heap.size ≠ w1.heap.size; omega) _, (hI.2.2.setCell (p := ⟨w.heap.size, 0, none⟩) (Nat.le_refl _) _).setCell (p := ⟨w.heap.size, 1, none⟩) (Nat.le_refl _) _⟩
              have HI := Lib.hid hI2
              clear hI hI2
              go_wp2_with fail
              exact step3_done (v := undef) rfl (toI HIp HI.out) trivial (toV HV rfl)
            · have u4 := hV
              clear hV
              simp only [u4]
              clear u4
              have HI := Lib.hid hI
              clear hI
              go_wp2_with fail
              refine step3_done rfl ?_ ?_ ?_
              · exact (toI HIp HI.out)
              · exact (Below.refl _ _)
              · exact (toV HV rfl)
          case fin =>
            intro x W L hL hI hV
            replace hI : (Blk w.heap.size (.cells #[.int .i64 0, .slice none 0 0] 33 (0, 0)) W ∧ Blk w1.heap.size (.cells #[.slice ar lr cr, .int .i64 F] 87 (0, 0)) W ∧ Below w.heap.size w W) := ofI HIp hI
            rw [HV.out] at hV
            simp only [AllV, and_true] at hV
            obtain ⟨u0, u1, u2, u3, u4, u5, u6⟩ := hV
            simp only [getsD, List.getD_cons_succ, List.getD_cons_zero, List.length_cons, List.length_nil, List.range, List.range.loop, u0, u1, u2, u3, u4, u5, u6, Act.put, List.setIfInBounds_toArray, List.set_cons_succ, List.set_cons_zero]
            clear u0 u1 u2 u3 u4 u5 u6
            have e1 : W.cell? ⟨w.heap.size, 0, none⟩ = some (.int .i64 0) := hI.1.cell 0
            have e2 : W.cell? ⟨w.heap.size, 1, none⟩ = some (.slice none 0 0) := hI.1.cell 1
            have HB := Lib.hid hI.2.2
            clear hI
            go_wp2_with fail
            refine bodyPost_ret (v := .tuple #[.agg #[.int .i64 0, .slice none 0 0], .int .i64 F]) (by simp [results, Tryd.results21, go_sem, e1, e2]) rfl ?_
            exact Hbad.out W HB.out
      · have hf0 : (r3.fault == 0) = false := by simpa using hf
        have hf1 : (r3.fault != 0) = true := by simpa using hf
        have Hbad := Lib.hid (Hbad.out r3.fault (hrf.out.trans (if_neg hf)) hf)
        have hblt := hD.blt
        generalize r3.rest.length = lr at *
        generalize r3.fault = F at *
        have HS : Hid (Blk w.heap.size (.cells #[.int .i64 0, .slice none 0 0] 33 (0, 0)) w4 ∧ Blk w1.heap.size (.cells #[.slice ar lr cr, .int .i64 F] 87 (0, 0)) w4 ∧ Below w.heap.size w w4) := ⟨hD.res, y1, hD.below⟩
        clear hD y1 Hok hf
        go_wp2_with fail
        obtain ⟨Vp, HV⟩ : ∃ Vp : Nat → Value → World → Prop, Hid (Vp = fun i v W => match i with
            | 0 => v = .agg #[.int .i64 0, .slice none 0 0]
            | 1 => v = .pointer (some ⟨w1.heap.size, 0, none⟩)
            | 2 => v = .pointer (some ⟨w1.heap.size, 0, none⟩)
            | 3 => v = .pointer (some ⟨w1.heap.size, 1, none⟩)
            | 4 => v = .int .i64 F
            | 5 => v = undef
            | _ => v = .int .i64 F) := ⟨_, rfl⟩
        obtain ⟨Ip, HIp⟩ : ∃ Ip : (Nat → Bool) → (Nat → Value) → World → Prop, Hid (Ip = fun L x W => (Blk w.heap.size (.cells #[.int .i64 0, .slice none 0 0] 33 (0, 0)) W ∧ Blk w1.heap.size (.cells #[.slice ar lr cr, .int .i64 F] 87 (0, 0)) W ∧ Below w.heap.size w W)) := ⟨_, rfl⟩
        refine region_lit3 (by kernel_rfl) (by kernel_rfl) (by kernel_rfl) [[], [], [1], [1, 2], [1, 2, 3], [0], [1, 2, 3, 4]] (by kernel_rfl) [some 40, some 41, some 42, some 43, some 44, none, some 3] (by kernel_rfl) [[0, 5], [1, 2, 3, 4, 6], [2, 3, 4, 6], [3, 4, 6], [4, 6], [5], [6]] (by kernel_rfl) [[], [], [], [], [], [], []] [[], [], [1], [2], [3], [0], [4]] (by kernel_rfl)
          Ip
          Vp
          (fun j W W' => match j with
            | 5 => True
            | _ => Below W.heap.size W W')
          [fun x => ⟨#[undef, undef, undef, undef, undef, undef, undef, undef, undef, undef, undef, undef, undef, undef, undef, undef, undef, undef, undef, undef, undef, undef, undef, undef, undef, undef, undef, undef, undef, undef, undef, undef, undef, undef, undef, undef, undef, undef, undef, undef, undef], []⟩,
   fun x => ⟨#[undef, undef, undef, undef, .pointer (some ⟨w1.heap.size, 0, none⟩), undef, undef, undef, undef, undef, undef, undef, undef, undef, undef, undef, undef, undef, undef, undef, undef, undef, undef, undef, undef, undef, undef, undef, undef, undef, undef, undef, undef, undef, undef, undef, undef, undef, undef, undef, undef, undef], []⟩,
   fun x => ⟨#[undef, undef, undef, undef, undef, undef, undef, undef, undef, undef, undef, undef, undef, undef, undef, undef, undef, undef, undef, undef, undef, undef, undef, undef, undef, undef, undef, undef, undef, undef, undef, undef, undef, undef, undef, undef, undef, undef, undef, undef, undef, x 1, undef], []⟩,
   fun x => ⟨#[undef, undef, undef, undef, undef, undef, undef, undef, undef, undef, undef, undef, undef, undef, undef, undef, undef, undef, undef, undef, undef, undef, undef, undef, undef, undef, undef, undef, undef, undef, undef, undef, undef, undef, undef, undef, undef, undef, undef, undef, undef, undef, x 2, undef], []⟩,
   fun x => ⟨#[undef, undef, undef, undef, undef, undef, undef, undef, undef, undef, undef, undef, undef, undef, undef, undef, undef, undef, undef, undef, undef, undef, undef, undef, undef, undef, undef, undef, undef, undef, undef, undef, undef, undef, undef, undef, undef, undef, undef, undef, undef, undef, undef, x 3, undef], []⟩,
   fun x => ⟨#[undef, undef, .pointer (some ⟨w.heap.size, 0, none⟩), undef, undef, undef, undef, undef, undef, undef, undef, undef, undef, undef, undef, undef, undef, undef, undef, undef, undef, undef, undef, undef, undef, undef, undef, undef, undef, undef, undef, undef, undef, undef, undef, undef, undef, undef, undef, undef, x 0], []⟩,
   fun x => ⟨#[undef, undef, undef, undef, undef, undef, undef, undef, undef, undef, undef, undef, undef, undef, undef, undef, undef, undef, undef, undef, undef, undef, undef, undef, undef, undef, undef, undef, undef, undef, undef, undef, undef, undef, undef, undef, undef, undef, undef, undef, undef, undef, undef, undef, x 4], []⟩]
          ?hF ?mono ?h0 ?step [0, 1, 2, 3, 4, 5, 6] (by kernel_rfl) ?fin
        case hF =>
          exact ⟨fun x => ⟨by kernel_rfl, by kernel_rfl⟩, fun x => ⟨by kernel_rfl, by kernel_rfl⟩, fun x => ⟨by kernel_rfl, by kernel_rfl⟩, fun x => ⟨by kernel_rfl, by kernel_rfl⟩, fun x => ⟨by kernel_rfl, by kernel_rfl⟩, fun x => ⟨by kernel_rfl, by kernel_rfl⟩, fun x => ⟨by kernel_rfl, by kernel_rfl⟩, trivial⟩
        case mono =>
          intro i j hi hj hne hna hnk v W W' hE hv
          rw [HV.out] at hv ⊢
          simp only [List.length_cons, List.length_nil] at hi hj
          match i, hi with
          | 0, _ | 1, _ | 2, _ | 3, _ | 4, _ | 5, _ | 6, _ => exact hv
          | m + 7, h => exact absurd h (by omega)
        case h0 => intro x; exact toI HIp ⟨HS.out.1, HS.out.2.1, HS.out.2.2.drew⟩
        case step =>
          refine ⟨?_, ?_, ?_, ?_, ?_, ?_, ?_, trivial⟩
          all_goals
            intro x W L hI hL hV
            replace hI : (Blk w.heap.size (.cells #[.int .i64 0, .slice none 0 0] 33 (0, 0)) W ∧ Blk w1.heap.size (.cells #[.slice ar lr cr, .int .i64 F] 87 (0, 0)) W ∧ Below w.heap.size w W) := ofI HIp hI
            rw [HV.out] at hV
            simp only [AllV, and_true] at hV
          · clear hV
            (try dsimp only)
            have HI := Lib.hid hI
            clear hI
            go_wp2_with fail
            refine step3_done rfl ?_ ?_ ?_
            · exact (toI HIp HI.out)
            · exact (Below.refl _ _)
            · exact (toV HV rfl)
          · clear hV
            (try dsimp only)
            have HI := Lib.hid hI
            clear hI
            go_wp2_with fail
            refine step3_done rfl ?_ ?_ ?_
            · exact (toI HIp HI.out)
            · exact (Below.refl _ _)
            · exact (toV HV rfl)
          · have u1 := hV
            clear hV
            simp only [u1]
            clear u1
            have HI := Lib.hid hI
            clear hI
            go_wp2_with fail
            refine step3_done rfl ?_ ?_ ?_
            · exact (toI HIp HI.out)
            · exact (Below.refl _ _)
            · exact (toV HV rfl)
          · have u2 := hV
            clear hV
            simp only [u2]
            clear u2
            have HI := Lib.hid hI
            clear hI
            go_wp2_with fail
            refine step3_done rfl ?_ ?_ ?_
            · exact (toI HIp HI.out)
            · exact (Below.refl _ _)
            · exact (toV HV rfl)
          · have u3 := hV
            clear hV
            simp only [u3]
            clear u3
            have e1 : W.cell? ⟨w1.heap.size, 1, none⟩ = some (.int .i64 F) := hI.2.1.cell 1
            have HI := Lib.hid hI
            clear hI
            go_wp2_with fail
            refine step3_done rfl ?_ ?_ ?_
            · exact (toI HIp HI.out)
            · exact (Below.refl _ _)
            · exact (toV HV rfl)
          · have u0 := hV
            clear hV
            simp only [u0]
            clear u0
            have e1 : W.cell? ⟨w.heap.size, 0, none⟩ = some (.int .i64 0) := hI.1.cell 0
            have e2 : W.cell? ⟨w.heap.size, 1, none⟩ = some (.slice none 0 0) := hI.1.cell 1
            have e3 : ∀ i, W.frozen? ⟨w.heap.size, i, none⟩ = false := hI.1.frozen
            have hI2 : Blk w.heap.size (.cells #[.int .i64 0, .slice none 0 0] 33 (0, 0)) ((W.setCell ⟨w.heap.size, 0, none⟩ (.int .i64 0)).setCell ⟨w.heap.size, 1, none⟩ (.slice none 0 0)) ∧ Blk w1.heap.size (.cells #[.slice ar lr cr, .int .i64 F] 87 (0, 0)) ((W.setCell ⟨w.heap.size, 0, none⟩ (.int .i64 0)).setCell ⟨w.heap.size, 1, none⟩ (.slice none 0 0)) ∧ Below w.heap.size w ((W.setCell ⟨w.heap.size, 0, none⟩ (.int .i64 0)).setCell ⟨w.heap.size, 1, none⟩ (.slice none 0 0)) :=
              ⟨(hI.1.set 0 _).set 1 _, (hI.2.1.other (by show w.heap.size ≠ w1.heap.size; omega) _).other (by show w.heap.size ≠ w1.heap.size; omega) _, (hI.2.2.setCell (p := ⟨w.heap.size, 0, none⟩) (Nat.le_refl _) _).setCell (p := ⟨w.heap.size, 1, none⟩) (Nat.le_refl _) _⟩
            have HI := Lib.hid hI2
            clear hI hI2
            go_wp2_with fail
            exact step3_done (v := undef) rfl (toI HIp HI.out) trivial (toV HV rfl)
          · have u4 := hV
            clear hV
            simp only [u4]
            clear u4
            have HI := Lib.hid hI
            clear hI
            go_wp2_with fail
            refine step3_done rfl ?_ ?_ ?_
            · exact (toI HIp HI.out)
            · exact (Below.refl _ _)
            · exact (toV HV rfl)
        case fin =>
          intro x W L hL hI hV
          replace hI : (Blk w.heap.size (.cells #[.int .i64 0, .slice none 0 0] 33 (0, 0)) W ∧ Blk w1.heap.size (.cells #[.slice ar lr cr, .int .i64 F] 87 (0, 0)) W ∧ Below w.heap.size w W) := ofI HIp hI
          rw [HV.out] at hV
          simp only [AllV, and_true] at hV
          obtain ⟨u0, u1, u2, u3, u4, u5, u6⟩ := hV
          simp only [getsD, List.getD_cons_succ, List.getD_cons_zero, List.length_cons, List.length_nil, List.range, List.range.loop, u0, u1, u2, u3, u4, u5, u6, Act.put, List.setIfInBounds_toArray, List.set_cons_succ, List.set_cons_zero]
          clear u0 u1 u2 u3 u4 u5 u6
          have e1 : W.cell? ⟨w.heap.size, 0, none⟩ = some (.int .i64 0) := hI.1.cell 0
          have e2 : W.cell? ⟨w.heap.size, 1, none⟩ = some (.slice none 0 0) := hI.1.cell 1
          have HB := Lib.hid hI.2.2
          clear hI
          go_wp2_with fail
          refine bodyPost_ret (v := .tuple #[.agg #[.int .i64 0, .slice none 0 0], .int .i64 F]) (by simp [results, Tryd.results21, go_sem, e1, e2]) rfl ?_
          exact Hbad.out W HB.out
end Go.Proofs.YtdbdhpjjndhjiaaDoor
