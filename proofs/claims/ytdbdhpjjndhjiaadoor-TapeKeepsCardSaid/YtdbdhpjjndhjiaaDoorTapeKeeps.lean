/- The walk of TapeKeeps. -/
import Derived.Test.YtdbdhpjjndhjiaaDoorFirst
set_option linter.unusedSimpArgs false
namespace Go.Proofs.YtdbdhpjjndhjiaaDoor
open Go.RowKit

theorem offR_mono (rs : List Rec) {i j : Nat} (h : i ≤ j) : offR rs i ≤ offR rs j := by
  have e : rs.take j = rs.take i ++ (rs.take j).drop i := by
    have h1 := (List.take_append_drop i (rs.take j)).symm
    rw [List.take_take, Nat.min_eq_left h] at h1
    exact h1
  unfold offR
  rw [e, tapeB_app, List.length_append]; omega
/-- a list that reads below a block -/
def RdB {α : Type} [Rep α] (B : Nat) (W : World) (l : List α) (a : Option Addr) (n c : Nat) : Prop := B ≤ W.heap.size ∧ RdS (fun b => b < B) W l a n c
theorem RdB.go {α : Type} [Rep α] {B : Nat} {W W' : World} {l : List α} {a : Option Addr} {n c : Nat} (h : RdB B W l a n c) (hb : Below W.heap.size W W') : RdB B W' l a n c :=
  ⟨Nat.le_trans h.1 hb.size, h.2.mono fun b k => ⟨k, hb.block b (Nat.lt_of_lt_of_le k h.1)⟩⟩
theorem append_next (rs : List Rec) (hrs : ∀ r ∈ rs, checkRecord r = 0 ∧ I64 r.epoch) (j : Nat) (hj : j < rs.length) (s : Int) (h0 : 0 ≤ s) (h1 : s ≤ (offR rs j : Nat)) (hl : offR rs (j + 1) ≤ 8000000) (a xa : Option Addr) (c xn xc : Nat) (w : World) (hg : Good w) (hr : RdS (· < w.heap.size) w (tapeB (rs.take j)) a (offR rs j) c) (hx : RdS (· < w.heap.size) w rs[j].op xa xn xc) :
    Calls Tryd.prog 17 #[.agg #[.slice a (offR rs j) c, .int .i64 s], .agg #[.int .i64 rs[j].epoch, .slice xa xn xc]] w fun e w' => ∃ (a' : Option Addr) (c' : Nat), e = .returned (.tuple #[.agg #[.slice a' (offR rs (j + 1)) c', .int .i64 s], .int .i64 0]) ∧ RdS (fun b => w.heap.size ≤ b ∧ b < w'.heap.size) w' (tapeB (rs.take (j + 1))) a' (offR rs (j + 1)) c' ∧ Below w.heap.size w w' := by
  have hx0 := hrs rs[j] (List.getElem_mem hj)
  have hn := offR_next rs j hj
  have e := tapeB_next rs j hj
  refine (append_ok (tapeB (rs.take j)) s rs[j] a xa c xn xc w hg hr h0 h1 hx hx0.1 hx0.2 (by unfold offR at hn hl; omega)).mono ?_
  rintro _ w' ⟨v, rfl, a', c', rfl, _, h3, h4⟩
  refine ⟨a', c', ?_, ?_, h4⟩
  · rw [← e]; rfl
  · rw [← e] at h3; exact h3
set_option maxRecDepth 100000 in
set_option maxHeartbeats 6000000 in
theorem tapeKeeps_walk (w : World) (hg : Good w) (a1 : Option Addr) (n1 c1 : Nat) (l1 : List Raw) (r1 : RdS (· < w.heap.size) w l1 a1 n1 c1) (x y : Int) (hx : I64 x) (hy : I64 y) :
    Calls Tryd.prog 12 #[.slice a1 n1 c1, .int .i64 x, .int .i64 y] w fun e w' => e = .returned (.bool true) ∧ Below w.heap.size w w' := by
  have hn1 := r1.1
  have HRc := Lib.hid (fun W (u : Below w.heap.size w W) => records_any l1 a1 n1 c1 25 W (r1.go u) (by omega))
  rw [show ((25 : Nat) : Int) = 25 from rfl] at HRc
  have hrs := recsOf_ok l1 (min n1 25) (by omega)
  have hlen : min n1 25 = (recsOf l1 (min n1 25)).length := (recsOf_len l1 _).symm
  have hK : min n1 25 ≤ 25 := by omega
  have Hrs := Lib.hid hrs
  have Hlen := Lib.hid hlen
  have g0 := Lib.hid hg
  have HG := Lib.hid hg
  have B0 := Lib.hid (Below.refl w.heap.size w)
  clear hg r1 hn1 hrs hlen
  generalize recsOf l1 (min n1 25) = rs at *
  generalize min n1 25 = K at *
  have htl : (tapeB rs).length ≤ 1000325 := by have := tapeB_len rs (fun r hr => (Hrs.out r hr).1); have := Hlen.out; omega
  have rx := pk_range x ((K : Int) + 1) (by omega)
  have HX := Lib.hid (fun W => picked_any x ((K : Int) + 1) W hx (by omega) (by omega))
  generalize pk x ((K : Int) + 1) = kk at *
  obtain ⟨k, rfl⟩ : ∃ k : Nat, kk = k := ⟨kk.toNat, by omega⟩
  have hkK : k ≤ K := by omega
  have ry := pk_range y 200 (by omega)
  have HY := Lib.hid (fun W => picked_any y 200 W hy (by omega) (by omega))
  generalize pk y 200 = keep at *
  have hNt : offR rs k ≤ (tapeB rs).length := offR_le rs k
  have Hle := Lib.hid (offR_le rs)
  have Hmo := Lib.hid (fun i j (h : i ≤ j) => offR_mono rs h)
  have Hnx := Lib.hid (offR_next rs)
  have Hall := Lib.hid (offR_all rs)
  obtain ⟨m, hm⟩ : ∃ m : Nat, (m : Int) = (offR rs k : Nat) + min keep ((tapeB rs).length - (offR rs k : Nat)) := ⟨((offR rs k : Nat) + min keep ((tapeB rs).length - (offR rs k : Nat)) : Int).toNat, by omega⟩
  have hml : m ≤ (tapeB rs).length := by omega
  have hmk : offR rs k ≤ m := by omega
  have HT := Lib.hid (fun a c W hg hr => taped_ok (rs.take k) a k c W hg hr (by omega) (fun r hr => Hrs.out r (List.mem_of_mem_take hr)))
  rw [show (tapeB (rs.take k)).length = offR rs k from rfl] at HT
  have HSy : Hid (∀ (B : Nat) (a : Option Addr) (c : Nat) (W : World), B < W.heap.size → RdS (· < W.heap.size) W (tapeB (rs.take k)) a (offR rs k) c → Calls Tryd.prog 30 #[.agg #[.slice a (offR rs k) c, .int .i64 0]] W fun e w' => ∃ a' c', e = .returned (.tuple #[.agg #[.slice a' (offR rs k) c', .int .i64 (offR rs k : Nat)], .int .i64 0]) ∧ RdS (fun b => b ≠ B ∧ b < w'.heap.size) w' (tapeB (rs.take k)) a' (offR rs k) c' ∧ Below W.heap.size W w') :=
    fun B a c W hB hr => (sync_ok (tapeB (rs.take k)) 0 (offR rs k) a c W rfl hr (by omega) (by omega) (by omega)).mono fun e w' ⟨a', c', h1, h2, h3⟩ => ⟨a', c', h1, h2.mono fun b hb => ⟨⟨by have := hb.1; omega, hb.2⟩, rfl⟩, h3⟩
  have HA := Lib.hid (fun j (hj : j < rs.length) h1 hl a xa c xn xc W hg hr hx => append_next rs Hrs.out j hj (offR rs k : Nat) (by omega) h1 hl a xa c xn xc W hg hr hx)
  have HC := Lib.hid (fun a c W hr => crash_new (tapeB rs) (offR rs k : Nat) keep m a c W hr (by omega) (by omega) (by omega) (by omega) (by omega) hm)
  have HR := Lib.hid (fun a c W hg hr => recover_ok rs Hrs.out (by have := Hlen.out; omega) m hml m (by omega) (by omega) a c W hg hr)
  have HB := Lib.hid (fun j (hj : j ≤ rs.length) a1 a2 n1 c1 n2 c2 W h1 h2 => begins_ok (rs.take j) rs (by rw [List.length_take]; omega) (fun k h h2 => by simp) a1 a2 n1 c1 n2 c2 W h1 h2)
  have Hm := Lib.hid hm
  clear hm hx hy
  go_enter Tryd.func12, Tryd.ntmps12
  go_wp2_with fail
  refine (HRc.out _ (Below.refl _ _)).mono ?_
  rintro e w1 ⟨ar, cr, rfl, rr, hb⟩
  have B1 := Lib.hid (up B0.out hb)
  have g1 := Lib.hid (g0.out.below' hb)
  have rr1 := Lib.hid rr
  clear B0 g0 hb rr
  go_wp2_with fail
  refine (HX.out _).mono ?_
  rintro e W' ⟨rfl, rfl⟩
  have hcr := rr1.out.2.1
  have i1 : (0 : Int) ≤ (k : Int) := by omega
  have i2 : (k : Int) ≤ (cr : Int) := by omega
  have hal : Option.map (fun x : Addr => x.add 0) ar = ar := by cases ar <;> simp [Addr.add]
  go_wp2_with fail
  refine (HT.out _ _ _ g1.out ((rr1.out.upto k hkK).cap)).mono ?_
  rintro e w2 ⟨a7, c7, rfl, rt, hb⟩
  have B2 := Lib.hid (up B1.out hb)
  have g2 := Lib.hid (g1.out.below' hb)
  have rr2 := Lib.hid (rr1.out.go hb)
  have rt2 := Lib.hid rt
  clear B1 g1 rr1 hb rt
  have HW2 := Lib.hid B2.out.size
  go_wp2_with fail
  refine abs_run (fun W => Below w2.heap.size w2 W ∧ Blk w2.heap.size (.cells #[.slice a7 (offR rs k) c7, .int .i64 0] 27 (0, 0)) W ∧ RdB w2.heap.size W rs ar K cr) ⟨(by (repeat (first | exact Below.refl _ _ | assumption | (refine Below.drew ?_) | (refine below_drewN ?_ _) | (refine Below.alloc ?_ (by first | (simp; done) | (simp; omega) | omega) _) | (refine Below.setCell ?_ (by first | (simp; done) | (simp; omega) | omega) _) | (refine Below.trans ?_ (Below.mono (by assumption) (by first | (simp; done) | (simp; omega) | omega)))))), Blk.new w2 _, ⟨by simp, rr2.out.mono fun b hb => ⟨hb, ((Below.refl _ _).alloc (Nat.le_refl _) _).block b hb⟩⟩⟩ ?_
  rintro w3 ⟨hb, bt, rb⟩
  have B3 := Lib.hid (up B2.out hb)
  have g3 := Lib.hid (g2.out.below' hb)
  have rr3 := Lib.hid (rr2.out.go hb)
  have rt3 := Lib.hid (rt2.out.go hb)
  have bt3 := Lib.hid bt
  have rb3 := Lib.hid rb
  clear B2 g2 rr2 rt2 hb bt rb
  refine (HSy.out w2.heap.size _ _ _ bt3.out.lt rt3.out).mono ?_
  rintro e w4 ⟨a8, c8, rfl, rs8, hb⟩
  have B4 := Lib.hid (up B3.out hb)
  have g4 := Lib.hid (g3.out.below' hb)
  have rr4 := Lib.hid (rr3.out.go hb)
  have rt4 := Lib.hid (rt3.out.go hb)
  have bt4 := Lib.hid (bt3.out.go hb)
  have rb4 := Lib.hid (rb3.out.go hb)
  clear B3 g3 rr3 rt3 bt3 rb3 hb
  have T9 := bt4.out.lt
  have HR8 := Lib.hid rs8
  clear rs8 hal
  have q0 := bt4.out.cell 0
  have q1 := bt4.out.cell 1
  simp only [List.getElem?_toArray, List.getElem?_cons_zero, List.getElem?_cons_succ] at q0 q1
  have q2 := bt4.out.frozen
  obtain ⟨as_, has⟩ : ∃ a, (if cr = k then ar else Option.map (fun x : Addr => x.add (k * 2)) ar) = a := ⟨_, rfl⟩
  go_wp2_with fail
  refine abs_w (fun W => Blk w2.heap.size (.cells #[.slice a8 (offR rs k) c8, .int .i64 (offR rs k : Nat)] 27 (0, 0)) W ∧ RdS (fun b => b ≠ w2.heap.size ∧ b < W.heap.size) W (tapeB (rs.take k)) a8 (offR rs k) c8 ∧ RdB w2.heap.size W rs ar K cr ∧ Below w.heap.size w W)
    ⟨(bt4.out.set 0 _).set 1 _, ?_, ?_, ?_⟩ ?_
  · refine HR8.out.mono fun b hb => ⟨⟨hb.1, by simpa using hb.2⟩, ?_⟩
    rw [Below.heap_setCell _ _ _ _ hb.1, Below.heap_setCell _ _ _ _ hb.1]
  · refine ⟨by simp; omega, rb4.out.2.mono fun b hb => ⟨hb, ?_⟩⟩
    rw [Below.heap_setCell _ _ _ _ (by show b ≠ w2.heap.size; omega), Below.heap_setCell _ _ _ _ (by show b ≠ w2.heap.size; omega)]
  · exact (B4.out.setCell (p := ⟨w2.heap.size, 0, none⟩) (by show w.heap.size ≤ w2.heap.size; exact HW2.out) _).setCell (p := ⟨w2.heap.size, 1, none⟩) (by show w.heap.size ≤ w2.heap.size; exact HW2.out) _
  rintro w5 H5
  have H5 := Lib.hid H5
  clear q0 q1 q2 HR8 bt4 rb4 rr4 rt4 B4 HT HSy HRc HX T9
  clear g4
  go_loopw [48] (fun i wr => ∃ q : Nat, q ≤ K - k ∧ i = .int .i64 q ∧ ∃ ax cx, Blk w2.heap.size (.cells #[.slice ax (offR rs (k + q)) cx, .int .i64 (offR rs k : Nat)] 27 (0, 0)) wr ∧ RdS (fun b => b ≠ w2.heap.size ∧ b < wr.heap.size) wr (tapeB (rs.take (k + q))) ax (offR rs (k + q)) cx ∧ RdB w2.heap.size wr rs ar K cr ∧ Below w.heap.size w wr) (fun i _ => (K - k) - (intOf i).toNat)
  case atStart => exact ⟨0, by omega, rfl, a8, c8, H5.out⟩
  case round =>
    obtain ⟨q, hq, rfl, ax, cx, bt, rx, rb, hb⟩ := hrel
    clear H5
    by_cases hlt : q < K - k
    · have hjK : k + q < K := by omega
      have hjl : k + q < rs.length := by have := Hlen.out; omega
      obtain ⟨b, off, rfl, hAb, hbs, hcs⟩ := rb.2.recs (by omega)
      have hcrk : ¬ cr = k := by omega
      have has2 : as_ = some ⟨b, off + k * 2, none⟩ := by
        rw [← has, if_neg hcrk]
        simp only [Option.map_some, Addr.add]
        by_cases h0 : k = 0
        · subst h0; simp
        · rw [if_neg (by omega)]
      obtain ⟨xa, xn, xc, x1, hx, d0, d1⟩ := hcs (k + q) hjl
      rw [show off + (k + q) * 2 = off + k * 2 + q * 2 from by omega] at d0 d1
      have hx2 : RdS (· < wr.heap.size) wr rs[k + q].op xa xn xc := hx.mono fun b hb => ⟨Nat.lt_of_lt_of_le hb rb.1, rfl⟩
      have e0 : wr.cell? ⟨w2.heap.size, 0, none⟩ = some (.slice ax (offR rs (k + q)) cx) := bt.cell 0
      have e1 : wr.cell? ⟨w2.heap.size, 1, none⟩ = some (.int .i64 (offR rs k : Nat)) := bt.cell 1
      have z0 := bt.lt
      have hm1 := Hmo.out k (k + q) (by omega)
      have hl1 := Hle.out (k + q + 1)
      have HAp := Lib.hid (fun W (u : Below wr.heap.size wr W) => HA.out (k + q) hjl (by omega) (by omega) ax xa cx xn xc W (HG.out.go (up hb u)) ((rx.wide fun k hk => hk.2).go u) (hx2.go u))
      have HBt := Lib.hid bt
      have HRb := Lib.hid rb
      have HB1 := Lib.hid hb
      rw [has2]
      generalize rs[k + q] = rr at *
      clear hcs hx hx2 bt rx rb hb x1 hm1 hl1 has has2 hcrk
      go_wp2_with fail
      refine abs_run (fun W => Below wr.heap.size wr W) (by (repeat (first | exact Below.refl _ _ | assumption | (refine Below.drew ?_) | (refine below_drewN ?_ _) | (refine Below.alloc ?_ (by first | (simp; done) | (simp; omega) | omega) _) | (refine Below.setCell ?_ (by first | (simp; done) | (simp; omega) | omega) _) | (refine Below.trans ?_ (Below.mono (by assumption) (by first | (simp; done) | (simp; omega) | omega)))))) ?_
      intro W u
      refine (HAp.out W u).mono ?_
      rintro e W2 ⟨a2, c2, rfl, r2, u2⟩
      have hz1 := u.size
      have u3 := up u u2
      have bt2 := HBt.out.go u3
      have HR2 : Hid (RdS (fun b => b ≠ w2.heap.size ∧ b < W2.heap.size) W2 (tapeB (rs.take (k + q + 1))) a2 (offR rs (k + q + 1)) c2) := r2.mono fun b hb => ⟨⟨by have := hb.1; omega, hb.2⟩, rfl⟩
      have HBt2 := Lib.hid bt2
      have HRb2 := Lib.hid (HRb.out.go u3)
      have HB2 := Lib.hid (up HB1.out u3)
      have f0 : W2.cell? ⟨w2.heap.size, 0, none⟩ = some (.slice ax (offR rs (k + q)) cx) := bt2.cell 0
      have f1 : W2.cell? ⟨w2.heap.size, 1, none⟩ = some (.int .i64 (offR rs k : Nat)) := bt2.cell 1
      have f2 := bt2.frozen
      have z2 : w2.heap.size < W2.heap.size := bt2.lt
      have c0 : ∀ o, (W2.alloc o).cell? ⟨w2.heap.size, 0, none⟩ = some (.slice ax (offR rs (k + q)) cx) := fun o => (bt2.alloc o).cell 0
      clear e0 e1 d0 d1 r2 bt2 u u2 u3 HAp HBt HB1 HRb
      go_wp2_with fail
      go_roundw
      case rel =>
        refine ⟨q + 1, by omega, by go_num, a2, c2, ((HBt2.out.set 0 _).set 1 _).alloc _, ?_, ?_, ((HB2.out.setCell (p := ⟨w2.heap.size, 0, none⟩) (by show w.heap.size ≤ w2.heap.size; exact HW2.out) _).setCell (p := ⟨w2.heap.size, 1, none⟩) (by show w.heap.size ≤ w2.heap.size; exact HW2.out) _).alloc (by have := HW2.out; simp; omega) _⟩
        · refine HR2.out.mono fun b hb => ⟨⟨hb.1, by have := hb.2; simp; omega⟩, ?_⟩
          refine (((Below.refl _ _).alloc (Nat.le_refl _) _).block b (by have := hb.2; simp; omega)).trans ?_
          rw [Below.heap_setCell _ _ _ _ hb.1, Below.heap_setCell _ _ _ _ hb.1]
        · refine ⟨by simp; omega, HRb2.out.2.mono fun b hb => ⟨hb, ?_⟩⟩
          refine (((Below.refl _ _).alloc (Nat.le_refl _) _).block b (by simp; omega)).trans ?_
          rw [Below.heap_setCell _ _ _ _ (by show b ≠ w2.heap.size; omega), Below.heap_setCell _ _ _ _ (by show b ≠ w2.heap.size; omega)]
      case measure => simp [intOf]; omega
    · have hqk : k + q = rs.length := by have := Hlen.out; omega
      rw [hqk] at bt rx
      rw [Hall.out] at bt rx
      rw [List.take_length] at rx
      have HBt := Lib.hid bt
      have HRx := Lib.hid rx
      have zT := bt.lt
      have HRb := Lib.hid rb.2
      have HB1 := Lib.hid hb
      clear bt rx rb hb has HA
      generalize tapeB rs = t at *
      go_wp2_with fail
      obtain ⟨Vp, HV⟩ : ∃ Vp : Nat → Value → World → Prop, Hid (Vp = fun i v W => match i with
          | 0 => v = .agg #[.slice ax t.length cx, .int .i64 (offR rs k : Nat)]
          | 1 => v = .int .i64 y
          | 2 => v = .int .i64 keep
          | 3 => ∃ a8 c8, v = .tuple #[.agg #[.slice a8 m c8, .int .i64 m], .int .i64 0] ∧ RdS (fun k => k ≠ w2.heap.size ∧ k < W.heap.size) W (t.take m) a8 m c8
          | 4 => ∃ a8 c8, v = .tuple #[.agg #[.slice a8 m c8, .int .i64 m], .int .i64 0] ∧ RdS (fun k => k ≠ w2.heap.size ∧ k < W.heap.size) W (t.take m) a8 m c8
          | 5 => ∃ a8 c8, v = .agg #[.slice a8 m c8, .int .i64 m] ∧ RdS (fun k => k ≠ w2.heap.size ∧ k < W.heap.size) W (t.take m) a8 m c8
          | 6 => v = .int .i64 0
          | 7 => v = undef
          | _ => v = .int .i64 0) := ⟨_, rfl⟩
      obtain ⟨Ip, HIp⟩ : ∃ Ip : (Nat → Bool) → (Nat → Value) → World → Prop, Hid (Ip = fun L x W => (Below w2.heap.size wr W ∧ wr.heap.size ≤ W.heap.size ∧ RdS (fun b => b ≠ w2.heap.size ∧ b < wr.heap.size) W t ax t.length cx ∧ CrI w2.heap.size t m ax cx (offR rs k : Nat) (L 7) W)) := ⟨_, rfl⟩
      refine region_lit3 (by kernel_rfl) (by kernel_rfl) (by kernel_rfl) [[], [], [1], [0, 1, 2], [0, 1, 2, 3], [0, 1, 2, 3, 4], [0, 1, 2, 3, 4], [0, 1, 2, 3, 4, 5], [0, 1, 2, 3, 4, 6]] (by kernel_rfl) [some 63, some 64, some 65, some 66, some 62, some 67, some 68, none, some 17] (by kernel_rfl) [[0, 3, 4, 5, 6, 7, 8], [1, 2, 3, 4, 5, 6, 7, 8], [2, 3, 4, 5, 6, 7, 8], [3, 4, 5, 6, 7, 8], [4, 5, 6, 7, 8], [5, 7], [6, 8], [7], [8]] (by kernel_rfl) [[], [], [], [7], [], [7], [], [], []] [[], [], [1], [0, 2], [3], [4], [4], [5], [6]] (by kernel_rfl)
        Ip
        Vp
        (fun j W W' => match j with
          | 7 => Touch (fun z => z = w2.heap.size) W W'
          | _ => Below W.heap.size W W')
        [fun x => ⟨#[undef, undef, undef, undef, undef, undef, undef, undef, undef, .pointer (some ⟨w2.heap.size, 0, none⟩), undef, undef, undef, undef, undef, undef, undef, undef, undef, undef, undef, undef, undef, undef, undef, undef, undef, undef, undef, undef, undef, undef, undef, undef, undef, undef, undef, undef, undef, undef, undef, undef, undef, undef, undef, undef, undef, undef, undef, undef, undef, undef, undef, undef, undef, undef, undef, undef, undef, undef, undef, undef, undef, undef], []⟩,
   fun x => ⟨#[undef, undef, .int .i64 y, undef, undef, undef, undef, undef, undef, undef, undef, undef, undef, undef, undef, undef, undef, undef, undef, undef, undef, undef, undef, undef, undef, undef, undef, undef, undef, undef, undef, undef, undef, undef, undef, undef, undef, undef, undef, undef, undef, undef, undef, undef, undef, undef, undef, undef, undef, undef, undef, undef, undef, undef, undef, undef, undef, undef, undef, undef, undef, undef, undef, undef, undef], []⟩,
   fun x => ⟨#[undef, undef, undef, undef, undef, undef, undef, undef, undef, undef, undef, undef, undef, undef, undef, undef, undef, undef, undef, undef, undef, undef, undef, undef, undef, undef, undef, undef, undef, undef, undef, undef, undef, undef, undef, undef, undef, undef, undef, undef, undef, undef, undef, undef, undef, undef, undef, undef, undef, undef, undef, undef, undef, undef, undef, undef, undef, undef, undef, undef, undef, undef, undef, undef, x 1, undef], []⟩,
   fun x => ⟨#[undef, undef, undef, undef, undef, undef, undef, undef, undef, undef, undef, undef, undef, undef, undef, undef, undef, undef, undef, undef, undef, undef, undef, undef, undef, undef, undef, undef, undef, undef, undef, undef, undef, undef, undef, undef, undef, undef, undef, undef, undef, undef, undef, undef, undef, undef, undef, undef, undef, undef, undef, undef, undef, undef, undef, undef, undef, undef, undef, undef, undef, undef, undef, x 0, undef, x 2, undef], []⟩,
   fun x => ⟨#[undef, undef, undef, undef, undef, undef, undef, undef, undef, undef, undef, undef, undef, undef, undef, undef, undef, undef, undef, undef, undef, undef, undef, undef, undef, undef, undef, undef, undef, undef, undef, undef, undef, undef, undef, undef, undef, undef, undef, undef, undef, undef, undef, undef, undef, undef, undef, undef, undef, undef, undef, undef, undef, undef, undef, undef, undef, undef, undef, undef, undef, undef, undef, undef, undef, undef, x 3], []⟩,
   fun x => ⟨#[undef, undef, undef, undef, undef, undef, undef, undef, undef, undef, undef, undef, undef, undef, undef, undef, undef, undef, undef, undef, undef, undef, undef, undef, undef, undef, undef, undef, undef, undef, undef, undef, undef, undef, undef, undef, undef, undef, undef, undef, undef, undef, undef, undef, undef, undef, undef, undef, undef, undef, undef, undef, undef, undef, undef, undef, undef, undef, undef, undef, undef, undef, x 4, undef, undef, undef, undef, undef], []⟩,
   fun x => ⟨#[undef, undef, undef, undef, undef, undef, undef, undef, undef, undef, undef, undef, undef, undef, undef, undef, undef, undef, undef, undef, undef, undef, undef, undef, undef, undef, undef, undef, undef, undef, undef, undef, undef, undef, undef, undef, undef, undef, undef, undef, undef, undef, undef, undef, undef, undef, undef, undef, undef, undef, undef, undef, undef, undef, undef, undef, undef, undef, undef, undef, undef, undef, x 4, undef, undef, undef, undef, undef, undef], []⟩,
   fun x => ⟨#[undef, undef, undef, undef, undef, undef, undef, undef, undef, .pointer (some ⟨w2.heap.size, 0, none⟩), undef, undef, undef, undef, undef, undef, undef, undef, undef, undef, undef, undef, undef, undef, undef, undef, undef, undef, undef, undef, undef, undef, undef, undef, undef, undef, undef, undef, undef, undef, undef, undef, undef, undef, undef, undef, undef, undef, undef, undef, undef, undef, undef, undef, undef, undef, undef, undef, undef, undef, undef, undef, undef, undef, undef, undef, undef, x 5], []⟩,
   fun x => ⟨#[undef, undef, undef, undef, undef, undef, undef, undef, undef, undef, undef, undef, undef, undef, undef, undef, undef, undef, undef, undef, undef, undef, undef, undef, undef, undef, undef, undef, undef, undef, undef, undef, undef, undef, undef, undef, undef, undef, undef, undef, undef, undef, undef, undef, undef, undef, undef, undef, undef, undef, undef, undef, undef, undef, undef, undef, undef, undef, undef, undef, undef, undef, undef, undef, undef, undef, undef, undef, x 6], []⟩]
        ?hF ?mono ?h0 ?step [0, 1, 2, 4, 6, 7, 8] (by kernel_rfl) ?fin
      case hF =>
        exact ⟨fun x => ⟨by kernel_rfl, by kernel_rfl⟩, fun x => ⟨by kernel_rfl, by kernel_rfl⟩, fun x => ⟨by kernel_rfl, by kernel_rfl⟩, fun x => ⟨by kernel_rfl, by kernel_rfl⟩, fun x => ⟨by kernel_rfl, by kernel_rfl⟩, fun x => ⟨by kernel_rfl, by kernel_rfl⟩, fun x => ⟨by kernel_rfl, by kernel_rfl⟩, fun x => ⟨by kernel_rfl, by kernel_rfl⟩, fun x => ⟨by kernel_rfl, by kernel_rfl⟩, trivial⟩
      case mono =>
        intro i j hi hj hne hna hnk v W W' hE hv
        rw [HV.out] at hv ⊢
        simp only [List.length_cons, List.length_nil] at hi hj
        match i, hi with
        | 0, _ | 1, _ | 2, _ | 6, _ | 7, _ | 8, _ => exact hv
        | 3, _ =>
          match j, hj with
          | 3, _ => exact absurd rfl hne
          | 0, _ => exact absurd (by simp) hna
          | 1, _ => exact absurd (by simp) hna
          | 2, _ => exact absurd (by simp) hna
          | 7, _ => exact absurd (by simp) hnk
          | 4, _ => exact (by obtain ⟨a, c, h1, h2⟩ := hv; exact ⟨a, c, h1, h2.mono fun k hk => ⟨⟨hk.1, Nat.lt_of_lt_of_le hk.2 hE.size⟩, hE.block k hk.2⟩⟩)
          | 5, _ => exact (by obtain ⟨a, c, h1, h2⟩ := hv; exact ⟨a, c, h1, h2.mono fun k hk => ⟨⟨hk.1, Nat.lt_of_lt_of_le hk.2 hE.size⟩, hE.block k hk.2⟩⟩)
          | 6, _ => exact (by obtain ⟨a, c, h1, h2⟩ := hv; exact ⟨a, c, h1, h2.mono fun k hk => ⟨⟨hk.1, Nat.lt_of_lt_of_le hk.2 hE.size⟩, hE.block k hk.2⟩⟩)
          | 8, _ => exact (by obtain ⟨a, c, h1, h2⟩ := hv; exact ⟨a, c, h1, h2.mono fun k hk => ⟨⟨hk.1, Nat.lt_of_lt_of_le hk.2 hE.size⟩, hE.block k hk.2⟩⟩)
          | m + 9, h => exact absurd h (by omega)
        | 4, _ =>
          match j, hj with
          | 4, _ => exact absurd rfl hne
          | 0, _ => exact absurd (by simp) hna
          | 1, _ => exact absurd (by simp) hna
          | 2, _ => exact absurd (by simp) hna
          | 3, _ => exact absurd (by simp) hna
          | 5, _ => exact (by obtain ⟨a, c, h1, h2⟩ := hv; exact ⟨a, c, h1, h2.mono fun k hk => ⟨⟨hk.1, Nat.lt_of_lt_of_le hk.2 hE.size⟩, hE.block k hk.2⟩⟩)
          | 6, _ => exact (by obtain ⟨a, c, h1, h2⟩ := hv; exact ⟨a, c, h1, h2.mono fun k hk => ⟨⟨hk.1, Nat.lt_of_lt_of_le hk.2 hE.size⟩, hE.block k hk.2⟩⟩)
          | 7, _ => exact (by obtain ⟨a, c, h1, h2⟩ := hv; exact ⟨a, c, h1, h2.mono fun k hk => ⟨⟨hk.1, Nat.lt_of_lt_of_le hk.2 hE.size⟩, hE.block k hk.2 hk.1⟩⟩)
          | 8, _ => exact (by obtain ⟨a, c, h1, h2⟩ := hv; exact ⟨a, c, h1, h2.mono fun k hk => ⟨⟨hk.1, Nat.lt_of_lt_of_le hk.2 hE.size⟩, hE.block k hk.2⟩⟩)
          | m + 9, h => exact absurd h (by omega)
        | 5, _ =>
          match j, hj with
          | 5, _ => exact absurd rfl hne
          | 0, _ => exact absurd (by simp) hna
          | 1, _ => exact absurd (by simp) hna
          | 2, _ => exact absurd (by simp) hna
          | 3, _ => exact absurd (by simp) hna
          | 4, _ => exact absurd (by simp) hna
          | 7, _ => exact absurd (by simp) hnk
          | 6, _ => exact (by obtain ⟨a, c, h1, h2⟩ := hv; exact ⟨a, c, h1, h2.mono fun k hk => ⟨⟨hk.1, Nat.lt_of_lt_of_le hk.2 hE.size⟩, hE.block k hk.2⟩⟩)
          | 8, _ => exact (by obtain ⟨a, c, h1, h2⟩ := hv; exact ⟨a, c, h1, h2.mono fun k hk => ⟨⟨hk.1, Nat.lt_of_lt_of_le hk.2 hE.size⟩, hE.block k hk.2⟩⟩)
          | m + 9, h => exact absurd h (by omega)
        | m + 9, h => exact absurd h (by omega)
      case h0 => intro x; exact toI HIp ⟨((Below.refl wr.heap.size wr).mono (Nat.le_of_lt zT)).drew, Nat.le_refl _, HRx.out, _, _, HBt.out, fun _ => ⟨rfl, rfl⟩, fun h => by cases h⟩
      case step =>
        refine ⟨?_, ?_, ?_, ?_, ?_, ?_, ?_, ?_, ?_, trivial⟩
        all_goals
          intro x W L hI hL hV
          replace hI : (Below w2.heap.size wr W ∧ wr.heap.size ≤ W.heap.size ∧ RdS (fun b => b ≠ w2.heap.size ∧ b < wr.heap.size) W t ax t.length cx ∧ CrI w2.heap.size t m ax cx (offR rs k : Nat) (L 7) W) := ofI HIp hI
          rw [HV.out] at hV
          simp only [AllV, and_true] at hV
        · clear hV
          (try dsimp only)
          obtain ⟨v, s', h1, h2, -⟩ := hI.2.2.2
          obtain ⟨rfl, rfl⟩ := h2 (hL.2 7 (by simp))
          have e0 : W.cell? ⟨w2.heap.size, 0, none⟩ = some (.slice ax t.length cx) := h1.cell 0
          have e1 : W.cell? ⟨w2.heap.size, 1, none⟩ = some (.int .i64 (offR rs k : Nat)) := h1.cell 1
          have HI := Lib.hid hI
          clear hI h1
          go_wp2_with fail
          refine step3_done rfl ?_ ?_ ?_
          · exact (toI HIp HI.out)
          · exact (Below.refl _ _)
          · exact (toV HV rfl)
        · clear hV
          (try dsimp only)
          have HI := Lib.hid hI
          clear hI
          go_wp2_with fail
          refine step3_done rfl ?_ ?_ ?_
          · exact (toI HIp HI.out)
          · exact (Below.refl _ _)
          · exact (toV HV rfl)
        · have u1 := hV
          clear hV
          simp only [u1]
          clear u1
          have HI := Lib.hid hI
          clear hI
          go_wp2_with fail
          refine (HY.out _).mono ?_
          rintro e W' ⟨rfl, rfl⟩
          go_wp2_with fail
          refine step3_done rfl ?_ ?_ ?_
          · exact (toI HIp HI.out)
          · exact (Below.refl _ _)
          · exact (toV HV rfl)
        · obtain ⟨u0, u2⟩ := hV
          simp only [u0, u2]
          clear u0 u2
          have HI := Lib.hid hI
          clear hI
          go_wp2_with fail
          refine (HC.out _ _ W (HI.out.2.2.1.mono fun b hb => ⟨Nat.lt_of_lt_of_le hb.2 HI.out.2.1, rfl⟩)).mono ?_
          rintro e W' ⟨a8, c8, rfl, r8, uW⟩
          have hT : w2.heap.size < W.heap.size := by obtain ⟨v, s', h1, -, -⟩ := HI.out.2.2.2; exact h1.lt
          have HR8 : Hid (RdS (fun k => k ≠ w2.heap.size ∧ k < W'.heap.size) W' (t.take m) a8 m c8) := r8.mono fun k hk => ⟨⟨by have := hk.1; omega, hk.2⟩, rfl⟩
          have HU := Lib.hid (And.intro (upper HI.out.1 uW (Nat.le_of_lt hT)) (And.intro (Nat.le_trans HI.out.2.1 uW.size) (And.intro (HI.out.2.2.1.mono (w' := W') fun b hb => ⟨hb, uW.block b (Nat.lt_of_lt_of_le hb.2 HI.out.2.1)⟩) (HI.out.2.2.2.go uW))))
          have HW := Lib.hid uW
          clear uW r8 HI hT
          go_wp2_with fail
          refine step3_done rfl ?_ ?_ ?_
          · exact (toI HIp HU.out)
          · exact HW.out
          · exact (toV HV ⟨_, _, rfl, HR8.out⟩)
        · obtain ⟨a3, c3, u3, r3⟩ := hV
          simp only [u3]
          have U3 := Lib.hid u3
          clear u3
          have HI := Lib.hid hI
          have HR8 := Lib.hid r3
          clear hI r3
          go_wp2_with fail
          refine step3_done rfl ?_ ?_ ?_
          · exact (toI HIp HI.out)
          · exact (Below.refl _ _)
          · exact (toV HV ⟨_, _, rfl, HR8.out⟩)
        · obtain ⟨a4, c4, u4, r4⟩ := hV
          simp only [u4]
          have U4 := Lib.hid u4
          clear u4
          have HI := Lib.hid hI
          have HR8 := Lib.hid r4
          clear hI r4
          go_wp2_with fail
          refine step3_done rfl ?_ ?_ ?_
          · exact (toI HIp HI.out)
          · exact (Below.refl _ _)
          · exact (toV HV ⟨_, _, rfl, HR8.out⟩)
        · obtain ⟨a4, c4, u4, r4⟩ := hV
          simp only [u4]
          have U4 := Lib.hid u4
          clear u4
          have HI := Lib.hid hI
          clear hI r4
          go_wp2_with fail
          refine step3_done rfl ?_ ?_ ?_
          · exact (toI HIp HI.out)
          · exact (Below.refl _ _)
          · exact (toV HV rfl)
        · obtain ⟨a5, c5, u5, r5⟩ := hV
          simp only [u5]
          have U5 := Lib.hid u5
          clear u5
          obtain ⟨v, s', h1, -, -⟩ := hI.2.2.2
          have e0 : W.cell? ⟨w2.heap.size, 0, none⟩ = some v := h1.cell 0
          have e1 : W.cell? ⟨w2.heap.size, 1, none⟩ = some (.int .i64 s') := h1.cell 1
          have e2 := h1.frozen
          have hT := touch2 W w2.heap.size (.slice a5 m c5) (.int .i64 m)
          have HT2 := Lib.hid hT
          have HN : Hid (Below w2.heap.size wr ((W.setCell ⟨w2.heap.size, 0, none⟩ (.slice a5 m c5)).setCell ⟨w2.heap.size, 1, none⟩ (.int .i64 m)) ∧ wr.heap.size ≤ (((W.setCell ⟨w2.heap.size, 0, none⟩ (.slice a5 m c5)).setCell ⟨w2.heap.size, 1, none⟩ (.int .i64 m))).heap.size ∧ RdS (fun b => b ≠ w2.heap.size ∧ b < wr.heap.size) ((W.setCell ⟨w2.heap.size, 0, none⟩ (.slice a5 m c5)).setCell ⟨w2.heap.size, 1, none⟩ (.int .i64 m)) t ax t.length cx ∧ CrI w2.heap.size t m ax cx (offR rs k : Nat) true ((W.setCell ⟨w2.heap.size, 0, none⟩ (.slice a5 m c5)).setCell ⟨w2.heap.size, 1, none⟩ (.int .i64 m))) :=
            ⟨hI.1.trans (hT.toBelow (by have := hI.2.1; omega) (fun k hk => by subst hk; exact Nat.le_refl _)), Nat.le_trans hI.2.1 hT.size, hI.2.2.1.mono fun b hb => ⟨hb, hT.block b (Nat.lt_of_lt_of_le hb.2 hI.2.1) hb.1⟩, ⟨_, _, (h1.set 0 _).set 1 _, (fun h => by cases h), (fun _ => ⟨_, _, rfl, rfl, r5.mono fun k hk => ⟨⟨hk.1, Nat.lt_of_lt_of_le hk.2 hT.size⟩, hT.block k hk.2 hk.1⟩⟩)⟩⟩
          clear hI h1 hT r5
          go_wp2_with fail
          exact step3_done (v := undef) rfl (toI HIp HN.out) HT2.out (toV HV rfl)
        · have u6 := hV
          clear hV
          simp only [u6]
          clear u6
          have HI := Lib.hid hI
          clear hI
          go_wp2_with fail
          refine step3_done rfl ?_ ?_ ?_
          · exact (toI HIp HI.out)
          · exact (Below.refl _ _)
          · exact (toV HV rfl)
      case fin =>
        intro x W L hL hI hV
        replace hI : (Below w2.heap.size wr W ∧ wr.heap.size ≤ W.heap.size ∧ RdS (fun b => b ≠ w2.heap.size ∧ b < wr.heap.size) W t ax t.length cx ∧ CrI w2.heap.size t m ax cx (offR rs k : Nat) (L 7) W) := ofI HIp hI
        rw [HV.out] at hV
        simp only [AllV, and_true] at hV
        obtain ⟨u0, u1, u2, ⟨a4, c4, u4, r4⟩, u6, u7, u8⟩ := hV
        simp only [getsD, List.getD_cons_succ, List.getD_cons_zero, List.length_cons, List.length_nil, List.range, List.range.loop, u0, u1, u2, u4, u6, u7, u8, Act.put, List.setIfInBounds_toArray, List.set_cons_succ, List.set_cons_zero]
        clear u0 u1 u2 u4 u6 u7 u8
        rw [hL 7 (by simp)] at hI
        obtain ⟨hbW, hzW, -, v, s', h1, -, h3⟩ := hI
        obtain ⟨a8, c8, rfl, rfl, r8⟩ := h3 rfl
        have r8' := r8.wide fun k hk => hk.2
        have e0 : W.cell? ⟨w2.heap.size, 0, none⟩ = some (.slice a8 m c8) := h1.cell 0
        have e1 : W.cell? ⟨w2.heap.size, 1, none⟩ = some (.int .i64 m) := h1.cell 1
        have rc0 := Lib.hid r8'
        have rr0 : Hid (RdS (· < W.heap.size) W rs ar K cr) := HRb.out.mono fun b hb => ⟨by omega, hbW.block b hb⟩
        have B0 := Lib.hid (HB1.out.trans (hbW.mono HW2.out))
        have g0 := Lib.hid (HG.out.go B0.out)
        clear hbW h1 h3 r8 r8' HRx HBt HRb HB1 HY HC hzW zT
        clear HW2
        generalize w2.heap.size = T at *
        generalize x 3 = y3 at *
        generalize x 4 = y4 at *
        generalize x 5 = y5 at *
        go_wp2_with fail
        refine (HR.out _ _ _ g0.out rc0.out).mono ?_
        rintro e w1 ⟨j, ag, au, cg, cu, hj1, hj2, hj3, rfl, rg, ru, hb⟩
        have B1 := Lib.hid (up B0.out hb)
        have g1 := Lib.hid (g0.out.below' hb)
        have rc1 := Lib.hid (rc0.out.go hb)
        have rr1 := Lib.hid (rr0.out.go hb)
        have rg1 := Lib.hid rg
        have ru1 := Lib.hid ru
        clear B0 g0 rc0 rr0 hb rg ru
        have hmin : min (m : Int) ((offR rs j : Nat) : Int) = ((offR rs j : Nat) : Int) := by omega
        have hkj : k ≤ j := by
          by_cases h : j < k
          · have h1 := hj3 (by have := Hlen.out; omega)
            have h2 := Hmo.out (j + 1) k (by omega)
            omega
          · omega
        have hoo := Hmo.out k j hkj
        have hd1 : decide ((k : Int) ≤ (j : Int)) = true := by simp; exact hkj
        have hd3 : decide (k ≤ j) = true := by simp; exact hkj
        have hd4 : decide (offR rs k ≤ offR rs j) = true := by simp; exact hoo
        have hd2 : decide (((offR rs k : Nat) : Int) ≤ ((offR rs j : Nat) : Int)) = true := by simp; exact hoo
        have hkn : (((k : Int) == 0) = true) ∨ (((k : Int) == 0) = false ∧ decide (0 < offR rs k) = true) := by
          by_cases h : k = 0
          · left; simp [h]
          · right
            have h1 : offR rs 1 = _ := Hnx.out 0 (by have := Hlen.out; omega)
            have h2 := Hmo.out 1 k (by omega)
            exact ⟨by simp; omega, by simp; omega⟩
        clear hj3
        go_wp2_with fail
        refine abs_run (fun W => Below w1.heap.size w1 W ∧ Blk w1.heap.size (.cells #[.slice au (offR rs j) cu, .int .i64 ((offR rs j : Nat) : Int)] 27 (0, 0)) W) ⟨(by (repeat (first | exact Below.refl _ _ | assumption | (refine Below.drew ?_) | (refine below_drewN ?_ _) | (refine Below.alloc ?_ (by first | (simp; done) | (simp; omega) | omega) _) | (refine Below.setCell ?_ (by first | (simp; done) | (simp; omega) | omega) _) | (refine Below.trans ?_ (Below.mono (by assumption) (by first | (simp; done) | (simp; omega) | omega)))))), Blk.new w1 _⟩ ?_
        rintro w2 ⟨hb, b19⟩
        have B2 := Lib.hid (up B1.out hb)
        have g2 := Lib.hid (g1.out.below' hb)
        have rc2 := Lib.hid (rc1.out.go hb)
        have rr2 := Lib.hid (rr1.out.go hb)
        have rg2 := Lib.hid (rg1.out.go hb)
        have ru2 := Lib.hid (ru1.out.go hb)
        have b192 := Lib.hid b19
        clear B1 g1 rc1 rr1 rg1 ru1 hb b19
        refine (HB.out j hj1 _ _ _ _ _ _ _ rg2.out rr2.out).mono ?_
        rintro e w3 ⟨rfl, hb⟩
        have B3 := Lib.hid (up B2.out hb)
        have g3 := Lib.hid (g2.out.below' hb)
        have rc3 := Lib.hid (rc2.out.go hb)
        have rr3 := Lib.hid (rr2.out.go hb)
        have rg3 := Lib.hid (rg2.out.go hb)
        have ru3 := Lib.hid (ru2.out.go hb)
        have b193 := Lib.hid (b192.out.go hb)
        clear B2 g2 rc2 rr2 rg2 ru2 b192 hb
        have p0 := b193.out.cell 0
        have p1 := b193.out.cell 1
        simp only [List.getElem?_toArray, List.getElem?_cons_zero, List.getElem?_cons_succ] at p0 p1
        clear e0 e1
        rcases hkn with f1 | ⟨f1, f2⟩ <;>
        · go_wp2_with fail
          go_ret
          exact ⟨rfl, B3.out⟩
end Go.Proofs.YtdbdhpjjndhjiaaDoor
