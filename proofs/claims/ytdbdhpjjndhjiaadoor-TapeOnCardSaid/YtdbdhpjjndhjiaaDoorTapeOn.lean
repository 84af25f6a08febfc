/- The walk of TapeOn. -/
import Derived.Test.YtdbdhpjjndhjiaaDoorFirst
set_option linter.unusedSimpArgs false
namespace Go.Proofs.YtdbdhpjjndhjiaaDoor
open Go.RowKit

/-- Append to a tape of records, as the walks of laws take it -/
theorem append_recs (rs : List Rec) (j N : Nat) (hN : N = (tapeB (rs.take j)).length) (s : Int) (x : Rec) (h0 : 0 ≤ s) (h1 : s ≤ N) (x0 : checkRecord x = 0) (x1 : I64 x.epoch) (hl : N ≤ 8000000) (a xa : Option Addr) (c xn xc : Nat) (w : World) (hg : Good w) (hr : RdS (· < w.heap.size) w (tapeB (rs.take j)) a N c) (hx : RdS (· < w.heap.size) w x.op xa xn xc) :
    Calls Tryd.prog 17 #[.agg #[.slice a N c, .int .i64 s], .agg #[.int .i64 x.epoch, .slice xa xn xc]] w fun e w' => ∃ (a' : Option Addr) (c' : Nat), e = .returned (.tuple #[.agg #[.slice a' (tapeB (rs.take j ++ [x])).length c', .int .i64 s], .int .i64 0]) ∧ RdS (· < w'.heap.size) w' (tapeB (rs.take j ++ [x])) a' (tapeB (rs.take j ++ [x])).length c' ∧ Below w.heap.size w w' := by
  subst hN
  have e : tapeB (rs.take j ++ [x]) = tapeB (rs.take j) ++ entry x := by rw [tapeB_app]; simp [tapeB]
  rw [e]
  have hrl := (rec_len x0).1
  exact (append_ok _ s x a xa c xn xc w hg hr h0 h1 hx x0 x1 (by omega)).mono fun e w' ⟨v, h1, a', c', h2, _, h3, h4⟩ => ⟨a', c', by rw [h1, h2], h3.wide fun k hk => hk.2, h4⟩
/-- the box of a tape that crashes: ahead of it and behind it -/
def CrI (T : Nat) (t : Bs) (m : Nat) (a : Option Addr) (c : Nat) (s : Int) (b : Bool) (W : World) : Prop :=
  ∃ v s', Blk T (.cells #[v, .int .i64 s'] 27 (0, 0)) W ∧ (b = false → v = .slice a t.length c ∧ s' = s) ∧ (b = true → ∃ a8 c8, v = .slice a8 m c8 ∧ s' = m ∧ RdS (fun k => k ≠ T ∧ k < W.heap.size) W (t.take m) a8 m c8)
theorem CrI.go {T : Nat} {t : Bs} {m : Nat} {a : Option Addr} {c : Nat} {s : Int} {b : Bool} {W W' : World} (h : CrI T t m a c s b W) (hb : Below W.heap.size W W') : CrI T t m a c s b W' := by
  obtain ⟨v, s', h1, h2, h3⟩ := h
  refine ⟨v, s', h1.go hb, h2, fun h => ?_⟩
  obtain ⟨a8, c8, e1, e2, r⟩ := h3 h
  exact ⟨a8, c8, e1, e2, r.mono fun k hk => ⟨⟨hk.1, Nat.lt_of_lt_of_le hk.2 hb.size⟩, hb.block k hk.2⟩⟩
set_option maxRecDepth 100000 in
set_option maxHeartbeats 6000000 in
theorem tapeOn_walk (w : World) (hg : Good w) (a1 : Option Addr) (n1 c1 : Nat) (l1 : List Raw) (r1 : RdS (· < w.heap.size) w l1 a1 n1 c1) (y : Int) (hy : I64 y) (r : Raw) (hr : r.ok) :
    Calls Tryd.prog 11 #[.slice a1 n1 c1, .int .i64 y, rawV r] w fun e w' => e = .returned (.bool true) ∧ Below w.heap.size w w' := by
  have hn1 := r1.1
  have HRc := Lib.hid (fun W (u : Below w.heap.size w W) => records_any l1 a1 n1 c1 15 W (r1.go u) (by omega))
  rw [show ((15 : Nat) : Int) = 15 from rfl] at HRc
  have hrs := recsOf_ok l1 (min n1 15) (by omega)
  have HT := Lib.hid (fun a c W hg hr => taped_ok (recsOf l1 (min n1 15)) a (min n1 15) c W hg hr (by omega) hrs)
  have hlen : min n1 15 = (recsOf l1 (min n1 15)).length := (recsOf_len l1 _).symm
  have hK : min n1 15 ≤ 15 := by omega
  have Hrs := Lib.hid hrs
  have Hlen := Lib.hid hlen
  have hxr := recOf_ok r l1
  have HRec := Lib.hid (fun W (u : Below w.heap.size w W) => record_go r l1 a1 n1 c1 W (r1.go u) hr)
  have g0 := Lib.hid hg
  have B0 := Lib.hid (Below.refl w.heap.size w)
  clear hg r1 hn1 hrs hlen hr
  generalize recOf r l1 = xr at *
  generalize recsOf l1 (min n1 15) = rs at *
  generalize min n1 15 = K at *
  have htl : (tapeB rs).length ≤ 600195 := by have := tapeB_len rs (fun r hr => (Hrs.out r hr).1); have := Hlen.out; omega
  have ry := pk_range y 200 (by omega)
  have HY := Lib.hid (fun W => picked_any y 200 W hy (by omega) (by omega))
  generalize pk y 200 = keep at *
  obtain ⟨m, hm⟩ : ∃ m : Nat, (m : Int) = 0 + min keep ((tapeB rs).length - 0) := ⟨(0 + min keep ((tapeB rs).length - 0)).toNat, by omega⟩
  have hml : m ≤ (tapeB rs).length := by omega
  have HC := Lib.hid (fun a c W hr => crash_new (tapeB rs) 0 keep m a c W hr (by omega) (by omega) (by omega) (by omega) (by omega) hm)
  have HR := Lib.hid (fun a c W hg hr => recover_ok rs Hrs.out (by have := Hlen.out; omega) m hml m (by omega) (by omega) a c W hg hr)
  have Hmem : Hid (∀ j, ∀ r ∈ rs.take j ++ [xr], checkRecord r = 0 ∧ I64 r.epoch) := fun j r h => by
    rcases List.mem_append.1 h with h | h
    · exact Hrs.out r (List.mem_of_mem_take h)
    · simp at h; subst h; exact hxr
  have HA := Lib.hid (fun j N (hN : N = (tapeB (rs.take j)).length) s h0 h1 hl a xa c xn xc W hg hr hx => append_recs rs j N hN s xr h0 h1 hxr.1 hxr.2 hl a xa c xn xc W hg hr hx)
  have HR2 := Lib.hid (fun j (hj : j ≤ rs.length) N (hN : N = (tapeB (rs.take j ++ [xr])).length) s h0 h1 a c W hg hr => recover_all (rs.take j ++ [xr]) (Hmem.out j) (by rw [List.length_append, List.length_take, List.length_singleton]; have := Hlen.out; omega) N (j + 1) hN (by rw [List.length_append, List.length_take, List.length_singleton]; omega) s h0 h1 a c W hg hr)
  have HB := Lib.hid (fun j (hj : j ≤ rs.length) a1 a2 n1 c1 n2 c2 W h1 h2 => begins_ok (rs.take j) (rs.take j ++ [xr]) (by rw [List.length_append]; omega) (fun k h h2 => by rw [List.getElem_append_left h]) a1 a2 n1 c1 n2 c2 W h1 h2)
  have HS := Lib.hid (fun a b n c m d W h1 h2 => sameRecord_ok xr a b n c m d W h1 h2)
  have Hle := Lib.hid (offR_le rs)
  have Hm := Lib.hid hm
  have Hxi := Lib.hid hxr.2
  clear hm hxr hy
  generalize ht : tapeB rs = t at *
  clear ht
  obtain ⟨rk, xa, xb, xc, xt⟩ := r
  unfold rawV at HRec ⊢
  simp only at HRec ⊢
  go_enter Tryd.func11, Tryd.ntmps11
  go_wp2_with fail
  refine abs_run (fun W => Below w.heap.size w W ∧ Blk w.heap.size (.cells #[.int .i64 rk, .int .i64 xa, .int .i64 xb, .int .i64 xc, .string xt] 45 (0, 0)) W) ⟨(by (repeat (first | exact Below.refl _ _ | assumption | (refine Below.drew ?_) | (refine below_drewN ?_ _) | (refine Below.alloc ?_ (by first | (simp; done) | (simp; omega) | omega) _) | (refine Below.setCell ?_ (by first | (simp; done) | (simp; omega) | omega) _) | (refine Below.trans ?_ (Below.mono (by assumption) (by first | (simp; done) | (simp; omega) | omega)))))), Blk.new w _⟩ ?_
  rintro w1 ⟨hb, bq⟩
  have B1 := Lib.hid (up B0.out hb)
  have g1 := Lib.hid (g0.out.below' hb)
  have bq1 := Lib.hid bq
  clear B0 g0 hb bq
  refine (HRc.out _ B1.out).mono ?_
  rintro e w2 ⟨ar, cr, rfl, rr, hb⟩
  have B2 := Lib.hid (up B1.out hb)
  have g2 := Lib.hid (g1.out.below' hb)
  have bq2 := Lib.hid (bq1.out.go hb)
  have rr2 := Lib.hid rr
  clear B1 g1 bq1 hb rr
  go_wp2_with fail
  refine (HT.out _ _ _ g2.out rr2.out).mono ?_
  rintro e w3 ⟨a7, c7, rfl, rt, hb⟩
  have B3 := Lib.hid (up B2.out hb)
  have g3 := Lib.hid (g2.out.below' hb)
  have bq3 := Lib.hid (bq2.out.go hb)
  have rr3 := Lib.hid (rr2.out.go hb)
  have rt3 := Lib.hid rt
  clear B2 g2 bq2 rr2 hb rt
  clear rr3
  go_wp2_with fail
  refine abs_w (fun W => Below w3.heap.size w3 W ∧ Blk w3.heap.size (.cells #[.slice a7 t.length c7, .int .i64 0] 27 (0, 0)) W) ⟨by (repeat (first | exact Below.refl _ _ | assumption | (refine Below.drew ?_) | (refine below_drewN ?_ _) | (refine Below.alloc ?_ (by first | (simp; done) | (simp; omega) | omega) _) | (refine Below.setCell ?_ (by first | (simp; done) | (simp; omega) | omega) _) | (refine Below.trans ?_ (Below.mono (by assumption) (by first | (simp; done) | (simp; omega) | omega))))), Blk.new _ _⟩ ?_
  rintro w4 ⟨u4, b4⟩
  have U4 := Lib.hid u4
  have X4 := Lib.hid b4
  clear u4 b4
  obtain ⟨Vp, HV⟩ : ∃ Vp : Nat → Value → World → Prop, Hid (Vp = fun i v W => match i with
      | 0 => v = .agg #[.slice a7 t.length c7, .int .i64 0]
      | 1 => v = .int .i64 y
      | 2 => v = .int .i64 keep
      | 3 => ∃ a8 c8, v = .tuple #[.agg #[.slice a8 m c8, .int .i64 m], .int .i64 0] ∧ RdS (fun k => k ≠ w3.heap.size ∧ k < W.heap.size) W (t.take m) a8 m c8
      | 4 => ∃ a8 c8, v = .tuple #[.agg #[.slice a8 m c8, .int .i64 m], .int .i64 0] ∧ RdS (fun k => k ≠ w3.heap.size ∧ k < W.heap.size) W (t.take m) a8 m c8
      | 5 => ∃ a8 c8, v = .agg #[.slice a8 m c8, .int .i64 m] ∧ RdS (fun k => k ≠ w3.heap.size ∧ k < W.heap.size) W (t.take m) a8 m c8
      | 6 => v = .int .i64 0
      | 7 => v = undef
      | _ => v = .int .i64 0) := ⟨_, rfl⟩
  obtain ⟨Ip, HIp⟩ : ∃ Ip : (Nat → Bool) → (Nat → Value) → World → Prop, Hid (Ip = fun L x W => (Below w3.heap.size w3 W ∧ CrI w3.heap.size t m a7 c7 0 (L 7) W)) := ⟨_, rfl⟩
  refine region_lit3 (by kernel_rfl) (by kernel_rfl) (by kernel_rfl) [[], [], [1], [0, 1, 2], [0, 1, 2, 3], [0, 1, 2, 3, 4], [0, 1, 2, 3, 4], [0, 1, 2, 3, 4, 5], [0, 1, 2, 3, 4, 6]] (by kernel_rfl) [some 26, some 27, some 28, some 29, some 25, some 30, some 31, none, some 9] (by kernel_rfl) [[0, 3, 4, 5, 6, 7, 8], [1, 2, 3, 4, 5, 6, 7, 8], [2, 3, 4, 5, 6, 7, 8], [3, 4, 5, 6, 7, 8], [4, 5, 6, 7, 8], [5, 7], [6, 8], [7], [8]] (by kernel_rfl) [[], [], [], [7], [], [7], [], [], []] [[], [], [1], [0, 2], [3], [4], [4], [5], [6]] (by kernel_rfl)
    Ip
    Vp
    (fun j W W' => match j with
      | 7 => Touch (fun z => z = w3.heap.size) W W'
      | _ => Below W.heap.size W W')
    [fun x => ⟨#[undef, undef, undef, undef, undef, undef, undef, .pointer (some ⟨w3.heap.size, 0, none⟩), undef, undef, undef, undef, undef, undef, undef, undef, undef, undef, undef, undef, undef, undef, undef, undef, undef, undef, undef], []⟩,
   fun x => ⟨#[undef, .int .i64 y, undef, undef, undef, undef, undef, undef, undef, undef, undef, undef, undef, undef, undef, undef, undef, undef, undef, undef, undef, undef, undef, undef, undef, undef, undef, undef], []⟩,
   fun x => ⟨#[undef, undef, undef, undef, undef, undef, undef, undef, undef, undef, undef, undef, undef, undef, undef, undef, undef, undef, undef, undef, undef, undef, undef, undef, undef, undef, undef, x 1, undef], []⟩,
   fun x => ⟨#[undef, undef, undef, undef, undef, undef, undef, undef, undef, undef, undef, undef, undef, undef, undef, undef, undef, undef, undef, undef, undef, undef, undef, undef, undef, undef, x 0, undef, x 2, undef], []⟩,
   fun x => ⟨#[undef, undef, undef, undef, undef, undef, undef, undef, undef, undef, undef, undef, undef, undef, undef, undef, undef, undef, undef, undef, undef, undef, undef, undef, undef, undef, undef, undef, undef, x 3], []⟩,
   fun x => ⟨#[undef, undef, undef, undef, undef, undef, undef, undef, undef, undef, undef, undef, undef, undef, undef, undef, undef, undef, undef, undef, undef, undef, undef, undef, undef, x 4, undef, undef, undef, undef, undef], []⟩,
   fun x => ⟨#[undef, undef, undef, undef, undef, undef, undef, undef, undef, undef, undef, undef, undef, undef, undef, undef, undef, undef, undef, undef, undef, undef, undef, undef, undef, x 4, undef, undef, undef, undef, undef, undef], []⟩,
   fun x => ⟨#[undef, undef, undef, undef, undef, undef, undef, .pointer (some ⟨w3.heap.size, 0, none⟩), undef, undef, undef, undef, undef, undef, undef, undef, undef, undef, undef, undef, undef, undef, undef, undef, undef, undef, undef, undef, undef, undef, x 5], []⟩,
   fun x => ⟨#[undef, undef, undef, undef, undef, undef, undef, undef, undef, undef, undef, undef, undef, undef, undef, undef, undef, undef, undef, undef, undef, undef, undef, undef, undef, undef, undef, undef, undef, undef, undef, x 6], []⟩]
    ?hF ?mono ?h0 ?step [0, 1, 2, 4, 6, 7, 8] (by kernel_rfl) ?fin
  case hF =>
    exact ⟨fun x => ⟨by kernel_rfl, by kernel_rfl⟩, fun x => ⟨by kernel_rfl, by kernel_rfl⟩, fun x => ⟨by kernel_rfl, by kernel_rfl⟩, fun x => ⟨by kernel_rfl, by kernel_rfl⟩, fun x => ⟨by kernel_rfl, by kernel_rfl⟩, fun x => ⟨by kernel_rfl, by kernel_rfl⟩, fun x => ⟨by kernel_rfl, by kernel_rfl⟩, fun x => ⟨by kernel_rfl, by kernel_rfl⟩, fun x => ⟨by kernel_rfl, by kernel_rfl⟩, trivial⟩
  case mono =>
    intro i j hi hj hne hna hnk v W W' hE hv
    rw [HV.out] at hv ⊢
    simp only [List.length_cons, List.length_nil] at hi hj
    match i, hi with
    | 0, _ | 1, _ | 2, _ | 6, _ | 7, _ | 8, _ => exact hv
    | 3, _ =>
      match j, hj with
      | 3, _ => exact absurd rfl hne
      | 0, _ => exact absurd (by simp) hna
      | 1, _ => exact absurd (by simp) hna
      | 2, _ => exact absurd (by simp) hna
      | 7, _ => exact absurd (by simp) hnk
      | 4, _ => exact (by obtain ⟨a, c, h1, h2⟩ := hv; exact ⟨a, c, h1, h2.mono fun k hk => ⟨⟨hk.1, Nat.lt_of_lt_of_le hk.2 hE.size⟩, hE.block k hk.2⟩⟩)
      | 5, _ => exact (by obtain ⟨a, c, h1, h2⟩ := hv; exact ⟨a, c, h1, h2.mono fun k hk => ⟨⟨hk.1, Nat.lt_of_lt_of_le hk.2 hE.size⟩, hE.block k hk.2⟩⟩)
      | 6, _ => exact (by obtain ⟨a, c, h1, h2⟩ := hv; exact ⟨a, c, h1, h2.mono fun k hk => ⟨⟨hk.1, Nat.lt_of_lt_of_le hk.2 hE.size⟩, hE.block k hk.2⟩⟩)
      | 8, _ => exact (by obtain ⟨a, c, h1, h2⟩ := hv; exact ⟨a, c, h1, h2.mono fun k hk => ⟨⟨hk.1, Nat.lt_of_lt_of_le hk.2 hE.size⟩, hE.block k hk.2⟩⟩)
      | m + 9, h => exact absurd h (by omega)
    | 4, _ =>
      match j, hj with
      | 4, _ => exact absurd rfl hne
      | 0, _ => exact absurd (by simp) hna
      | 1, _ => exact absurd (by simp) hna
      | 2, _ => exact absurd (by simp) hna
      | 3, _ => exact absurd (by simp) hna
      | 5, _ => exact (by obtain ⟨a, c, h1, h2⟩ := hv; exact ⟨a, c, h1, h2.mono fun k hk => ⟨⟨hk.1, Nat.lt_of_lt_of_le hk.2 hE.size⟩, hE.block k hk.2⟩⟩)
      | 6, _ => exact (by obtain ⟨a, c, h1, h2⟩ := hv; exact ⟨a, c, h1, h2.mono fun k hk => ⟨⟨hk.1, Nat.lt_of_lt_of_le hk.2 hE.size⟩, hE.block k hk.2⟩⟩)
      | 7, _ => exact (by obtain ⟨a, c, h1, h2⟩ := hv; exact ⟨a, c, h1, h2.mono fun k hk => ⟨⟨hk.1, Nat.lt_of_lt_of_le hk.2 hE.size⟩, hE.block k hk.2 hk.1⟩⟩)
      | 8, _ => exact (by obtain ⟨a, c, h1, h2⟩ := hv; exact ⟨a, c, h1, h2.mono fun k hk => ⟨⟨hk.1, Nat.lt_of_lt_of_le hk.2 hE.size⟩, hE.block k hk.2⟩⟩)
      | m + 9, h => exact absurd h (by omega)
    | 5, _ =>
      match j, hj with
      | 5, _ => exact absurd rfl hne
      | 0, _ => exact absurd (by simp) hna
      | 1, _ => exact absurd (by simp) hna
      | 2, _ => exact absurd (by simp) hna
      | 3, _ => exact absurd (by simp) hna
      | 4, _ => exact absurd (by simp) hna
      | 7, _ => exact absurd (by simp) hnk
      | 6, _ => exact (by obtain ⟨a, c, h1, h2⟩ := hv; exact ⟨a, c, h1, h2.mono fun k hk => ⟨⟨hk.1, Nat.lt_of_lt_of_le hk.2 hE.size⟩, hE.block k hk.2⟩⟩)
      | 8, _ => exact (by obtain ⟨a, c, h1, h2⟩ := hv; exact ⟨a, c, h1, h2.mono fun k hk => ⟨⟨hk.1, Nat.lt_of_lt_of_le hk.2 hE.size⟩, hE.block k hk.2⟩⟩)
      | m + 9, h => exact absurd h (by omega)
    | m + 9, h => exact absurd h (by omega)
  case h0 => intro x; exact toI HIp ⟨U4.out.drew, _, _, X4.out, fun _ => ⟨rfl, rfl⟩, fun h => by cases h⟩
  case step =>
    refine ⟨?_, ?_, ?_, ?_, ?_, ?_, ?_, ?_, ?_, trivial⟩
    all_goals
      intro x W L hI hL hV
      replace hI : (Below w3.heap.size w3 W ∧ CrI w3.heap.size t m a7 c7 0 (L 7) W) := ofI HIp hI
      rw [HV.out] at hV
      simp only [AllV, and_true] at hV
    · clear hV
      (try dsimp only)
      obtain ⟨v, s', h1, h2, -⟩ := hI.2
      obtain ⟨rfl, rfl⟩ := h2 (hL.2 7 (by simp))
      have e0 : W.cell? ⟨w3.heap.size, 0, none⟩ = some (.slice a7 t.length c7) := h1.cell 0
      have e1 : W.cell? ⟨w3.heap.size, 1, none⟩ = some (.int .i64 0) := h1.cell 1
      have HI := Lib.hid hI
      clear hI h1
      go_wp2_with fail
      refine step3_done rfl ?_ ?_ ?_
      · exact (toI HIp HI.out)
      · exact (Below.refl _ _)
      · exact (toV HV rfl)
    · clear hV
      (try dsimp only)
      have HI := Lib.hid hI
      clear hI
      go_wp2_with fail
      refine step3_done rfl ?_ ?_ ?_
      · exact (toI HIp HI.out)
      · exact (Below.refl _ _)
      · exact (toV HV rfl)
    · have u1 := hV
      clear hV
      simp only [u1]
      clear u1
      have HI := Lib.hid hI
      clear hI
      go_wp2_with fail
      refine (HY.out _).mono ?_
      rintro e W' ⟨rfl, rfl⟩
      go_wp2_with fail
      refine step3_done rfl ?_ ?_ ?_
      · exact (toI HIp HI.out)
      · exact (Below.refl _ _)
      · exact (toV HV rfl)
    · obtain ⟨u0, u2⟩ := hV
      simp only [u0, u2]
      clear u0 u2
      have HI := Lib.hid hI
      clear hI
      go_wp2_with fail
      refine (HC.out _ _ W (rt3.out.go HI.out.1)).mono ?_
      rintro e W' ⟨a8, c8, rfl, r8, uW⟩
      have hT : w3.heap.size < W.heap.size := by obtain ⟨v, s', h1, -, -⟩ := HI.out.2; exact h1.lt
      have HR8 : Hid (RdS (fun k => k ≠ w3.heap.size ∧ k < W'.heap.size) W' (t.take m) a8 m c8) := r8.mono fun k hk => ⟨⟨by have := hk.1; omega, hk.2⟩, rfl⟩
      have HU := Lib.hid (And.intro (up HI.out.1 uW) (HI.out.2.go uW))
      have HW := Lib.hid uW
      clear uW r8 HI hT
      go_wp2_with fail
      refine step3_done rfl ?_ ?_ ?_
      · exact (toI HIp HU.out)
      · exact HW.out
      · exact (toV HV ⟨_, _, rfl, HR8.out⟩)
    · obtain ⟨a3, c3, u3, r3⟩ := hV
      simp only [u3]
      have U3 := Lib.hid u3
      clear u3
      have HI := Lib.hid hI
      have HR8 := Lib.hid r3
      clear hI r3
      go_wp2_with fail
      refine step3_done rfl ?_ ?_ ?_
      · exact (toI HIp HI.out)
      · exact (Below.refl _ _)
      · exact (toV HV ⟨_, _, rfl, HR8.out⟩)
    · obtain ⟨a4, c4, u4, r4⟩ := hV
      simp only [u4]
      have U4 := Lib.hid u4
      clear u4
      have HI := Lib.hid hI
      have HR8 := Lib.hid r4
      clear hI r4
      go_wp2_with fail
      refine step3_done rfl ?_ ?_ ?_
      · exact (toI HIp HI.out)
      · exact (Below.refl _ _)
      · exact (toV HV ⟨_, _, rfl, HR8.out⟩)
    · obtain ⟨a4, c4, u4, r4⟩ := hV
      simp only [u4]
      have U4 := Lib.hid u4
      clear u4
      have HI := Lib.hid hI
      clear hI r4
      go_wp2_with fail
      refine step3_done rfl ?_ ?_ ?_
      · exact (toI HIp HI.out)
      · exact (Below.refl _ _)
      · exact (toV HV rfl)
    · obtain ⟨a5, c5, u5, r5⟩ := hV
      simp only [u5]
      have U5 := Lib.hid u5
      clear u5
      obtain ⟨v, s', h1, -, -⟩ := hI.2
      have e0 : W.cell? ⟨w3.heap.size, 0, none⟩ = some v := h1.cell 0
      have e1 : W.cell? ⟨w3.heap.size, 1, none⟩ = some (.int .i64 s') := h1.cell 1
      have e2 := h1.frozen
      have hT := touch2 W w3.heap.size (.slice a5 m c5) (.int .i64 m)
      have HT2 := Lib.hid hT
      have HN : Hid (Below w3.heap.size w3 ((W.setCell ⟨w3.heap.size, 0, none⟩ (.slice a5 m c5)).setCell ⟨w3.heap.size, 1, none⟩ (.int .i64 m)) ∧ CrI w3.heap.size t m a7 c7 0 true ((W.setCell ⟨w3.heap.size, 0, none⟩ (.slice a5 m c5)).setCell ⟨w3.heap.size, 1, none⟩ (.int .i64 m))) :=
        ⟨hI.1.trans (hT.toBelow hI.1.size (fun k hk => by subst hk; exact Nat.le_refl _)), ⟨_, _, (h1.set 0 _).set 1 _, (fun h => by cases h), (fun _ => ⟨_, _, rfl, rfl, r5.mono fun k hk => ⟨⟨hk.1, Nat.lt_of_lt_of_le hk.2 hT.size⟩, hT.block k hk.2 hk.1⟩⟩)⟩⟩
      clear hI h1 hT r5
      go_wp2_with fail
      exact step3_done (v := undef) rfl (toI HIp HN.out) HT2.out (toV HV rfl)
    · have u6 := hV
      clear hV
      simp only [u6]
      clear u6
      have HI := Lib.hid hI
      clear hI
      go_wp2_with fail
      refine step3_done rfl ?_ ?_ ?_
      · exact (toI HIp HI.out)
      · exact (Below.refl _ _)
      · exact (toV HV rfl)
  case fin =>
    intro x W L hL hI hV
    replace hI : (Below w3.heap.size w3 W ∧ CrI w3.heap.size t m a7 c7 0 (L 7) W) := ofI HIp hI
    rw [HV.out] at hV
    simp only [AllV, and_true] at hV
    obtain ⟨u0, u1, u2, ⟨a4, c4, u4, r4⟩, u6, u7, u8⟩ := hV
    simp only [getsD, List.getD_cons_succ, List.getD_cons_zero, List.length_cons, List.length_nil, List.range, List.range.loop, u0, u1, u2, u4, u6, u7, u8, Act.put, List.setIfInBounds_toArray, List.set_cons_succ, List.set_cons_zero]
    clear u0 u1 u2 u4 u6 u7 u8
    rw [hL 7 (by simp)] at hI
    obtain ⟨hbW, v, s', h1, -, h3⟩ := hI
    obtain ⟨a8, c8, rfl, rfl, r8⟩ := h3 rfl
    have r8' := r8.wide fun k hk => hk.2
    have e0 : W.cell? ⟨w3.heap.size, 0, none⟩ = some (.slice a8 m c8) := h1.cell 0
    have e1 : W.cell? ⟨w3.heap.size, 1, none⟩ = some (.int .i64 m) := h1.cell 1
    have rc0 := Lib.hid r8'
    have bq0 := Lib.hid (bq3.out.go (hbW : Below w3.heap.size w3 W))
    have B0 := Lib.hid (up B3.out hbW)
    have g0 := Lib.hid (g3.out.below' hbW)
    clear hbW h1 h3 r8 r8' U4 X4 HRc HT HY HC bq3 B3 g3 rt3
    generalize w3.heap.size = T at *
    generalize x 3 = y3 at *
    generalize x 4 = y4 at *
    generalize x 5 = y5 at *
    go_wp2_with fail
    refine (HR.out _ _ _ g0.out rc0.out).mono ?_
    rintro e w1 ⟨j, ag, au, cg, cu, hj1, hj2, hj3, rfl, rg, ru, hb⟩
    have B1 := Lib.hid (up B0.out hb)
    have g1 := Lib.hid (g0.out.below' hb)
    have rc1 := Lib.hid (rc0.out.go hb)
    have bq1 := Lib.hid (bq0.out.go hb)
    have rg1 := Lib.hid rg
    have ru1 := Lib.hid ru
    clear B0 g0 rc0 bq0 hb rg ru
    clear rc1
    have hmin : min (m : Int) ((offR rs j : Nat) : Int) = ((offR rs j : Nat) : Int) := by omega
    clear e0 e1 hj3
    have q0 := bq1.out.cell 0
    have q1 := bq1.out.cell 1
    have q2 := bq1.out.cell 2
    have q3 := bq1.out.cell 3
    have q4 := bq1.out.cell 4
    simp only [List.getElem?_toArray, List.getElem?_cons_zero, List.getElem?_cons_succ] at q0 q1 q2 q3 q4
    have lq := bq1.out.lt
    go_wp2_with fail
    refine abs_run (fun W => Below w1.heap.size w1 W ∧ Blk w1.heap.size (.cells #[.slice au (offR rs j) cu, .int .i64 ((offR rs j : Nat) : Int)] 27 (0, 0)) W) ⟨(by (repeat (first | exact Below.refl _ _ | assumption | (refine Below.drew ?_) | (refine below_drewN ?_ _) | (refine Below.alloc ?_ (by first | (simp; done) | (simp; omega) | omega) _) | (refine Below.setCell ?_ (by first | (simp; done) | (simp; omega) | omega) _) | (refine Below.trans ?_ (Below.mono (by assumption) (by first | (simp; done) | (simp; omega) | omega)))))), Blk.new w1 _⟩ ?_
    rintro w2 ⟨hb, b11⟩
    have B2 := Lib.hid (up B1.out hb)
    have g2 := Lib.hid (g1.out.below' hb)
    have bq2 := Lib.hid (bq1.out.go hb)
    have rg2 := Lib.hid (rg1.out.go hb)
    have ru2 := Lib.hid (ru1.out.go hb)
    have b112 := Lib.hid b11
    clear B1 g1 bq1 rg1 ru1 hb b11
    refine (HRec.out _ B2.out).mono ?_
    rintro e w3 ⟨ax, cx, rfl, rx, hb⟩
    have B3 := Lib.hid (up B2.out hb)
    have g3 := Lib.hid (g2.out.below' hb)
    have bq3 := Lib.hid (bq2.out.go hb)
    have rg3 := Lib.hid (rg2.out.go hb)
    have ru3 := Lib.hid (ru2.out.go hb)
    have b113 := Lib.hid (b112.out.go hb)
    have rx3 := Lib.hid rx
    clear B2 g2 bq2 rg2 ru2 b112 hb rx
    clear bq3
    clear q0 q1 q2 q3 q4 lq
    have p0 := b113.out.cell 0
    have p1 := b113.out.cell 1
    simp only [List.getElem?_toArray, List.getElem?_cons_zero, List.getElem?_cons_succ] at p0 p1
    have lp := b113.out.lt
    go_wp2_with fail
    refine abs_run (fun W => Below w3.heap.size w3 W ∧ Blk w3.heap.size (.cells #[.int .i64 xr.epoch, .slice ax xr.op.length cx] 33 (0, 0)) W) ⟨(by (repeat (first | exact Below.refl _ _ | assumption | (refine Below.drew ?_) | (refine below_drewN ?_ _) | (refine Below.alloc ?_ (by first | (simp; done) | (simp; omega) | omega) _) | (refine Below.setCell ?_ (by first | (simp; done) | (simp; omega) | omega) _) | (refine Below.trans ?_ (Below.mono (by assumption) (by first | (simp; done) | (simp; omega) | omega)))))), Blk.new w3 _⟩ ?_
    rintro w4 ⟨hb, b13⟩
    have B4 := Lib.hid (up B3.out hb)
    have g4 := Lib.hid (g3.out.below' hb)
    have rg4 := Lib.hid (rg3.out.go hb)
    have ru4 := Lib.hid (ru3.out.go hb)
    have b114 := Lib.hid (b113.out.go hb)
    have rx4 := Lib.hid (rx3.out.go hb)
    have b134 := Lib.hid b13
    clear B3 g3 rg3 ru3 b113 rx3 hb b13
    refine (HA.out j (offR rs j) rfl ((offR rs j : Nat) : Int) (by omega) (by omega) (by omega) _ _ _ _ _ _ g4.out ru4.out rx4.out).mono ?_
    rintro e w5 ⟨ay, cy, rfl, ry, hb⟩
    have B5 := Lib.hid (up B4.out hb)
    have g5 := Lib.hid (g4.out.below' hb)
    have rg5 := Lib.hid (rg4.out.go hb)
    have ru5 := Lib.hid (ru4.out.go hb)
    have b115 := Lib.hid (b114.out.go hb)
    have rx5 := Lib.hid (rx4.out.go hb)
    have b135 := Lib.hid (b134.out.go hb)
    have ry5 := Lib.hid ry
    clear B4 g4 rg4 ru4 b114 rx4 b134 hb ry
    clear b115
    clear p0 p1 lp
    have Hoj := Lib.hid (p := offR rs j ≤ (tapeB (rs.take j ++ [xr])).length) (by rw [tapeB_app, List.length_append]; exact Nat.le_add_right _ _)
    have hoj := Hoj.out
    generalize hN2 : (tapeB (rs.take j ++ [xr])).length = N2 at *
    go_wp2_with fail
    refine abs_run (fun W => Below w5.heap.size w5 W ∧ Blk w5.heap.size (.cells #[.slice ay N2 cy, .int .i64 ((offR rs j : Nat) : Int)] 27 (0, 0)) W) ⟨(by (repeat (first | exact Below.refl _ _ | assumption | (refine Below.drew ?_) | (refine below_drewN ?_ _) | (refine Below.alloc ?_ (by first | (simp; done) | (simp; omega) | omega) _) | (refine Below.setCell ?_ (by first | (simp; done) | (simp; omega) | omega) _) | (refine Below.trans ?_ (Below.mono (by assumption) (by first | (simp; done) | (simp; omega) | omega)))))), Blk.new w5 _⟩ ?_
    rintro w6 ⟨hb, b14⟩
    have B6 := Lib.hid (up B5.out hb)
    have g6 := Lib.hid (g5.out.below' hb)
    have rg6 := Lib.hid (rg5.out.go hb)
    have ru6 := Lib.hid (ru5.out.go hb)
    have rx6 := Lib.hid (rx5.out.go hb)
    have b136 := Lib.hid (b135.out.go hb)
    have ry6 := Lib.hid (ry5.out.go hb)
    have b146 := Lib.hid b14
    clear B5 g5 rg5 ru5 rx5 b135 ry5 hb b14
    refine (HR2.out j hj1 N2 hN2.symm ((offR rs j : Nat) : Int) (by omega) (by omega) _ _ _ g6.out ry6.out).mono ?_
    rintro e w7 ⟨ah, ch, av, cv, rfl, rh, rv, hb⟩
    have B7 := Lib.hid (up B6.out hb)
    have g7 := Lib.hid (g6.out.below' hb)
    have rg7 := Lib.hid (rg6.out.go hb)
    have ru7 := Lib.hid (ru6.out.go hb)
    have rx7 := Lib.hid (rx6.out.go hb)
    have b137 := Lib.hid (b136.out.go hb)
    have ry7 := Lib.hid (ry6.out.go hb)
    have b147 := Lib.hid (b146.out.go hb)
    have rh7 := Lib.hid rh
    have rv7 := Lib.hid rv
    clear B6 g6 rg6 ru6 rx6 b136 ry6 b146 hb rh rv
    clear b147
    go_wp2_with fail
    have hjl : j < (rs.take j ++ [xr]).length := by rw [List.length_append, List.length_take, List.length_singleton]; omega
    have hjx : (rs.take j ++ [xr])[j] = xr := by rw [List.getElem_append_right (by rw [List.length_take]; omega)]; simp
    obtain ⟨bh, offh, rfl, hAh, hbh, hch⟩ := rh7.out.recs (by omega)
    obtain ⟨ya, yn, yc, y1, hy, d0, d1⟩ := hch j hjl
    rw [hjx] at hy d0
    refine abs_w (fun W => Below w7.heap.size w7 W) (by (repeat (first | exact Below.refl _ _ | assumption | (refine Below.drew ?_) | (refine below_drewN ?_ _) | (refine Below.alloc ?_ (by first | (simp; done) | (simp; omega) | omega) _) | (refine Below.setCell ?_ (by first | (simp; done) | (simp; omega) | omega) _) | (refine Below.trans ?_ (Below.mono (by assumption) (by first | (simp; done) | (simp; omega) | omega)))))) ?_
    intro wz hwz
    have hzb : bh < wz.heap.size := Nat.lt_of_lt_of_le hbh hwz.size
    have z0 : wz.cell? ⟨bh, offh + j * 2, none⟩ = some (.int .i64 xr.epoch) := (hwz.cell (p := ⟨bh, offh + j * 2, none⟩) hbh).trans d0
    have z1 : wz.cell? ⟨bh, offh + j * 2 + 1, none⟩ = some (.slice ya yn yc) := (hwz.cell (p := ⟨bh, offh + j * 2 + 1, none⟩) hbh).trans d1
    have x13 := b137.out.go hwz
    have l13 := x13.lt
    have z2 : wz.cell? ⟨w3.heap.size, 0, none⟩ = some (.int .i64 xr.epoch) := x13.cell 0
    have z3 : wz.cell? ⟨w3.heap.size, 1, none⟩ = some (.slice ax xr.op.length cx) := x13.cell 1
    have HBW := Lib.hid (up B7.out hwz)
    have HBG := Lib.hid (fun W (u : Below wz.heap.size wz W) => HB.out j hj1 _ _ _ _ _ _ W ((rg7.out.go hwz).go u) ((rh7.out.go hwz).go u))
    have HSM := Lib.hid (fun W (u : Below wz.heap.size wz W) => HS.out _ _ _ _ _ _ W ((hy.go hwz).go u) ((rx7.out.go hwz).go u))
    clear hch hy d0 d1 hAh y1 x13 hwz rg7 rh7 rx7 rv7 ry7 ru7 b137 B7 g7 HB HS HR HR2 HA HRec hjx hjl
    generalize w3.heap.size = T13 at *
    have hj15 : j ≤ 15 := by have := Hlen.out; omega
    generalize xr.op.length = nx at *
    refine region_lit2 (by kernel_rfl) (by kernel_rfl) (by kernel_rfl) [[], [0], [0, 1], [0, 1, 2], [0, 1, 2, 3], [0, 1, 2, 3, 4], [0, 1, 2, 3, 4, 5], [0, 1, 2, 3, 4, 5, 6], [0, 1, 2, 3, 4, 5, 6, 7], [0, 1, 2, 3, 4, 5, 6, 7, 8], [0, 1, 2, 3, 4, 5, 6, 7, 8, 9], [0, 1, 2, 3, 4, 5, 6, 7, 8, 9, 10], [0, 1, 2, 3, 4, 5, 6, 7, 8, 9, 10, 11], [0, 1, 2, 3, 4, 5, 6, 7, 8, 9, 10, 11, 12], [0, 1, 2, 3, 4, 5, 6, 7, 8, 9, 10, 11, 12, 13], [0, 1, 2, 3, 4, 5, 6, 7, 8, 9, 10, 11, 12, 13, 14], [0, 1, 2, 3, 4, 5, 6, 7, 8, 9, 10, 11, 12, 13, 14, 15], [0, 1, 2, 3, 4, 5, 6, 7, 8, 9, 10, 11, 12, 13, 14, 15, 16], [0, 1, 2, 3, 4, 5, 6, 7, 8, 9, 10, 11, 12, 13, 14, 15, 16, 17], [0, 1, 2, 3, 4, 5, 6, 7, 8, 9, 10, 11, 12, 13, 14, 15, 16, 17, 18], [0, 1, 2, 3, 4, 5, 6, 7, 8, 9, 10, 11, 12, 13, 14, 15, 16, 17], [0, 1, 2, 3, 4, 5, 6, 7, 8, 9, 10, 11, 12, 13, 14, 15, 16, 17, 20], [0, 1, 2, 3, 4, 5, 6, 7, 8, 9, 10, 11, 12, 13, 14, 15, 16, 17, 20, 21], [0, 1, 2, 3, 4, 5, 6, 7, 8, 9, 10, 11, 12, 13, 14, 15, 16, 17, 18, 19, 20, 21, 22], [0, 1, 2, 3, 4, 5, 6, 7, 8, 9, 10, 11, 12, 13, 14, 15, 16, 17, 18, 19, 20, 21, 22, 23], [0, 1, 2, 3, 4, 5, 6, 7, 8, 9, 10, 11, 12, 13, 14, 15, 16, 17, 18, 19, 20, 21, 22, 23, 24], [0, 1, 2, 3, 4, 5, 6, 7, 8, 9, 10, 11, 12, 13, 14, 15, 16, 17, 18, 19, 20, 21, 22, 23, 24, 25], [0, 1, 2, 3, 4, 5, 6, 7, 8, 9, 10, 11, 12, 13, 14, 15, 16, 17, 18, 19, 20, 21, 22, 23, 24, 25], [0, 1, 2, 3, 4, 5, 6, 7, 8, 9, 10, 11, 12, 13, 14, 15, 16, 17, 18, 19, 20, 21, 22, 23, 24, 25, 26, 27], [0, 1, 2, 3, 4, 5, 6, 7, 8, 9, 10, 11, 12, 13, 14, 15, 16, 17, 18, 19, 20, 21, 22, 23, 24, 25, 26, 27, 28], [0, 1, 2, 3, 4, 5, 6, 7, 8, 9, 10, 11, 12, 13, 14, 15, 16, 17, 18, 19, 20, 21, 22, 23, 24, 25, 26, 27, 28, 29], [0, 1, 2, 3, 4, 5, 6, 7, 8, 9, 10, 11, 12, 13, 14, 15, 16, 17, 18, 19, 20, 21, 22, 23, 24, 25, 26, 27, 28, 29, 30], [0, 1, 2, 3, 4, 5, 6, 7, 8, 9, 10, 11, 12, 13, 14, 15, 16, 17, 18, 19, 20, 21, 22, 23, 24, 25, 26, 27, 28, 29, 30], [0, 1, 2, 3, 4, 5, 6, 7, 8, 9, 10, 11, 12, 13, 14, 15, 16, 17, 18, 19, 20, 21, 22, 23, 24, 25, 26, 27, 28, 29, 30, 32], [0, 1, 2, 3, 4, 5, 6, 7, 8, 9, 10, 11, 12, 13, 14, 15, 16, 17, 18, 19, 20, 21, 22, 23, 24, 25, 26, 27, 28, 29, 30, 31, 32, 33], [0, 1, 2, 3, 4, 5, 6, 7, 8, 9, 10, 11, 12, 13, 14, 15, 16, 17, 18, 19, 20, 21, 22, 23, 24, 25, 26, 27, 28, 29, 30, 31, 32, 33, 34], [0, 1, 2, 3, 4, 5, 6, 7, 8, 9, 10, 11, 12, 13, 14, 15, 16, 17, 18, 19, 20, 21, 22, 23, 24, 25, 26, 27, 28, 29, 30], [0, 1, 2, 3, 4, 5, 6, 7, 8, 9, 10, 11, 12, 13, 14, 15, 16, 17, 18, 19, 20, 21, 22, 23, 24, 25, 26, 27, 28, 29, 30, 31, 32, 33, 34, 35, 36], [0, 1, 2, 3, 4, 5, 6, 7, 8, 9, 10, 11, 12, 13, 14, 15, 16, 17, 18, 19, 20, 21, 22, 23, 24, 25, 26, 27, 28, 29, 30, 31, 32, 33, 34, 35, 36, 37], [0, 1, 2, 3, 4, 5, 6, 7, 8, 9, 10, 11, 12, 13, 14, 15, 16, 17, 18, 19, 20, 21, 22, 23, 24, 25, 26, 27, 28, 29, 30, 31, 32, 33, 34, 35, 36, 37, 38]] (by kernel_rfl) [some 53, some 54, some 55, some 56, some 57, some 58, some 59, some 60, some 61, some 62, some 63, some 64, some 65, some 66, some 67, some 68, some 69, some 70, some 71, some 72, some 73, some 74, some 75, some 76, some 77, some 78, some 79, some 80, some 81, some 82, some 83, some 84, some 85, some 86, some 87, some 88, some 89, some 90, some 91, some 6] (by kernel_rfl) [false, false, false, false, false, false, false, false, false, false, false, false, false, false, false, false, false, false, false, false, false, false, false, false, false, false, false, false, false, false, false, false, false, false, false, false, false, false, false, true] (by kernel_rfl)
      (fun W => Below wz.heap.size wz W)
      (fun i v W => match i with
        | 0 => v = .bool true
        | 1 => v = .bool true
        | 2 => v = .int .i64 0
        | 3 => v = .bool true
        | 4 => v = .bool true
        | 5 => v = .bool true
        | 6 => v = .int .i64 0
        | 7 => v = .bool true
        | 8 => v = .bool true
        | 9 => v = .bool true
        | 10 => v = .int .i64 0
        | 11 => v = .bool true
        | 12 => v = .bool true
        | 13 => v = .bool true
        | 14 => v = .int .i64 0
        | 15 => v = .bool true
        | 16 => v = .bool true
        | 17 => v = .bool true
        | 18 => v = .slice (some ⟨bh, offh, none⟩) (j + 1) ch
        | 19 => v = .int .i64 ((j : Int) + 1)
        | 20 => v = .slice ag j cg
        | 21 => v = .int .i64 (j : Int)
        | 22 => v = .int .i64 ((j : Int) + 1)
        | 23 => v = .bool true
        | 24 => v = .bool true
        | 25 => v = .bool true
        | 26 => v = .slice ag j cg
        | 27 => v = .slice (some ⟨bh, offh, none⟩) (j + 1) ch
        | 28 => v = .bool true
        | 29 => v = .bool true
        | 30 => v = .bool true
        | 31 => v = .slice (some ⟨bh, offh, none⟩) (j + 1) ch
        | 32 => v = .slice ag j cg
        | 33 => v = .int .i64 (j : Int)
        | 34 => v = .pointer (some ⟨bh, offh + j * 2, none⟩)
        | 35 => v = .agg #[.int .i64 xr.epoch, .slice ya yn yc]
        | 36 => v = .agg #[.int .i64 xr.epoch, .slice ax nx cx]
        | 37 => v = .bool true
        | 38 => v = .bool true
        | _ => v = .bool true)
      (fun W W' => Below W.heap.size W W')
      [fun x => ⟨#[undef, undef, undef, undef, undef, undef, undef, undef, .bool true, undef, undef, undef, undef, undef, undef, undef, undef, undef, undef, undef, undef, undef, undef, undef, undef, undef, undef, undef, undef, undef, undef, undef, undef, undef, undef, undef, undef, undef, undef, undef, undef, undef, undef, undef, undef, undef, undef, undef, undef, undef, undef, undef, undef, undef], []⟩,
   fun x => ⟨#[undef, undef, undef, undef, undef, undef, undef, undef, undef, undef, undef, undef, undef, undef, undef, undef, undef, undef, undef, undef, undef, undef, undef, undef, undef, undef, undef, undef, undef, undef, undef, undef, undef, undef, undef, undef, undef, undef, undef, undef, undef, undef, undef, undef, undef, undef, undef, undef, undef, undef, undef, undef, undef, x 0, undef], []⟩,
   fun x => ⟨#[undef, undef, undef, undef, undef, undef, undef, undef, undef, .int .i64 0, undef, undef, undef, undef, undef, undef, undef, undef, undef, undef, undef, undef, undef, undef, undef, undef, undef, undef, undef, undef, undef, undef, undef, undef, undef, undef, undef, undef, undef, undef, undef, undef, undef, undef, undef, undef, undef, undef, undef, undef, undef, undef, undef, undef, x 1, undef], []⟩,
   fun x => ⟨#[undef, undef, undef, undef, undef, undef, undef, undef, undef, undef, undef, undef, undef, undef, undef, undef, undef, undef, undef, undef, undef, undef, undef, undef, undef, undef, undef, undef, undef, undef, undef, undef, undef, undef, undef, undef, undef, undef, undef, undef, undef, undef, undef, undef, undef, undef, undef, undef, undef, undef, undef, undef, undef, undef, x 1, x 2, undef], []⟩,
   fun x => ⟨#[undef, undef, undef, undef, undef, undef, undef, undef, undef, undef, undef, undef, undef, undef, undef, undef, undef, undef, undef, undef, undef, undef, undef, undef, undef, undef, undef, undef, undef, undef, undef, undef, undef, undef, undef, undef, undef, undef, undef, undef, undef, undef, undef, undef, undef, undef, undef, undef, undef, undef, undef, undef, undef, undef, x 1, undef, x 3, undef], []⟩,
   fun x => ⟨#[undef, undef, undef, undef, undef, undef, undef, undef, undef, undef, undef, undef, undef, undef, undef, undef, undef, undef, undef, undef, undef, undef, undef, undef, undef, undef, undef, undef, undef, undef, undef, undef, undef, undef, undef, undef, undef, undef, undef, undef, undef, undef, undef, undef, undef, undef, undef, undef, undef, undef, undef, undef, undef, undef, undef, undef, undef, x 4, undef], []⟩,
   fun x => ⟨#[undef, undef, undef, undef, undef, undef, undef, undef, undef, undef, undef, undef, .int .i64 0, undef, undef, undef, undef, undef, undef, undef, undef, undef, undef, undef, undef, undef, undef, undef, undef, undef, undef, undef, undef, undef, undef, undef, undef, undef, undef, undef, undef, undef, undef, undef, undef, undef, undef, undef, undef, undef, undef, undef, undef, undef, undef, undef, undef, undef, x 5, undef], []⟩,
   fun x => ⟨#[undef, undef, undef, undef, undef, undef, undef, undef, undef, undef, undef, undef, undef, undef, undef, undef, undef, undef, undef, undef, undef, undef, undef, undef, undef, undef, undef, undef, undef, undef, undef, undef, undef, undef, undef, undef, undef, undef, undef, undef, undef, undef, undef, undef, undef, undef, undef, undef, undef, undef, undef, undef, undef, undef, undef, undef, undef, undef, x 5, x 6, undef], []⟩,
   fun x => ⟨#[undef, undef, undef, undef, undef, undef, undef, undef, undef, undef, undef, undef, undef, undef, undef, undef, undef, undef, undef, undef, undef, undef, undef, undef, undef, undef, undef, undef, undef, undef, undef, undef, undef, undef, undef, undef, undef, undef, undef, undef, undef, undef, undef, undef, undef, undef, undef, undef, undef, undef, undef, undef, undef, undef, undef, undef, undef, undef, x 5, undef, x 7, undef], []⟩,
   fun x => ⟨#[undef, undef, undef, undef, undef, undef, undef, undef, undef, undef, undef, undef, undef, undef, undef, undef, undef, undef, undef, undef, undef, undef, undef, undef, undef, undef, undef, undef, undef, undef, undef, undef, undef, undef, undef, undef, undef, undef, undef, undef, undef, undef, undef, undef, undef, undef, undef, undef, undef, undef, undef, undef, undef, undef, undef, undef, undef, undef, undef, undef, undef, x 8, undef], []⟩,
   fun x => ⟨#[undef, undef, undef, undef, undef, undef, undef, undef, undef, undef, undef, undef, undef, undef, undef, .int .i64 0, undef, undef, undef, undef, undef, undef, undef, undef, undef, undef, undef, undef, undef, undef, undef, undef, undef, undef, undef, undef, undef, undef, undef, undef, undef, undef, undef, undef, undef, undef, undef, undef, undef, undef, undef, undef, undef, undef, undef, undef, undef, undef, undef, undef, undef, undef, x 9, undef], []⟩,
   fun x => ⟨#[undef, undef, undef, undef, undef, undef, undef, undef, undef, undef, undef, undef, undef, undef, undef, undef, undef, undef, undef, undef, undef, undef, undef, undef, undef, undef, undef, undef, undef, undef, undef, undef, undef, undef, undef, undef, undef, undef, undef, undef, undef, undef, undef, undef, undef, undef, undef, undef, undef, undef, undef, undef, undef, undef, undef, undef, undef, undef, undef, undef, undef, undef, x 9, x 10, undef], []⟩,
   fun x => ⟨#[undef, undef, undef, undef, undef, undef, undef, undef, undef, undef, undef, undef, undef, undef, undef, undef, undef, undef, undef, undef, undef, undef, undef, undef, undef, undef, undef, undef, undef, undef, undef, undef, undef, undef, undef, undef, undef, undef, undef, undef, undef, undef, undef, undef, undef, undef, undef, undef, undef, undef, undef, undef, undef, undef, undef, undef, undef, undef, undef, undef, undef, undef, x 9, undef, x 11, undef], []⟩,
   fun x => ⟨#[undef, undef, undef, undef, undef, undef, undef, undef, undef, undef, undef, undef, undef, undef, undef, undef, undef, undef, undef, undef, undef, undef, undef, undef, undef, undef, undef, undef, undef, undef, undef, undef, undef, undef, undef, undef, undef, undef, undef, undef, undef, undef, undef, undef, undef, undef, undef, undef, undef, undef, undef, undef, undef, undef, undef, undef, undef, undef, undef, undef, undef, undef, undef, undef, undef, x 12, undef], []⟩,
   fun x => ⟨#[undef, undef, undef, undef, undef, undef, undef, undef, undef, undef, undef, undef, undef, undef, undef, undef, undef, undef, .int .i64 0, undef, undef, undef, undef, undef, undef, undef, undef, undef, undef, undef, undef, undef, undef, undef, undef, undef, undef, undef, undef, undef, undef, undef, undef, undef, undef, undef, undef, undef, undef, undef, undef, undef, undef, undef, undef, undef, undef, undef, undef, undef, undef, undef, undef, undef, undef, undef, x 13, undef], []⟩,
   fun x => ⟨#[undef, undef, undef, undef, undef, undef, undef, undef, undef, undef, undef, undef, undef, undef, undef, undef, undef, undef, undef, undef, undef, undef, undef, undef, undef, undef, undef, undef, undef, undef, undef, undef, undef, undef, undef, undef, undef, undef, undef, undef, undef, undef, undef, undef, undef, undef, undef, undef, undef, undef, undef, undef, undef, undef, undef, undef, undef, undef, undef, undef, undef, undef, undef, undef, undef, undef, x 13, x 14, undef], []⟩,
   fun x => ⟨#[undef, undef, undef, undef, undef, undef, undef, undef, undef, undef, undef, undef, undef, undef, undef, undef, undef, undef, undef, undef, undef, undef, undef, undef, undef, undef, undef, undef, undef, undef, undef, undef, undef, undef, undef, undef, undef, undef, undef, undef, undef, undef, undef, undef, undef, undef, undef, undef, undef, undef, undef, undef, undef, undef, undef, undef, undef, undef, undef, undef, undef, undef, undef, undef, undef, undef, x 13, undef, x 15, undef], []⟩,
   fun x => ⟨#[undef, undef, undef, undef, undef, undef, undef, undef, undef, undef, undef, undef, undef, undef, undef, undef, undef, undef, undef, undef, undef, undef, undef, undef, undef, undef, undef, undef, undef, undef, undef, undef, undef, undef, undef, undef, undef, undef, undef, undef, undef, undef, undef, undef, undef, undef, undef, undef, undef, undef, undef, undef, undef, undef, undef, undef, undef, undef, undef, undef, undef, undef, undef, undef, undef, undef, undef, undef, undef, x 16, undef], []⟩,
   fun x => ⟨#[undef, undef, undef, undef, undef, undef, undef, undef, undef, undef, undef, undef, undef, undef, undef, undef, .slice (some ⟨bh, offh, none⟩) (j + 1) ch, undef, undef, undef, undef, undef, undef, undef, undef, undef, undef, undef, undef, undef, undef, undef, undef, undef, undef, undef, undef, undef, undef, undef, undef, undef, undef, undef, undef, undef, undef, undef, undef, undef, undef, undef, undef, undef, undef, undef, undef, undef, undef, undef, undef, undef, undef, undef, undef, undef, undef, undef, undef, undef, x 17, undef], []⟩,
   fun x => ⟨#[undef, undef, undef, undef, undef, undef, undef, undef, undef, undef, undef, undef, undef, undef, undef, undef, undef, undef, undef, undef, undef, undef, undef, undef, undef, undef, undef, undef, undef, undef, undef, undef, undef, undef, undef, undef, undef, undef, undef, undef, undef, undef, undef, undef, undef, undef, undef, undef, undef, undef, undef, undef, undef, undef, undef, undef, undef, undef, undef, undef, undef, undef, undef, undef, undef, undef, undef, undef, undef, undef, x 17, x 18, undef], []⟩,
   fun x => ⟨#[undef, undef, undef, undef, undef, undef, undef, undef, undef, undef, .slice ag j cg, undef, undef, undef, undef, undef, undef, undef, undef, undef, undef, undef, undef, undef, undef, undef, undef, undef, undef, undef, undef, undef, undef, undef, undef, undef, undef, undef, undef, undef, undef, undef, undef, undef, undef, undef, undef, undef, undef, undef, undef, undef, undef, undef, undef, undef, undef, undef, undef, undef, undef, undef, undef, undef, undef, undef, undef, undef, undef, undef, x 17, undef, undef, undef], []⟩,
   fun x => ⟨#[undef, undef, undef, undef, undef, undef, undef, undef, undef, undef, undef, undef, undef, undef, undef, undef, undef, undef, undef, undef, undef, undef, undef, undef, undef, undef, undef, undef, undef, undef, undef, undef, undef, undef, undef, undef, undef, undef, undef, undef, undef, undef, undef, undef, undef, undef, undef, undef, undef, undef, undef, undef, undef, undef, undef, undef, undef, undef, undef, undef, undef, undef, undef, undef, undef, undef, undef, undef, undef, undef, x 17, undef, undef, x 20, undef], []⟩,
   fun x => ⟨#[undef, undef, undef, undef, undef, undef, undef, undef, undef, undef, undef, undef, undef, undef, undef, undef, undef, undef, undef, undef, undef, undef, undef, undef, undef, undef, undef, undef, undef, undef, undef, undef, undef, undef, undef, undef, undef, undef, undef, undef, undef, undef, undef, undef, undef, undef, undef, undef, undef, undef, undef, undef, undef, undef, undef, undef, undef, undef, undef, undef, undef, undef, undef, undef, undef, undef, undef, undef, undef, undef, x 17, undef, undef, undef, x 21, undef], []⟩,
   fun x => ⟨#[undef, undef, undef, undef, undef, undef, undef, undef, undef, undef, undef, undef, undef, undef, undef, undef, undef, undef, undef, undef, undef, undef, undef, undef, undef, undef, undef, undef, undef, undef, undef, undef, undef, undef, undef, undef, undef, undef, undef, undef, undef, undef, undef, undef, undef, undef, undef, undef, undef, undef, undef, undef, undef, undef, undef, undef, undef, undef, undef, undef, undef, undef, undef, undef, undef, undef, undef, undef, undef, undef, x 17, undef, x 19, undef, undef, x 22, undef], []⟩,
   fun x => ⟨#[undef, undef, undef, undef, undef, undef, undef, undef, undef, undef, undef, undef, undef, undef, undef, undef, undef, undef, undef, undef, undef, undef, undef, undef, undef, undef, undef, undef, undef, undef, undef, undef, undef, undef, undef, undef, undef, undef, undef, undef, undef, undef, undef, undef, undef, undef, undef, undef, undef, undef, undef, undef, undef, undef, undef, undef, undef, undef, undef, undef, undef, undef, undef, undef, undef, undef, undef, undef, undef, undef, x 17, undef, undef, undef, undef, undef, x 23, undef], []⟩,
   fun x => ⟨#[undef, undef, undef, undef, undef, undef, undef, undef, undef, undef, undef, undef, undef, undef, undef, undef, undef, undef, undef, undef, undef, undef, undef, undef, undef, undef, undef, undef, undef, undef, undef, undef, undef, undef, undef, undef, undef, undef, undef, undef, undef, undef, undef, undef, undef, undef, undef, undef, undef, undef, undef, undef, undef, undef, undef, undef, undef, undef, undef, undef, undef, undef, undef, undef, undef, undef, undef, undef, undef, undef, undef, undef, undef, undef, undef, undef, undef, x 24, undef], []⟩,
   fun x => ⟨#[undef, undef, undef, undef, undef, undef, undef, undef, undef, undef, .slice ag j cg, undef, undef, undef, undef, undef, undef, undef, undef, undef, undef, undef, undef, undef, undef, undef, undef, undef, undef, undef, undef, undef, undef, undef, undef, undef, undef, undef, undef, undef, undef, undef, undef, undef, undef, undef, undef, undef, undef, undef, undef, undef, undef, undef, undef, undef, undef, undef, undef, undef, undef, undef, undef, undef, undef, undef, undef, undef, undef, undef, undef, undef, undef, undef, undef, undef, undef, undef, x 25, undef], []⟩,
   fun x => ⟨#[undef, undef, undef, undef, undef, undef, undef, undef, undef, undef, undef, undef, undef, undef, undef, undef, .slice (some ⟨bh, offh, none⟩) (j + 1) ch, undef, undef, undef, undef, undef, undef, undef, undef, undef, undef, undef, undef, undef, undef, undef, undef, undef, undef, undef, undef, undef, undef, undef, undef, undef, undef, undef, undef, undef, undef, undef, undef, undef, undef, undef, undef, undef, undef, undef, undef, undef, undef, undef, undef, undef, undef, undef, undef, undef, undef, undef, undef, undef, undef, undef, undef, undef, undef, undef, undef, undef, x 25, undef, undef], []⟩,
   fun x => ⟨#[undef, undef, undef, undef, undef, undef, undef, undef, undef, undef, undef, undef, undef, undef, undef, undef, undef, undef, undef, undef, undef, undef, undef, undef, undef, undef, undef, undef, undef, undef, undef, undef, undef, undef, undef, undef, undef, undef, undef, undef, undef, undef, undef, undef, undef, undef, undef, undef, undef, undef, undef, undef, undef, undef, undef, undef, undef, undef, undef, undef, undef, undef, undef, undef, undef, undef, undef, undef, undef, undef, undef, undef, undef, undef, undef, undef, undef, undef, x 25, x 26, x 27, undef], []⟩,
   fun x => ⟨#[undef, undef, undef, undef, undef, undef, undef, undef, undef, undef, undef, undef, undef, undef, undef, undef, undef, undef, undef, undef, undef, undef, undef, undef, undef, undef, undef, undef, undef, undef, undef, undef, undef, undef, undef, undef, undef, undef, undef, undef, undef, undef, undef, undef, undef, undef, undef, undef, undef, undef, undef, undef, undef, undef, undef, undef, undef, undef, undef, undef, undef, undef, undef, undef, undef, undef, undef, undef, undef, undef, undef, undef, undef, undef, undef, undef, undef, undef, x 25, undef, undef, x 28, undef], []⟩,
   fun x => ⟨#[undef, undef, undef, undef, undef, undef, undef, undef, undef, undef, undef, undef, undef, undef, undef, undef, undef, undef, undef, undef, undef, undef, undef, undef, undef, undef, undef, undef, undef, undef, undef, undef, undef, undef, undef, undef, undef, undef, undef, undef, undef, undef, undef, undef, undef, undef, undef, undef, undef, undef, undef, undef, undef, undef, undef, undef, undef, undef, undef, undef, undef, undef, undef, undef, undef, undef, undef, undef, undef, undef, undef, undef, undef, undef, undef, undef, undef, undef, undef, undef, undef, undef, x 29, undef], []⟩,
   fun x => ⟨#[undef, undef, undef, undef, undef, undef, undef, undef, undef, undef, undef, undef, undef, undef, undef, undef, .slice (some ⟨bh, offh, none⟩) (j + 1) ch, undef, undef, undef, undef, undef, undef, undef, undef, undef, undef, undef, undef, undef, undef, undef, undef, undef, undef, undef, undef, undef, undef, undef, undef, undef, undef, undef, undef, undef, undef, undef, undef, undef, undef, undef, undef, undef, undef, undef, undef, undef, undef, undef, undef, undef, undef, undef, undef, undef, undef, undef, undef, undef, undef, undef, undef, undef, undef, undef, undef, undef, undef, undef, undef, undef, undef, x 30, undef], []⟩,
   fun x => ⟨#[undef, undef, undef, undef, undef, undef, undef, undef, undef, undef, .slice ag j cg, undef, undef, undef, undef, undef, undef, undef, undef, undef, undef, undef, undef, undef, undef, undef, undef, undef, undef, undef, undef, undef, undef, undef, undef, undef, undef, undef, undef, undef, undef, undef, undef, undef, undef, undef, undef, undef, undef, undef, undef, undef, undef, undef, undef, undef, undef, undef, undef, undef, undef, undef, undef, undef, undef, undef, undef, undef, undef, undef, undef, undef, undef, undef, undef, undef, undef, undef, undef, undef, undef, undef, undef, x 30, undef, undef], []⟩,
   fun x => ⟨#[undef, undef, undef, undef, undef, undef, undef, undef, undef, undef, undef, undef, undef, undef, undef, undef, undef, undef, undef, undef, undef, undef, undef, undef, undef, undef, undef, undef, undef, undef, undef, undef, undef, undef, undef, undef, undef, undef, undef, undef, undef, undef, undef, undef, undef, undef, undef, undef, undef, undef, undef, undef, undef, undef, undef, undef, undef, undef, undef, undef, undef, undef, undef, undef, undef, undef, undef, undef, undef, undef, undef, undef, undef, undef, undef, undef, undef, undef, undef, undef, undef, undef, undef, x 30, undef, x 32, undef], []⟩,
   fun x => ⟨#[undef, undef, undef, undef, undef, undef, undef, undef, undef, undef, undef, undef, undef, undef, undef, undef, undef, undef, undef, undef, undef, undef, undef, undef, undef, undef, undef, undef, undef, undef, undef, undef, undef, undef, undef, undef, undef, undef, undef, undef, undef, undef, undef, undef, undef, undef, undef, undef, undef, undef, undef, undef, undef, undef, undef, undef, undef, undef, undef, undef, undef, undef, undef, undef, undef, undef, undef, undef, undef, undef, undef, undef, undef, undef, undef, undef, undef, undef, undef, undef, undef, undef, undef, x 30, x 31, undef, x 33, undef], []⟩,
   fun x => ⟨#[undef, undef, undef, undef, undef, undef, undef, undef, undef, undef, undef, undef, undef, undef, undef, undef, undef, undef, undef, undef, undef, undef, undef, undef, undef, undef, undef, undef, undef, undef, undef, undef, undef, undef, undef, undef, undef, undef, undef, undef, undef, undef, undef, undef, undef, undef, undef, undef, undef, undef, undef, undef, undef, undef, undef, undef, undef, undef, undef, undef, undef, undef, undef, undef, undef, undef, undef, undef, undef, undef, undef, undef, undef, undef, undef, undef, undef, undef, undef, undef, undef, undef, undef, x 30, undef, undef, undef, x 34, undef], []⟩,
   fun x => ⟨#[undef, undef, undef, undef, undef, undef, undef, undef, undef, undef, undef, undef, undef, .pointer (some ⟨T13, 0, none⟩), undef, undef, undef, undef, undef, undef, undef, undef, undef, undef, undef, undef, undef, undef, undef, undef, undef, undef, undef, undef, undef, undef, undef, undef, undef, undef, undef, undef, undef, undef, undef, undef, undef, undef, undef, undef, undef, undef, undef, undef, undef, undef, undef, undef, undef, undef, undef, undef, undef, undef, undef, undef, undef, undef, undef, undef, undef, undef, undef, undef, undef, undef, undef, undef, undef, undef, undef, undef, undef, x 30, undef, undef, undef, undef, undef, undef], []⟩,
   fun x => ⟨#[undef, undef, undef, undef, undef, undef, undef, undef, undef, undef, undef, undef, undef, undef, undef, undef, undef, undef, undef, undef, undef, undef, undef, undef, undef, undef, undef, undef, undef, undef, undef, undef, undef, undef, undef, undef, undef, undef, undef, undef, undef, undef, undef, undef, undef, undef, undef, undef, undef, undef, undef, undef, undef, undef, undef, undef, undef, undef, undef, undef, undef, undef, undef, undef, undef, undef, undef, undef, undef, undef, undef, undef, undef, undef, undef, undef, undef, undef, undef, undef, undef, undef, undef, x 30, undef, undef, undef, undef, x 35, x 36, undef], []⟩,
   fun x => ⟨#[undef, undef, undef, undef, undef, undef, undef, undef, undef, undef, undef, undef, undef, undef, undef, undef, undef, undef, undef, undef, undef, undef, undef, undef, undef, undef, undef, undef, undef, undef, undef, undef, undef, undef, undef, undef, undef, undef, undef, undef, undef, undef, undef, undef, undef, undef, undef, undef, undef, undef, undef, undef, undef, undef, undef, undef, undef, undef, undef, undef, undef, undef, undef, undef, undef, undef, undef, undef, undef, undef, undef, undef, undef, undef, undef, undef, undef, undef, undef, undef, undef, undef, undef, x 30, undef, undef, undef, undef, undef, undef, x 37, undef], []⟩,
   fun x => ⟨#[undef, undef, undef, undef, undef, undef, undef, undef, undef, undef, undef, undef, undef, undef, undef, undef, undef, undef, undef, undef, undef, undef, undef, undef, undef, undef, undef, undef, undef, undef, undef, undef, undef, undef, undef, undef, undef, undef, undef, undef, undef, undef, undef, undef, undef, undef, undef, undef, undef, undef, undef, undef, undef, undef, undef, undef, undef, undef, undef, undef, undef, undef, undef, undef, undef, undef, undef, undef, undef, undef, undef, undef, undef, undef, undef, undef, undef, undef, undef, undef, undef, undef, undef, undef, undef, undef, undef, undef, undef, undef, undef, x 38], []⟩]
      ?hF ?mono ?h0 ?step ?fin
    case hF =>
      exact ⟨fun x => ⟨by kernel_rfl, by kernel_rfl⟩, fun x => ⟨by kernel_rfl, by kernel_rfl⟩, fun x => ⟨by kernel_rfl, by kernel_rfl⟩, fun x => ⟨by kernel_rfl, by kernel_rfl⟩, fun x => ⟨by kernel_rfl, by kernel_rfl⟩, fun x => ⟨by kernel_rfl, by kernel_rfl⟩, fun x => ⟨by kernel_rfl, by kernel_rfl⟩, fun x => ⟨by kernel_rfl, by kernel_rfl⟩, fun x => ⟨by kernel_rfl, by kernel_rfl⟩, fun x => ⟨by kernel_rfl, by kernel_rfl⟩, fun x => ⟨by kernel_rfl, by kernel_rfl⟩, fun x => ⟨by kernel_rfl, by kernel_rfl⟩, fun x => ⟨by kernel_rfl, by kernel_rfl⟩, fun x => ⟨by kernel_rfl, by kernel_rfl⟩, fun x => ⟨by kernel_rfl, by kernel_rfl⟩, fun x => ⟨by kernel_rfl, by kernel_rfl⟩, fun x => ⟨by kernel_rfl, by kernel_rfl⟩, fun x => ⟨by kernel_rfl, by kernel_rfl⟩, fun x => ⟨by kernel_rfl, by kernel_rfl⟩, fun x => ⟨by kernel_rfl, by kernel_rfl⟩, fun x => ⟨by kernel_rfl, by kernel_rfl⟩, fun x => ⟨by kernel_rfl, by kernel_rfl⟩, fun x => ⟨by kernel_rfl, by kernel_rfl⟩, fun x => ⟨by kernel_rfl, by kernel_rfl⟩, fun x => ⟨by kernel_rfl, by kernel_rfl⟩, fun x => ⟨by kernel_rfl, by kernel_rfl⟩, fun x => ⟨by kernel_rfl, by kernel_rfl⟩, fun x => ⟨by kernel_rfl, by kernel_rfl⟩, fun x => ⟨by kernel_rfl, by kernel_rfl⟩, fun x => ⟨by kernel_rfl, by kernel_rfl⟩, fun x => ⟨by kernel_rfl, by kernel_rfl⟩, fun x => ⟨by kernel_rfl, by kernel_rfl⟩, fun x => ⟨by kernel_rfl, by kernel_rfl⟩, fun x => ⟨by kernel_rfl, by kernel_rfl⟩, fun x => ⟨by kernel_rfl, by kernel_rfl⟩, fun x => ⟨by kernel_rfl, by kernel_rfl⟩, fun x => ⟨by kernel_rfl, by kernel_rfl⟩, fun x => ⟨by kernel_rfl, by kernel_rfl⟩, fun x => ⟨by kernel_rfl, by kernel_rfl⟩, fun x => ⟨by kernel_rfl, by kernel_rfl⟩, trivial⟩
    case mono =>
      intro i hi v W W' hE hv
      match i, hi with
      | 0, _ | 1, _ | 2, _ | 3, _ | 4, _ | 5, _ | 6, _ | 7, _ | 8, _ | 9, _ | 10, _ | 11, _ | 12, _ | 13, _ | 14, _ | 15, _ | 16, _ | 17, _ | 18, _ | 19, _ | 20, _ | 21, _ | 22, _ | 23, _ | 24, _ | 25, _ | 26, _ | 27, _ | 28, _ | 29, _ | 30, _ | 31, _ | 32, _ | 33, _ | 34, _ | 35, _ | 36, _ | 37, _ | 38, _ => exact hv
      | m + 39, h => exact absurd h (by cases m <;> simp)
    case h0 => first | exact (Below.refl _ _).drew | exact Below.drew (by assumption) | (refine Below.drew ?_; assumption)
    case step =>
      refine ⟨?_, ?_, ?_, ?_, ?_, ?_, ?_, ?_, ?_, ?_, ?_, ?_, ?_, ?_, ?_, ?_, ?_, ?_, ?_, ?_, ?_, ?_, ?_, ?_, ?_, ?_, ?_, ?_, ?_, ?_, ?_, ?_, ?_, ?_, ?_, ?_, ?_, ?_, ?_, ?_, trivial⟩
      all_goals
        intro x W hI hV
        simp only [AllV, and_true] at hV
      · clear hV
        (try dsimp only)
        go_wp2_with fail
        exact step_done rfl hI (Below.refl _ _) rfl
      · have u0 := hV
        clear hV
        simp only [u0]
        clear u0
        go_wp2_with fail
        exact step_done rfl hI (Below.refl _ _) rfl
      · obtain ⟨u0, u1⟩ := hV
        simp only [u1]
        clear u0 u1
        go_wp2_with fail
        exact step_done rfl hI (Below.refl _ _) rfl
      · obtain ⟨u0, u1, u2⟩ := hV
        simp only [u1, u2]
        clear u0 u1 u2
        go_wp2_with fail
        exact step_done rfl hI (Below.refl _ _) rfl
      · obtain ⟨u0, u1, u2, u3⟩ := hV
        simp only [u1, u3]
        clear u0 u1 u2 u3
        go_wp2_with fail
        exact step_done rfl hI (Below.refl _ _) rfl
      · obtain ⟨u0, u1, u2, u3, u4⟩ := hV
        simp only [u4]
        clear u0 u1 u2 u3 u4
        go_wp2_with fail
        exact step_done rfl hI (Below.refl _ _) rfl
      · obtain ⟨u0, u1, u2, u3, u4, u5⟩ := hV
        simp only [u5]
        clear u0 u1 u2 u3 u4 u5
        go_wp2_with fail
        exact step_done rfl hI (Below.refl _ _) rfl
      · obtain ⟨u0, u1, u2, u3, u4, u5, u6⟩ := hV
        simp only [u5, u6]
        clear u0 u1 u2 u3 u4 u5 u6
        go_wp2_with fail
        exact step_done rfl hI (Below.refl _ _) rfl
      · obtain ⟨u0, u1, u2, u3, u4, u5, u6, u7⟩ := hV
        simp only [u5, u7]
        clear u0 u1 u2 u3 u4 u5 u6 u7
        go_wp2_with fail
        exact step_done rfl hI (Below.refl _ _) rfl
      · obtain ⟨u0, u1, u2, u3, u4, u5, u6, u7, u8⟩ := hV
        simp only [u8]
        clear u0 u1 u2 u3 u4 u5 u6 u7 u8
        go_wp2_with fail
        exact step_done rfl hI (Below.refl _ _) rfl
      · obtain ⟨u0, u1, u2, u3, u4, u5, u6, u7, u8, u9⟩ := hV
        simp only [u9]
        clear u0 u1 u2 u3 u4 u5 u6 u7 u8 u9
        go_wp2_with fail
        exact step_done rfl hI (Below.refl _ _) rfl
      · obtain ⟨u0, u1, u2, u3, u4, u5, u6, u7, u8, u9, u10⟩ := hV
        simp only [u9, u10]
        clear u0 u1 u2 u3 u4 u5 u6 u7 u8 u9 u10
        go_wp2_with fail
        exact step_done rfl hI (Below.refl _ _) rfl
      · obtain ⟨u0, u1, u2, u3, u4, u5, u6, u7, u8, u9, u10, u11⟩ := hV
        simp only [u9, u11]
        clear u0 u1 u2 u3 u4 u5 u6 u7 u8 u9 u10 u11
        go_wp2_with fail
        exact step_done rfl hI (Below.refl _ _) rfl
      · obtain ⟨u0, u1, u2, u3, u4, u5, u6, u7, u8, u9, u10, u11, u12⟩ := hV
        simp only [u12]
        clear u0 u1 u2 u3 u4 u5 u6 u7 u8 u9 u10 u11 u12
        go_wp2_with fail
        exact step_done rfl hI (Below.refl _ _) rfl
      · obtain ⟨u0, u1, u2, u3, u4, u5, u6, u7, u8, u9, u10, u11, u12, u13⟩ := hV
        simp only [u13]
        clear u0 u1 u2 u3 u4 u5 u6 u7 u8 u9 u10 u11 u12 u13
        go_wp2_with fail
        exact step_done rfl hI (Below.refl _ _) rfl
      · obtain ⟨u0, u1, u2, u3, u4, u5, u6, u7, u8, u9, u10, u11, u12, u13, u14⟩ := hV
        simp only [u13, u14]
        clear u0 u1 u2 u3 u4 u5 u6 u7 u8 u9 u10 u11 u12 u13 u14
        go_wp2_with fail
        exact step_done rfl hI (Below.refl _ _) rfl
      · obtain ⟨u0, u1, u2, u3, u4, u5, u6, u7, u8, u9, u10, u11, u12, u13, u14, u15⟩ := hV
        simp only [u13, u15]
        clear u0 u1 u2 u3 u4 u5 u6 u7 u8 u9 u10 u11 u12 u13 u14 u15
        go_wp2_with fail
        exact step_done rfl hI (Below.refl _ _) rfl
      · obtain ⟨u0, u1, u2, u3, u4, u5, u6, u7, u8, u9, u10, u11, u12, u13, u14, u15, u16⟩ := hV
        simp only [u16]
        clear u0 u1 u2 u3 u4 u5 u6 u7 u8 u9 u10 u11 u12 u13 u14 u15 u16
        go_wp2_with fail
        exact step_done rfl hI (Below.refl _ _) rfl
      · obtain ⟨u0, u1, u2, u3, u4, u5, u6, u7, u8, u9, u10, u11, u12, u13, u14, u15, u16, u17⟩ := hV
        simp only [u17]
        clear u0 u1 u2 u3 u4 u5 u6 u7 u8 u9 u10 u11 u12 u13 u14 u15 u16 u17
        go_wp2_with fail
        exact step_done rfl hI (Below.refl _ _) rfl
      · obtain ⟨u0, u1, u2, u3, u4, u5, u6, u7, u8, u9, u10, u11, u12, u13, u14, u15, u16, u17, u18⟩ := hV
        simp only [u17, u18]
        clear u0 u1 u2 u3 u4 u5 u6 u7 u8 u9 u10 u11 u12 u13 u14 u15 u16 u17 u18
        go_wp2_with fail
        exact step_done rfl hI (Below.refl _ _) rfl
      · obtain ⟨u0, u1, u2, u3, u4, u5, u6, u7, u8, u9, u10, u11, u12, u13, u14, u15, u16, u17⟩ := hV
        simp only [u17]
        clear u0 u1 u2 u3 u4 u5 u6 u7 u8 u9 u10 u11 u12 u13 u14 u15 u16 u17
        go_wp2_with fail
        exact step_done rfl hI (Below.refl _ _) rfl
      · obtain ⟨u0, u1, u2, u3, u4, u5, u6, u7, u8, u9, u10, u11, u12, u13, u14, u15, u16, u17, u20⟩ := hV
        simp only [u17, u20]
        clear u0 u1 u2 u3 u4 u5 u6 u7 u8 u9 u10 u11 u12 u13 u14 u15 u16 u17 u20
        go_wp2_with fail
        exact step_done rfl hI (Below.refl _ _) rfl
      · obtain ⟨u0, u1, u2, u3, u4, u5, u6, u7, u8, u9, u10, u11, u12, u13, u14, u15, u16, u17, u20, u21⟩ := hV
        simp only [u17, u21]
        clear u0 u1 u2 u3 u4 u5 u6 u7 u8 u9 u10 u11 u12 u13 u14 u15 u16 u17 u20 u21
        go_wp2_with fail
        exact step_done rfl hI (Below.refl _ _) rfl
      · obtain ⟨u0, u1, u2, u3, u4, u5, u6, u7, u8, u9, u10, u11, u12, u13, u14, u15, u16, u17, u18, u19, u20, u21, u22⟩ := hV
        simp only [u17, u19, u22]
        clear u0 u1 u2 u3 u4 u5 u6 u7 u8 u9 u10 u11 u12 u13 u14 u15 u16 u17 u18 u19 u20 u21 u22
        go_wp2_with fail
        exact step_done rfl hI (Below.refl _ _) rfl
      · obtain ⟨u0, u1, u2, u3, u4, u5, u6, u7, u8, u9, u10, u11, u12, u13, u14, u15, u16, u17, u18, u19, u20, u21, u22, u23⟩ := hV
        simp only [u17, u23]
        clear u0 u1 u2 u3 u4 u5 u6 u7 u8 u9 u10 u11 u12 u13 u14 u15 u16 u17 u18 u19 u20 u21 u22 u23
        go_wp2_with fail
        exact step_done rfl hI (Below.refl _ _) rfl
      · obtain ⟨u0, u1, u2, u3, u4, u5, u6, u7, u8, u9, u10, u11, u12, u13, u14, u15, u16, u17, u18, u19, u20, u21, u22, u23, u24⟩ := hV
        simp only [u24]
        clear u0 u1 u2 u3 u4 u5 u6 u7 u8 u9 u10 u11 u12 u13 u14 u15 u16 u17 u18 u19 u20 u21 u22 u23 u24
        go_wp2_with fail
        exact step_done rfl hI (Below.refl _ _) rfl
      · obtain ⟨u0, u1, u2, u3, u4, u5, u6, u7, u8, u9, u10, u11, u12, u13, u14, u15, u16, u17, u18, u19, u20, u21, u22, u23, u24, u25⟩ := hV
        simp only [u25]
        clear u0 u1 u2 u3 u4 u5 u6 u7 u8 u9 u10 u11 u12 u13 u14 u15 u16 u17 u18 u19 u20 u21 u22 u23 u24 u25
        go_wp2_with fail
        exact step_done rfl hI (Below.refl _ _) rfl
      · obtain ⟨u0, u1, u2, u3, u4, u5, u6, u7, u8, u9, u10, u11, u12, u13, u14, u15, u16, u17, u18, u19, u20, u21, u22, u23, u24, u25⟩ := hV
        simp only [u25]
        clear u0 u1 u2 u3 u4 u5 u6 u7 u8 u9 u10 u11 u12 u13 u14 u15 u16 u17 u18 u19 u20 u21 u22 u23 u24 u25
        go_wp2_with fail
        exact step_done rfl hI (Below.refl _ _) rfl
      · obtain ⟨u0, u1, u2, u3, u4, u5, u6, u7, u8, u9, u10, u11, u12, u13, u14, u15, u16, u17, u18, u19, u20, u21, u22, u23, u24, u25, u26, u27⟩ := hV
        simp only [u25, u26, u27]
        clear u0 u1 u2 u3 u4 u5 u6 u7 u8 u9 u10 u11 u12 u13 u14 u15 u16 u17 u18 u19 u20 u21 u22 u23 u24 u25 u26 u27
        have HI := Lib.hid hI
        clear hI z0 z1 z2 z3
        go_wp2_with fail
        refine (HBG.out W HI.out).mono ?_
        rintro e W' ⟨rfl, uW⟩
        have HW := Lib.hid uW
        have HU := Lib.hid (up HI.out uW)
        clear uW HI
        go_wp2_with fail
        exact step_done rfl HU.out HW.out rfl
      · obtain ⟨u0, u1, u2, u3, u4, u5, u6, u7, u8, u9, u10, u11, u12, u13, u14, u15, u16, u17, u18, u19, u20, u21, u22, u23, u24, u25, u26, u27, u28⟩ := hV
        simp only [u25, u28]
        clear u0 u1 u2 u3 u4 u5 u6 u7 u8 u9 u10 u11 u12 u13 u14 u15 u16 u17 u18 u19 u20 u21 u22 u23 u24 u25 u26 u27 u28
        go_wp2_with fail
        exact step_done rfl hI (Below.refl _ _) rfl
      · obtain ⟨u0, u1, u2, u3, u4, u5, u6, u7, u8, u9, u10, u11, u12, u13, u14, u15, u16, u17, u18, u19, u20, u21, u22, u23, u24, u25, u26, u27, u28, u29⟩ := hV
        simp only [u29]
        clear u0 u1 u2 u3 u4 u5 u6 u7 u8 u9 u10 u11 u12 u13 u14 u15 u16 u17 u18 u19 u20 u21 u22 u23 u24 u25 u26 u27 u28 u29
        go_wp2_with fail
        exact step_done rfl hI (Below.refl _ _) rfl
      · obtain ⟨u0, u1, u2, u3, u4, u5, u6, u7, u8, u9, u10, u11, u12, u13, u14, u15, u16, u17, u18, u19, u20, u21, u22, u23, u24, u25, u26, u27, u28, u29, u30⟩ := hV
        simp only [u30]
        clear u0 u1 u2 u3 u4 u5 u6 u7 u8 u9 u10 u11 u12 u13 u14 u15 u16 u17 u18 u19 u20 u21 u22 u23 u24 u25 u26 u27 u28 u29 u30
        go_wp2_with fail
        exact step_done rfl hI (Below.refl _ _) rfl
      · obtain ⟨u0, u1, u2, u3, u4, u5, u6, u7, u8, u9, u10, u11, u12, u13, u14, u15, u16, u17, u18, u19, u20, u21, u22, u23, u24, u25, u26, u27, u28, u29, u30⟩ := hV
        simp only [u30]
        clear u0 u1 u2 u3 u4 u5 u6 u7 u8 u9 u10 u11 u12 u13 u14 u15 u16 u17 u18 u19 u20 u21 u22 u23 u24 u25 u26 u27 u28 u29 u30
        go_wp2_with fail
        exact step_done rfl hI (Below.refl _ _) rfl
      · obtain ⟨u0, u1, u2, u3, u4, u5, u6, u7, u8, u9, u10, u11, u12, u13, u14, u15, u16, u17, u18, u19, u20, u21, u22, u23, u24, u25, u26, u27, u28, u29, u30, u32⟩ := hV
        simp only [u30, u32]
        clear u0 u1 u2 u3 u4 u5 u6 u7 u8 u9 u10 u11 u12 u13 u14 u15 u16 u17 u18 u19 u20 u21 u22 u23 u24 u25 u26 u27 u28 u29 u30 u32
        go_wp2_with fail
        exact step_done rfl hI (Below.refl _ _) rfl
      · obtain ⟨u0, u1, u2, u3, u4, u5, u6, u7, u8, u9, u10, u11, u12, u13, u14, u15, u16, u17, u18, u19, u20, u21, u22, u23, u24, u25, u26, u27, u28, u29, u30, u31, u32, u33⟩ := hV
        simp only [u30, u31, u33]
        clear u0 u1 u2 u3 u4 u5 u6 u7 u8 u9 u10 u11 u12 u13 u14 u15 u16 u17 u18 u19 u20 u21 u22 u23 u24 u25 u26 u27 u28 u29 u30 u31 u32 u33
        go_wp2_with fail
        exact step_done rfl hI (Below.refl _ _) rfl
      · obtain ⟨u0, u1, u2, u3, u4, u5, u6, u7, u8, u9, u10, u11, u12, u13, u14, u15, u16, u17, u18, u19, u20, u21, u22, u23, u24, u25, u26, u27, u28, u29, u30, u31, u32, u33, u34⟩ := hV
        simp only [u30, u34]
        clear u0 u1 u2 u3 u4 u5 u6 u7 u8 u9 u10 u11 u12 u13 u14 u15 u16 u17 u18 u19 u20 u21 u22 u23 u24 u25 u26 u27 u28 u29 u30 u31 u32 u33 u34
        have e0 : W.cell? ⟨bh, offh + j * 2, none⟩ = some (.int .i64 xr.epoch) := (hI.cell (p := ⟨bh, offh + j * 2, none⟩) hzb).trans z0
        have e1 : W.cell? ⟨bh, offh + j * 2 + 1, none⟩ = some (.slice ya yn yc) := (hI.cell (p := ⟨bh, offh + j * 2 + 1, none⟩) hzb).trans z1
        have HI := Lib.hid hI
        clear hI z0 z1 z2 z3
        go_wp2_with fail
        exact step_done rfl HI.out (Below.refl _ _) rfl
      · obtain ⟨u0, u1, u2, u3, u4, u5, u6, u7, u8, u9, u10, u11, u12, u13, u14, u15, u16, u17, u18, u19, u20, u21, u22, u23, u24, u25, u26, u27, u28, u29, u30⟩ := hV
        simp only [u30]
        clear u0 u1 u2 u3 u4 u5 u6 u7 u8 u9 u10 u11 u12 u13 u14 u15 u16 u17 u18 u19 u20 u21 u22 u23 u24 u25 u26 u27 u28 u29 u30
        have e0 : W.cell? ⟨T13, 0, none⟩ = some (.int .i64 xr.epoch) := (hI.cell (p := ⟨T13, 0, none⟩) l13).trans z2
        have e1 : W.cell? ⟨T13, 1, none⟩ = some (.slice ax nx cx) := (hI.cell (p := ⟨T13, 1, none⟩) l13).trans z3
        have HI := Lib.hid hI
        clear hI z0 z1 z2 z3
        go_wp2_with fail
        exact step_done rfl HI.out (Below.refl _ _) rfl
      · obtain ⟨u0, u1, u2, u3, u4, u5, u6, u7, u8, u9, u10, u11, u12, u13, u14, u15, u16, u17, u18, u19, u20, u21, u22, u23, u24, u25, u26, u27, u28, u29, u30, u31, u32, u33, u34, u35, u36⟩ := hV
        simp only [u30, u35, u36]
        clear u0 u1 u2 u3 u4 u5 u6 u7 u8 u9 u10 u11 u12 u13 u14 u15 u16 u17 u18 u19 u20 u21 u22 u23 u24 u25 u26 u27 u28 u29 u30 u31 u32 u33 u34 u35 u36
        have HI := Lib.hid hI
        clear hI z0 z1 z2 z3
        go_wp2_with fail
        refine (HSM.out W HI.out).mono ?_
        rintro e W' ⟨rfl, uW⟩
        have HW := Lib.hid uW
        have HU := Lib.hid (up HI.out uW)
        clear uW HI
        go_wp2_with fail
        exact step_done rfl HU.out HW.out rfl
      · obtain ⟨u0, u1, u2, u3, u4, u5, u6, u7, u8, u9, u10, u11, u12, u13, u14, u15, u16, u17, u18, u19, u20, u21, u22, u23, u24, u25, u26, u27, u28, u29, u30, u31, u32, u33, u34, u35, u36, u37⟩ := hV
        simp only [u30, u37]
        clear u0 u1 u2 u3 u4 u5 u6 u7 u8 u9 u10 u11 u12 u13 u14 u15 u16 u17 u18 u19 u20 u21 u22 u23 u24 u25 u26 u27 u28 u29 u30 u31 u32 u33 u34 u35 u36 u37
        go_wp2_with fail
        exact step_done rfl hI (Below.refl _ _) rfl
      · obtain ⟨u0, u1, u2, u3, u4, u5, u6, u7, u8, u9, u10, u11, u12, u13, u14, u15, u16, u17, u18, u19, u20, u21, u22, u23, u24, u25, u26, u27, u28, u29, u30, u31, u32, u33, u34, u35, u36, u37, u38⟩ := hV
        simp only [u38]
        clear u0 u1 u2 u3 u4 u5 u6 u7 u8 u9 u10 u11 u12 u13 u14 u15 u16 u17 u18 u19 u20 u21 u22 u23 u24 u25 u26 u27 u28 u29 u30 u31 u32 u33 u34 u35 u36 u37 u38
        go_wp2_with fail
        exact step_done rfl hI (Below.refl _ _) rfl
    case fin =>
      intro x W hI hV
      simp only [AllV, and_true, List.length_cons, List.length_nil, List.range, List.range.loop] at hV
      obtain ⟨u0, u1, u2, u3, u4, u5, u6, u7, u8, u9, u10, u11, u12, u13, u14, u15, u16, u17, u18, u19, u20, u21, u22, u23, u24, u25, u26, u27, u28, u29, u30, u31, u32, u33, u34, u35, u36, u37, u38, u39⟩ := hV
      simp only [getsD, List.getD_cons_succ, List.getD_cons_zero, List.length_cons, List.length_nil, List.range, List.range.loop, u0, u1, u2, u3, u4, u5, u6, u7, u8, u9, u10, u11, u12, u13, u14, u15, u16, u17, u18, u19, u20, u21, u22, u23, u24, u25, u26, u27, u28, u29, u30, u31, u32, u33, u34, u35, u36, u37, u38, u39, Act.put, List.setIfInBounds_toArray, List.set_cons_succ, List.set_cons_zero]
      clear u0 u1 u2 u3 u4 u5 u6 u7 u8 u9 u10 u11 u12 u13 u14 u15 u16 u17 u18 u19 u20 u21 u22 u23 u24 u25 u26 u27 u28 u29 u30 u31 u32 u33 u34 u35 u36 u37 u38 u39
      have HN := Lib.hid (up HBW.out hI)
      clear hI z0 z1 z2 z3
      go_wp2_with fail
      go_ret
      exact ⟨rfl, HN.out⟩
end Go.Proofs.YtdbdhpjjndhjiaaDoor
