/- The walk of LinkTwice (printed by gen_twice.py). -/
import Derived.Test.YtkhacogeffidoaaDoorFirst
set_option linter.unusedVariables false
set_option linter.unusedSimpArgs false
namespace Go.Proofs.YtkhacogeffidoaaDoor
open Go.RowKit

theorem lkF_len (f : Fr) (k : Nat) : (lkF f k).sent.length = k := by simp [lkF]
set_option maxRecDepth 100000 in
set_option maxHeartbeats 8000000 in
theorem linkTwice_walk (w : World) (hg : Good w) (r : Raw) (hk : r.ok) (a1 : Option Addr) (n1 c1 : Nat) (l1 : List Raw) (r1 : RdS (· < w.heap.size) w l1 a1 n1 c1) (ma : Int) (hma : I64 ma) :
    Calls Tryd.prog 5 #[rawV r, .slice a1 n1 c1, .int .i64 ma] w fun e w' => e = .returned (.bool true) ∧ Below w.heap.size w w' := by
  have HX := Lib.hid (fun W (hb : Below w.heap.size w W) => frame_go r l1 a1 n1 c1 W (r1.go hb) hk)
  obtain ⟨fo, ff1, ff2, ff3, ff4, ff5⟩ := frame_ok r l1
  generalize frameOf r l1 = f at *
  have hfo : f.check = 0 := fo
  have hff : f.fits := ⟨ff1, ff2, ff3, ff4⟩
  have HO := Lib.hid (fun W => open_any 2 W (by unfold I64; omega))
  rw [show openLk 2 = ⟨2, 1, [], [], 0⟩ from rfl, show openE 2 = 0 from rfl] at HO
  have rk := pk_range ma 6 (by omega)
  have HM := Lib.hid (fun W => picked_any ma 6 W hma (by omega) (by omega))
  obtain ⟨K, hK⟩ : ∃ K : Nat, 1 + pk ma 6 = (K : Int) := ⟨(1 + pk ma 6).toNat, by omega⟩
  generalize pk ma 6 = PM at *
  have hK6 : 1 ≤ K ∧ K ≤ 6 := by omega
  have L0 : Hid (∀ g w, Blk g (.cells #[.int .i64 2, .int .i64 1, .slice none 0 0, .slice none 0 0, .int .i64 0] 33 (0, 0)) w → ∀ B, LkBox B g (lkF f 0) w) := fun g w hb B => ⟨none, 0, none, 0, hb, RdS.nil _ _, RdS.nil _ _⟩
  have Hg := Lib.hid hg
  clear hg fo ff1 ff2 ff3 ff4 ff5 hk r1 rk hma
  obtain ⟨rk, xa, xb, xc, xt⟩ := r
  unfold rawV at HX ⊢
  simp only at HX ⊢
  have Hfo := Lib.hid hfo
  have Hff := Lib.hid hff
  clear hfo hff
  go_enter Tryd.func5, Tryd.ntmps5
  go_wp2_with fail
  refine (HO.out _).mono ?_
  rintro e w1 ⟨rfl, b1⟩
  have bx0 := Lib.hid ((Blk.new w (.cells #[.int .i64 rk, .int .i64 xa, .int .i64 xb, .int .i64 xc, .string xt] 42)).go b1)
  have B1 := Lib.hid (up ((Below.refl w.heap.size w).alloc (Nat.le_refl _) _) b1)
  have hz1 := bx0.out.lt
  clear b1
  go_wp2_with fail
  refine (HO.out _).mono ?_
  rintro e w2 ⟨rfl, b2⟩
  have bx1 := Lib.hid ((Blk.new w1 (.cells #[.int .i64 2, .int .i64 1, .slice none 0 0, .slice none 0 0, .int .i64 0] 33)).go b2)
  have hb12 : Below w1.heap.size w1 w2 := up ((Below.refl w1.heap.size w1).alloc (Nat.le_refl _) _) b2
  have bx0 := Lib.hid (bx0.out.go hb12)
  have B2 := Lib.hid (up B1.out hb12)
  have hz2 := bx1.out.lt
  clear b2 hb12 B1 HO
  go_wp2_with fail
  refine (HM.out _).mono ?_
  rintro e w3' ⟨rfl, rfl⟩
  go_wp2_with fail
  refine abs_w (fun W => Below w2.heap.size w2 W ∧ Blk w2.heap.size (.cells #[.int .i64 2, .int .i64 1, .slice none 0 0, .slice none 0 0, .int .i64 0] 33 (0, 0)) W) ⟨by (repeat (first | exact Below.refl _ _ | assumption | (refine Below.drew ?_) | (refine below_drewN ?_ _) | (refine Below.alloc ?_ (by first | (simp; done) | (simp; omega) | omega) _) | (refine Below.setCell ?_ (by first | (simp; done) | (simp; omega) | omega) _) | (refine Below.trans ?_ (Below.mono (by assumption) (by first | (simp; done) | (simp; omega) | omega))))), Blk.new w2 _⟩ ?_
  rintro w3 ⟨b3, x3⟩
  have hz3 := x3.lt
  have X0 := Lib.hid (bx0.out.go b3)
  have X1 := Lib.hid (L0.out _ _ (bx1.out.go b3) w3.heap.size)
  have X2 := Lib.hid x3
  have B3 := Lib.hid (up B2.out b3)
  clear b3 x3 bx0 bx1 B2 L0
  go_loopw [12] (fun i wr => ∃ (k : Nat) (sa qa : Option Addr) (sc qc : Nat), k ≤ K ∧ i = .int .i64 k ∧ Below w.heap.size w wr ∧ w3.heap.size ≤ wr.heap.size ∧ Blk w.heap.size (.cells #[.int .i64 rk, .int .i64 xa, .int .i64 xb, .int .i64 xc, .string xt] 42 (0, 0)) wr ∧ LkBox w3.heap.size w1.heap.size (lkF f k) wr ∧ NilS sa sc ∧ NilS qa qc ∧ Blk w2.heap.size (.cells #[.int .i64 2, .int .i64 1, .slice sa 0 sc, .slice qa 0 qc, .int .i64 (k : Int)] 33 (0, 0)) wr) (fun i _ => K - (intOf i).toNat)
  case atStart => exact ⟨0, none, none, 0, 0, by omega, rfl, B3.out, Nat.le_refl _, X0.out, X1.out, ⟨by unfold maxLen; omega, fun _ => rfl⟩, ⟨by unfold maxLen; omega, fun _ => rfl⟩, X2.out⟩
  case round =>
    obtain ⟨k, sa, qa, sc, qc, hk, rfl, b4, hzr, x0, x1, ns, nq, x2⟩ := hrel
    clear B3 X0 X1 X2
    have B4 := Lib.hid b4
    have X0 := Lib.hid x0
    have X1 := Lib.hid x1
    have X2 := Lib.hid x2
    have N0 := Lib.hid (And.intro ns nq)
    clear b4 x0 x1 x2 ns nq
    by_cases hlt : k < K
    · have HS1 := Lib.hid (fun vl vf B W hg h1 h2 => send_val (lkF f k) f vl vf B W hg h1 h2 (lkF_fits (by omega)) Hff.out (by simp [lkF]))
      rw [(lkF_send Hfo.out (k := k) (by omega)).1, (lkF_send Hfo.out (k := k) (by omega)).2.1, (lkF_send Hfo.out (k := k) (by omega)).2.2] at HS1
      generalize hu0 : (k : Int) = u0 at *
      generalize hu1 : u0 + 1 = u1 at *
      have HH1 := Lib.hid (fun B a b c d vp W hg na nb hv => hearT Hfo.out Hff.out k (k + 1) (k + 1) true u0 u1 hu0.symm (by omega) (by omega) (by omega) (by omega) (by simp) (by simp) B a b c d vp W hg na nb hv)
      have HH2 := Lib.hid (fun B a b c d vp W hg na nb hv => hearT Hfo.out Hff.out (k + 1) (k + 1) (k + 1) false u1 u1 (by omega) (by omega) (by omega) (by omega) (by omega) (by simp) (by simp) B a b c d vp W hg na nb hv)
      have HLN := Lib.hid (lkF_len f)
      have Hu := Lib.hid (And.intro hu0 hu1)
      have hult : u0 < (K : Int) := by omega
      have hu0n : (0 : Int) ≤ u0 := by omega
      have hu06 : u0 ≤ 6 := by omega
      generalize hl0 : lkF f k = l0 at *
      generalize hl1 : lkF f (k + 1) = l1' at *
      generalize hp1 : pkF f (k + 1) = p1 at *
      have Hl1 := Lib.hid hl1
      clear hu0 hu1 hl0 hl1 hp1 HM
      go_wp2_with fail
      obtain ⟨Vp, HV⟩ : ∃ Vp : Nat → Value → World → Prop, Hid (Vp = fun i v W => match i with
          | 0 => ∃ y, v = y ∧ LkVal w3.heap.size l0 y W
          | 1 => v = .agg #[.int .i64 rk, .int .i64 xa, .int .i64 xb, .int .i64 xc, .string xt]
          | 2 => v = .slice a1 n1 c1
          | 3 => ∃ y, v = y ∧ FrV w3.heap.size f y W
          | 4 => ∃ y z, v = .tuple #[y, z, .int .i64 0] ∧ LkVal w3.heap.size l1' y W ∧ PsVal w3.heap.size [p1] z W
          | 5 => ∃ y z, v = .tuple #[y, z, .int .i64 0] ∧ LkVal w3.heap.size l1' y W ∧ PsVal w3.heap.size [p1] z W
          | 6 => ∃ y, v = y ∧ LkVal w3.heap.size l1' y W
          | 7 => ∃ y, v = y ∧ PsVal w3.heap.size [p1] y W
          | 8 => v = .int .i64 0
          | 9 => v = undef
          | 10 => ∃ y, v = y ∧ PsVal w3.heap.size [p1] y W
          | _ => v = .int .i64 0) := ⟨_, rfl⟩
      obtain ⟨Ip, HIp⟩ : ∃ Ip : (Nat → Bool) → (Nat → Value) → World → Prop, Hid (Ip = fun L x W => (Touch (fun z => z = w1.heap.size) wr W ∧ (L 9 = false → LkBox w3.heap.size w1.heap.size l0 W) ∧ (L 9 = true → LkBox w3.heap.size w1.heap.size l1' W))) := ⟨_, rfl⟩
      refine region_lit3 (by kernel_rfl) (by kernel_rfl) (by kernel_rfl) [[], [], [], [1, 2], [0, 1, 2, 3], [0, 1, 2, 3, 4], [0, 1, 2, 3, 4, 5], [0, 1, 2, 3, 4, 5], [0, 1, 2, 3, 4, 5], [0, 1, 2, 3, 4, 5, 6], [0, 1, 2, 3, 4, 5, 7], [0, 1, 2, 3, 4, 5, 8]] (by kernel_rfl) [some 42, some 43, some 44, some 45, some 46, some 41, some 47, some 48, some 49, none, some 13, some 14] (by kernel_rfl) [[0, 4, 5, 6, 7, 8, 9, 10, 11], [1, 3, 4, 5, 6, 7, 8, 9, 10, 11], [2, 3, 4, 5, 6, 7, 8, 9, 10, 11], [3, 4, 5, 6, 7, 8, 9, 10, 11], [4, 5, 6, 7, 8, 9, 10, 11], [5, 6, 7, 8, 9, 10, 11], [6, 9], [7, 10], [8, 11], [9], [10], [11]] (by kernel_rfl) [[], [], [], [], [], [], [], [], [], [], [], []] [[], [], [], [1, 2], [0, 3], [4], [5], [5], [5], [6], [7], [8]] (by kernel_rfl)
        Ip
        Vp
        (fun j W W' => match j with
          | 9 => Touch (fun z => z = w1.heap.size) W W'
          | _ => Below W.heap.size W W')
        [fun x => ⟨#[undef, undef, undef, undef, undef, undef, undef, .pointer (some ⟨w1.heap.size, 0, none⟩), undef, undef, undef, undef, undef, undef, undef, undef, undef, undef, undef, undef, undef, undef, undef, undef, undef, undef, undef, undef, undef, undef, undef, undef, undef, undef, undef, undef, undef, undef, undef, undef, undef, undef, undef], []⟩,
   fun x => ⟨#[undef, undef, undef, .pointer (some ⟨w.heap.size, 0, none⟩), undef, undef, undef, undef, undef, undef, undef, undef, undef, undef, undef, undef, undef, undef, undef, undef, undef, undef, undef, undef, undef, undef, undef, undef, undef, undef, undef, undef, undef, undef, undef, undef, undef, undef, undef, undef, undef, undef, undef, undef], []⟩,
   fun x => ⟨#[undef, .slice a1 n1 c1, undef, undef, undef, undef, undef, undef, undef, undef, undef, undef, undef, undef, undef, undef, undef, undef, undef, undef, undef, undef, undef, undef, undef, undef, undef, undef, undef, undef, undef, undef, undef, undef, undef, undef, undef, undef, undef, undef, undef, undef, undef, undef, undef], []⟩,
   fun x => ⟨#[undef, undef, undef, undef, undef, undef, undef, undef, undef, undef, undef, undef, undef, undef, undef, undef, undef, undef, undef, undef, undef, undef, undef, undef, undef, undef, undef, undef, undef, undef, undef, undef, undef, undef, undef, undef, undef, undef, undef, undef, undef, undef, undef, x 1, x 2, undef], []⟩,
   fun x => ⟨#[undef, undef, undef, undef, undef, undef, undef, undef, undef, undef, undef, undef, undef, undef, undef, undef, undef, undef, undef, undef, undef, undef, undef, undef, undef, undef, undef, undef, undef, undef, undef, undef, undef, undef, undef, undef, undef, undef, undef, undef, undef, undef, x 0, undef, undef, x 3, undef], []⟩,
   fun x => ⟨#[undef, undef, undef, undef, undef, undef, undef, undef, undef, undef, undef, undef, undef, undef, undef, undef, undef, undef, undef, undef, undef, undef, undef, undef, undef, undef, undef, undef, undef, undef, undef, undef, undef, undef, undef, undef, undef, undef, undef, undef, undef, undef, undef, undef, undef, undef, x 4], []⟩,
   fun x => ⟨#[undef, undef, undef, undef, undef, undef, undef, undef, undef, undef, undef, undef, undef, undef, undef, undef, undef, undef, undef, undef, undef, undef, undef, undef, undef, undef, undef, undef, undef, undef, undef, undef, undef, undef, undef, undef, undef, undef, undef, undef, undef, x 5, undef, undef, undef, undef, undef, undef], []⟩,
   fun x => ⟨#[undef, undef, undef, undef, undef, undef, undef, undef, undef, undef, undef, undef, undef, undef, undef, undef, undef, undef, undef, undef, undef, undef, undef, undef, undef, undef, undef, undef, undef, undef, undef, undef, undef, undef, undef, undef, undef, undef, undef, undef, undef, x 5, undef, undef, undef, undef, undef, undef, undef], []⟩,
   fun x => ⟨#[undef, undef, undef, undef, undef, undef, undef, undef, undef, undef, undef, undef, undef, undef, undef, undef, undef, undef, undef, undef, undef, undef, undef, undef, undef, undef, undef, undef, undef, undef, undef, undef, undef, undef, undef, undef, undef, undef, undef, undef, undef, x 5, undef, undef, undef, undef, undef, undef, undef, undef], []⟩,
   fun x => ⟨#[undef, undef, undef, undef, undef, undef, undef, .pointer (some ⟨w1.heap.size, 0, none⟩), undef, undef, undef, undef, undef, undef, undef, undef, undef, undef, undef, undef, undef, undef, undef, undef, undef, undef, undef, undef, undef, undef, undef, undef, undef, undef, undef, undef, undef, undef, undef, undef, undef, undef, undef, undef, undef, undef, undef, x 6], []⟩,
   fun x => ⟨#[undef, undef, undef, undef, undef, undef, undef, undef, undef, undef, undef, undef, undef, undef, undef, undef, undef, undef, undef, undef, undef, undef, undef, undef, undef, undef, undef, undef, undef, undef, undef, undef, undef, undef, undef, undef, undef, undef, undef, undef, undef, undef, undef, undef, undef, undef, undef, undef, x 7], []⟩,
   fun x => ⟨#[undef, undef, undef, undef, undef, undef, undef, undef, undef, undef, undef, undef, undef, undef, undef, undef, undef, undef, undef, undef, undef, undef, undef, undef, undef, undef, undef, undef, undef, undef, undef, undef, undef, undef, undef, undef, undef, undef, undef, undef, undef, undef, undef, undef, undef, undef, undef, undef, undef, x 8], []⟩]
        ?hF ?mono ?h0 ?step [0, 1, 2, 3, 4, 5, 6, 7, 8, 9, 10, 11] (by kernel_rfl) ?fin
      case hF =>
        exact ⟨fun x => ⟨by kernel_rfl, by kernel_rfl⟩, fun x => ⟨by kernel_rfl, by kernel_rfl⟩, fun x => ⟨by kernel_rfl, by kernel_rfl⟩, fun x => ⟨by kernel_rfl, by kernel_rfl⟩, fun x => ⟨by kernel_rfl, by kernel_rfl⟩, fun x => ⟨by kernel_rfl, by kernel_rfl⟩, fun x => ⟨by kernel_rfl, by kernel_rfl⟩, fun x => ⟨by kernel_rfl, by kernel_rfl⟩, fun x => ⟨by kernel_rfl, by kernel_rfl⟩, fun x => ⟨by kernel_rfl, by kernel_rfl⟩, fun x => ⟨by kernel_rfl, by kernel_rfl⟩, fun x => ⟨by kernel_rfl, by kernel_rfl⟩, trivial⟩
      case mono =>
        intro i j hi hj hne hna hnk v W W' hE hv
        rw [HV.out] at hv ⊢
        simp only [List.length_cons, List.length_nil] at hi hj
        match i, hi with
        | 1, _ | 2, _ | 8, _ | 9, _ | 11, _ => exact hv
        | 0, _ =>
          match j, hj with
          | 0, _ => exact absurd rfl hne
          | 1, _ => exact (by obtain ⟨y, e, h⟩ := hv; exact ⟨y, e, h.go hE⟩)
          | 2, _ => exact (by obtain ⟨y, e, h⟩ := hv; exact ⟨y, e, h.go hE⟩)
          | 3, _ => exact (by obtain ⟨y, e, h⟩ := hv; exact ⟨y, e, h.go hE⟩)
          | 4, _ => exact (by obtain ⟨y, e, h⟩ := hv; exact ⟨y, e, h.go hE⟩)
          | 5, _ => exact (by obtain ⟨y, e, h⟩ := hv; exact ⟨y, e, h.go hE⟩)
          | 6, _ => exact (by obtain ⟨y, e, h⟩ := hv; exact ⟨y, e, h.go hE⟩)
          | 7, _ => exact (by obtain ⟨y, e, h⟩ := hv; exact ⟨y, e, h.go hE⟩)
          | 8, _ => exact (by obtain ⟨y, e, h⟩ := hv; exact ⟨y, e, h.go hE⟩)
          | 9, _ => exact (by obtain ⟨y, e, h⟩ := hv; exact ⟨y, e, h.past hE (fun z hz => by omega)⟩)
          | 10, _ => exact (by obtain ⟨y, e, h⟩ := hv; exact ⟨y, e, h.go hE⟩)
          | 11, _ => exact (by obtain ⟨y, e, h⟩ := hv; exact ⟨y, e, h.go hE⟩)
          | m + 12, h => exact absurd h (by omega)
        | 3, _ =>
          match j, hj with
          | 3, _ => exact absurd rfl hne
          | 1, _ => exact absurd (by simp) hna
          | 2, _ => exact absurd (by simp) hna
          | 0, _ => exact (by obtain ⟨y, e, h⟩ := hv; exact ⟨y, e, h.go hE⟩)
          | 4, _ => exact (by obtain ⟨y, e, h⟩ := hv; exact ⟨y, e, h.go hE⟩)
          | 5, _ => exact (by obtain ⟨y, e, h⟩ := hv; exact ⟨y, e, h.go hE⟩)
          | 6, _ => exact (by obtain ⟨y, e, h⟩ := hv; exact ⟨y, e, h.go hE⟩)
          | 7, _ => exact (by obtain ⟨y, e, h⟩ := hv; exact ⟨y, e, h.go hE⟩)
          | 8, _ => exact (by obtain ⟨y, e, h⟩ := hv; exact ⟨y, e, h.go hE⟩)
          | 9, _ => exact (by obtain ⟨y, e, h⟩ := hv; exact ⟨y, e, h.past hE (fun z hz => by omega)⟩)
          | 10, _ => exact (by obtain ⟨y, e, h⟩ := hv; exact ⟨y, e, h.go hE⟩)
          | 11, _ => exact (by obtain ⟨y, e, h⟩ := hv; exact ⟨y, e, h.go hE⟩)
          | m + 12, h => exact absurd h (by omega)
        | 4, _ =>
          match j, hj with
          | 4, _ => exact absurd rfl hne
          | 0, _ => exact absurd (by simp) hna
          | 1, _ => exact absurd (by simp) hna
          | 2, _ => exact absurd (by simp) hna
          | 3, _ => exact absurd (by simp) hna
          | 5, _ => exact (by obtain ⟨y, z, e, h, k⟩ := hv; exact ⟨y, z, e, h.go hE, k.go hE⟩)
          | 6, _ => exact (by obtain ⟨y, z, e, h, k⟩ := hv; exact ⟨y, z, e, h.go hE, k.go hE⟩)
          | 7, _ => exact (by obtain ⟨y, z, e, h, k⟩ := hv; exact ⟨y, z, e, h.go hE, k.go hE⟩)
          | 8, _ => exact (by obtain ⟨y, z, e, h, k⟩ := hv; exact ⟨y, z, e, h.go hE, k.go hE⟩)
          | 9, _ => exact (by obtain ⟨y, z, e, h, k⟩ := hv; exact ⟨y, z, e, h.past hE (fun z hz => by omega), k.past hE (fun z hz => by omega)⟩)
          | 10, _ => exact (by obtain ⟨y, z, e, h, k⟩ := hv; exact ⟨y, z, e, h.go hE, k.go hE⟩)
          | 11, _ => exact (by obtain ⟨y, z, e, h, k⟩ := hv; exact ⟨y, z, e, h.go hE, k.go hE⟩)
          | m + 12, h => exact absurd h (by omega)
        | 5, _ =>
          match j, hj with
          | 5, _ => exact absurd rfl hne
          | 0, _ => exact absurd (by simp) hna
          | 1, _ => exact absurd (by simp) hna
          | 2, _ => exact absurd (by simp) hna
          | 3, _ => exact absurd (by simp) hna
          | 4, _ => exact absurd (by simp) hna
          | 6, _ => exact (by obtain ⟨y, z, e, h, k⟩ := hv; exact ⟨y, z, e, h.go hE, k.go hE⟩)
          | 7, _ => exact (by obtain ⟨y, z, e, h, k⟩ := hv; exact ⟨y, z, e, h.go hE, k.go hE⟩)
          | 8, _ => exact (by obtain ⟨y, z, e, h, k⟩ := hv; exact ⟨y, z, e, h.go hE, k.go hE⟩)
          | 9, _ => exact (by obtain ⟨y, z, e, h, k⟩ := hv; exact ⟨y, z, e, h.past hE (fun z hz => by omega), k.past hE (fun z hz => by omega)⟩)
          | 10, _ => exact (by obtain ⟨y, z, e, h, k⟩ := hv; exact ⟨y, z, e, h.go hE, k.go hE⟩)
          | 11, _ => exact (by obtain ⟨y, z, e, h, k⟩ := hv; exact ⟨y, z, e, h.go hE, k.go hE⟩)
          | m + 12, h => exact absurd h (by omega)
        | 6, _ =>
          match j, hj with
          | 6, _ => exact absurd rfl hne
          | 0, _ => exact absurd (by simp) hna
          | 1, _ => exact absurd (by simp) hna
          | 2, _ => exact absurd (by simp) hna
          | 3, _ => exact absurd (by simp) hna
          | 4, _ => exact absurd (by simp) hna
          | 5, _ => exact absurd (by simp) hna
          | 7, _ => exact (by obtain ⟨y, e, h⟩ := hv; exact ⟨y, e, h.go hE⟩)
          | 8, _ => exact (by obtain ⟨y, e, h⟩ := hv; exact ⟨y, e, h.go hE⟩)
          | 9, _ => exact (by obtain ⟨y, e, h⟩ := hv; exact ⟨y, e, h.past hE (fun z hz => by omega)⟩)
          | 10, _ => exact (by obtain ⟨y, e, h⟩ := hv; exact ⟨y, e, h.go hE⟩)
          | 11, _ => exact (by obtain ⟨y, e, h⟩ := hv; exact ⟨y, e, h.go hE⟩)
          | m + 12, h => exact absurd h (by omega)
        | 7, _ =>
          match j, hj with
          | 7, _ => exact absurd rfl hne
          | 0, _ => exact absurd (by simp) hna
          | 1, _ => exact absurd (by simp) hna
          | 2, _ => exact absurd (by simp) hna
          | 3, _ => exact absurd (by simp) hna
          | 4, _ => exact absurd (by simp) hna
          | 5, _ => exact absurd (by simp) hna
          | 6, _ => exact (by obtain ⟨y, e, h⟩ := hv; exact ⟨y, e, h.go hE⟩)
          | 8, _ => exact (by obtain ⟨y, e, h⟩ := hv; exact ⟨y, e, h.go hE⟩)
          | 9, _ => exact (by obtain ⟨y, e, h⟩ := hv; exact ⟨y, e, h.past hE (fun z hz => by omega)⟩)
          | 10, _ => exact (by obtain ⟨y, e, h⟩ := hv; exact ⟨y, e, h.go hE⟩)
          | 11, _ => exact (by obtain ⟨y, e, h⟩ := hv; exact ⟨y, e, h.go hE⟩)
          | m + 12, h => exact absurd h (by omega)
        | 10, _ =>
          match j, hj with
          | 10, _ => exact absurd rfl hne
          | 0, _ => exact absurd (by simp) hna
          | 1, _ => exact absurd (by simp) hna
          | 2, _ => exact absurd (by simp) hna
          | 3, _ => exact absurd (by simp) hna
          | 4, _ => exact absurd (by simp) hna
          | 5, _ => exact absurd (by simp) hna
          | 7, _ => exact absurd (by simp) hna
          | 6, _ => exact (by obtain ⟨y, e, h⟩ := hv; exact ⟨y, e, h.go hE⟩)
          | 8, _ => exact (by obtain ⟨y, e, h⟩ := hv; exact ⟨y, e, h.go hE⟩)
          | 9, _ => exact (by obtain ⟨y, e, h⟩ := hv; exact ⟨y, e, h.past hE (fun z hz => by omega)⟩)
          | 11, _ => exact (by obtain ⟨y, e, h⟩ := hv; exact ⟨y, e, h.go hE⟩)
          | m + 12, h => exact absurd h (by omega)
        | m + 12, h => exact absurd h (by omega)
      case h0 => intro x; exact toI HIp ⟨(Touch.refl _ _).drew, fun _ => X1.out, fun h => by cases h⟩
      case step =>
        refine ⟨?_, ?_, ?_, ?_, ?_, ?_, ?_, ?_, ?_, ?_, ?_, ?_, trivial⟩
        all_goals
          intro x W L hI hL hV
          replace hI : (Touch (fun z => z = w1.heap.size) wr W ∧ (L 9 = false → LkBox w3.heap.size w1.heap.size l0 W) ∧ (L 9 = true → LkBox w3.heap.size w1.heap.size l1' W)) := ofI HIp hI
          rw [HV.out] at hV
          simp only [AllV, and_true] at hV
        · clear hV
          (try dsimp only)
          obtain ⟨sa, sc, qa, qc, bb, ra, rb⟩ := hI.2.1 (hL.2 9 (by simp))
          obtain ⟨q0, q1, q2, q3, q4⟩ := blk_cells5 bb
          have HI := Lib.hid hI
          have RR := Lib.hid (And.intro ra rb)
          clear hI bb ra rb
          go_wp2_with fail
          refine step3_done rfl ?_ ?_ ?_
          · exact (toI HIp HI.out)
          · exact (Below.refl _ _)
          · exact (toV HV ⟨_, rfl, sa, sc, qa, qc, rfl, RR.out.1, RR.out.2⟩)
        · clear hV
          (try dsimp only)
          have bb := X0.out.touch hI.1 (by omega)
          obtain ⟨q0, q1, q2, q3, q4⟩ := blk_cells5 bb
          have HI := Lib.hid hI
          clear hI bb
          go_wp2_with fail
          refine step3_done rfl ?_ ?_ ?_
          · exact (toI HIp HI.out)
          · exact (Below.refl _ _)
          · exact (toV HV rfl)
        · clear hV
          (try dsimp only)
          have HI := Lib.hid hI
          clear hI
          go_wp2_with fail
          refine step3_done rfl ?_ ?_ ?_
          · exact (toI HIp HI.out)
          · exact (Below.refl _ _)
          · exact (toV HV rfl)
        · obtain ⟨u1, u2⟩ := hV
          simp only [u1, u2]
          clear u1 u2
          have HL := Lib.hid hL
          have HI := Lib.hid hI
          have hbW := B4.out.trans (hI.1.toBelow (B := w.heap.size) (by omega) (fun k hk => by omega))
          have hzW := hI.1.size
          clear hI hL
          go_wp2_with fail
          refine (HX.out _ hbW).mono ?_
          rintro e W' ⟨fa, fc, rfl, rx, hb⟩
          go_wp2_with fail
          refine step3_done rfl ?_ ?_ ?_
          · exact (toI HIp ⟨HI.out.1.then_ (Touch.of_below (S := fun _ => False) hb) (fun _ _ h => h.elim), (fun h => (HI.out.2.1 h).go hb), (fun h => (HI.out.2.2 h).go hb)⟩)
          · exact hb
          · exact (toV HV ⟨_, rfl, fa, fc, rfl, rx.deep (by omega)⟩)
        · obtain ⟨⟨y0, u0, h0⟩, ⟨y3, u3, h3⟩⟩ := hV
          simp only [u0, u3]
          have U0 := Lib.hid u0
          have U3 := Lib.hid u3
          clear u0 u3
          have HL := Lib.hid hL
          have HI := Lib.hid hI
          have hbW := B4.out.trans (hI.1.toBelow (B := w.heap.size) (by omega) (fun k hk => by omega))
          have hzW := hI.1.size
          clear hI hL
          go_wp2_with fail
          refine (HS1.out _ _ _ _ (Hg.out.go hbW) h0 h3).mono ?_
          rintro e W' ⟨ul, up', rfl, rl, rp, hb⟩
          go_wp2_with fail
          refine step3_done rfl ?_ ?_ ?_
          · exact (toI HIp ⟨HI.out.1.then_ (Touch.of_below (S := fun _ => False) hb) (fun _ _ h => h.elim), (fun h => (HI.out.2.1 h).go hb), (fun h => (HI.out.2.2 h).go hb)⟩)
          · exact hb
          · exact (toV HV ⟨_, _, rfl, rl.deep (by omega), rp.deep (by omega)⟩)
        · obtain ⟨y4, z4, u4, h4, k4⟩ := hV
          simp only [u4]
          have U4 := Lib.hid u4
          clear u4
          have HI := Lib.hid hI
          clear hI
          go_wp2_with fail
          refine step3_done rfl ?_ ?_ ?_
          · exact (toI HIp HI.out)
          · exact (Below.refl _ _)
          · exact (toV HV ⟨_, _, rfl, h4, k4⟩)
        · obtain ⟨y5, z5, u5, h5, k5⟩ := hV
          simp only [u5]
          have U5 := Lib.hid u5
          clear u5
          have HI := Lib.hid hI
          clear hI
          go_wp2_with fail
          refine step3_done rfl ?_ ?_ ?_
          · exact (toI HIp HI.out)
          · exact (Below.refl _ _)
          · exact (toV HV ⟨_, rfl, h5⟩)
        · obtain ⟨y5, z5, u5, h5, k5⟩ := hV
          simp only [u5]
          have U5 := Lib.hid u5
          clear u5
          have HI := Lib.hid hI
          clear hI
          go_wp2_with fail
          refine step3_done rfl ?_ ?_ ?_
          · exact (toI HIp HI.out)
          · exact (Below.refl _ _)
          · exact (toV HV ⟨_, rfl, k5⟩)
        · obtain ⟨y5, z5, u5, h5, k5⟩ := hV
          simp only [u5]
          have U5 := Lib.hid u5
          clear u5
          have HI := Lib.hid hI
          clear hI
          go_wp2_with fail
          refine step3_done rfl ?_ ?_ ?_
          · exact (toI HIp HI.out)
          · exact (Below.refl _ _)
          · exact (toV HV rfl)
        · obtain ⟨y6, u6, h6⟩ := hV
          simp only [u6]
          have U6 := Lib.hid u6
          clear u6
          obtain ⟨sa, sc, qa, qc, bb, ra, rb⟩ := hI.2.1 (hL.2 9 (by simp))
          obtain ⟨sb, sd, qb, qd, rfl, rs, rq⟩ := h6
          obtain ⟨q0, q1, q2, q3, q4⟩ := blk_cells5 bb
          have fW := bb.frozen
          have B7 := Lib.hid (blk_set5 bb (.int .i64 l1'.epoch) (.int .i64 l1'.next) (.slice sb l1'.sent.length sd) (.slice qb l1'.queue.length qd) (.int .i64 l1'.heard))
          have HT := Lib.hid (touch5 W w1.heap.size (.int .i64 l1'.epoch) (.int .i64 l1'.next) (.slice sb l1'.sent.length sd) (.slice qb l1'.queue.length qd) (.int .i64 l1'.heard))
          have HI := Lib.hid hI
          have RR := Lib.hid (And.intro rs rq)
          clear hI bb ra rb rs rq
          go_wp2_with fail
          refine step3_done (v := undef) rfl ?_ ?_ ?_
          · exact (toI HIp ⟨HI.out.1.then_ HT.out (fun k _ hk => hk), (fun h => absurd h (by simp [setB])), fun _ => ⟨sb, sd, qb, qd, B7.out, RR.out.1.past HT.out (fun z hz => by omega), RR.out.2.past HT.out (fun z hz => by omega)⟩⟩)
          · exact HT.out
          · exact (toV HV rfl)
        · obtain ⟨y7, u7, h7⟩ := hV
          simp only [u7]
          have U7 := Lib.hid u7
          clear u7
          have HI := Lib.hid hI
          clear hI
          go_wp2_with fail
          refine step3_done rfl ?_ ?_ ?_
          · exact (toI HIp HI.out)
          · exact (Below.refl _ _)
          · exact (toV HV ⟨_, rfl, h7⟩)
        · have u8 := hV
          clear hV
          simp only [u8]
          clear u8
          have HI := Lib.hid hI
          clear hI
          go_wp2_with fail
          refine step3_done rfl ?_ ?_ ?_
          · exact (toI HIp HI.out)
          · exact (Below.refl _ _)
          · exact (toV HV rfl)
      case fin =>
        intro x W L hL hI hV
        replace hI : (Touch (fun z => z = w1.heap.size) wr W ∧ (L 9 = false → LkBox w3.heap.size w1.heap.size l0 W) ∧ (L 9 = true → LkBox w3.heap.size w1.heap.size l1' W)) := ofI HIp hI
        rw [HV.out] at hV
        simp only [AllV, and_true] at hV
        obtain ⟨⟨y0, u0, h0⟩, u1, u2, ⟨y3, u3, h3⟩, ⟨y4, z4, u4, h4, k4⟩, ⟨y5, z5, u5, h5, k5⟩, ⟨y6, u6, h6⟩, ⟨y7, u7, h7⟩, u8, u9, ⟨y10, u10, h10⟩, u11⟩ := hV
        simp only [getsD, List.getD_cons_succ, List.getD_cons_zero, List.length_cons, List.length_nil, List.range, List.range.loop, u0, u1, u2, u3, u4, u5, u6, u7, u8, u9, u10, u11, Act.put, List.setIfInBounds_toArray, List.set_cons_succ, List.set_cons_zero]
        clear u0 u1 u2 u3 u4 u5 u6 u7 u8 u9 u10 u11
        have hb3 := hI.1
        have hx1 := hI.2.2 (hL 9 (by simp))
        clear hL hI
        have hbW := B4.out.trans (hb3.toBelow (B := w.heap.size) (by omega) (fun k hk => by omega))
        have B5 := Lib.hid hbW
        have X1' := Lib.hid hx1
        have X0' := Lib.hid (X0.out.touch hb3 (by omega))
        have X2' := Lib.hid (X2.out.touch hb3 (by omega))
        have hz4 := hb3.size
        have K10 := Lib.hid h10
        obtain ⟨w5, rfl⟩ : ∃ x : World, x = W := ⟨_, rfl⟩
        clear hb3 hx1 hbW X0 X1 X2 B4 h10 HS1 HX
        obtain ⟨pg, po, pc, pa, pd, rfl, pF, pR, p0, p1', p2', p3, p4, p5, p6, p7, p8⟩ := K10.out.at 0 (by simp)
        simp only [List.length_singleton]
        simp only [Nat.zero_mul, Nat.add_zero, List.getElem_cons_zero] at p0 p1' p2' p3 p4 p5 p6 p7 p8 pR
        have XS := X2'
        have GD := Lib.hid (Hg.out.go B5.out)
        go_wp2_with fail
        obtain ⟨Vp, HV⟩ : ∃ Vp : Nat → Value → World → Prop, Hid (Vp = fun i v W => match i with
            | 0 => v = .agg #[.int .i64 2, .int .i64 1, .slice sa 0 sc, .slice qa 0 qc, .int .i64 u0]
            | 1 => v = .slice (some ⟨pg, po, none⟩) 1 pc
            | 2 => v = .pointer (some ⟨pg, po, none⟩)
            | 3 => v = .agg #[.int .i64 p1.epoch, .int .i64 p1.number, .bool p1.bare, .int .i64 p1.ack, .int .i64 p1.f.kind, .int .i64 p1.f.heard, .int .i64 p1.f.epoch, .slice pa p1.f.op.length pd, .string p1.f.text]
            | 4 => ∃ e0 e1 e2 e3 f0 f1 f2 f3 f4 f5 f6 z, v = .tuple #[.agg #[.int .i64 2, .int .i64 1, .slice e0 0 e1, .slice e2 0 e3, .int .i64 u1], .agg #[.int .i64 f0, .int .i64 f1, .int .i64 f2, .slice f3 f4 f5, .string f6], .bool true, z, .int .i64 0] ∧ NilS e0 e1 ∧ NilS e2 e3 ∧ AckV u1 z W
            | 5 => ∃ e0 e1 e2 e3 f0 f1 f2 f3 f4 f5 f6 z, v = .tuple #[.agg #[.int .i64 2, .int .i64 1, .slice e0 0 e1, .slice e2 0 e3, .int .i64 u1], .agg #[.int .i64 f0, .int .i64 f1, .int .i64 f2, .slice f3 f4 f5, .string f6], .bool true, z, .int .i64 0] ∧ NilS e0 e1 ∧ NilS e2 e3 ∧ AckV u1 z W
            | 6 => ∃ e0 e1 e2 e3, v = .agg #[.int .i64 2, .int .i64 1, .slice e0 0 e1, .slice e2 0 e3, .int .i64 u1] ∧ NilS e0 e1 ∧ NilS e2 e3
            | 7 => ∃ f0 f1 f2 f3 f4 f5 f6, v = .agg #[.int .i64 f0, .int .i64 f1, .int .i64 f2, .slice f3 f4 f5, .string f6]
            | 8 => v = .bool true
            | 9 => ∃ y, v = y ∧ AckV u1 y W
            | 10 => v = .int .i64 0
            | 11 => ∃ g, v = .pointer (some ⟨g, 0, none⟩) ∧ w5.heap.size ≤ g ∧ Blk g (.cells #[.int .i64 0, .int .i64 0, .slice none 0 0, .slice none 0 0, .int .i64 0] 33 (0, 0)) W
            | 12 => ∃ g, v = .pointer (some ⟨g, 0, none⟩) ∧ w5.heap.size ≤ g ∧ Blk g (.cells #[.int .i64 0, .int .i64 0, .int .i64 0, .slice none 0 0, .string ⟨#[]⟩] 30 (0, 0)) W
            | 13 => v = undef
            | 14 => v = undef
            | 15 => v = .bool true
            | 16 => ∃ y, v = y ∧ AckV u1 y W
            | _ => v = .int .i64 0) := ⟨_, rfl⟩
        obtain ⟨Ip, HIp⟩ : ∃ Ip : (Nat → Bool) → (Nat → Value) → World → Prop, Hid (Ip = fun L x W => (Below w5.heap.size w5 W ∧ (L 13 = true → ∃ g e0 e1 e2 e3, x 11 = .pointer (some ⟨g, 0, none⟩) ∧ w5.heap.size ≤ g ∧ NilS e0 e1 ∧ NilS e2 e3 ∧ Blk g (.cells #[.int .i64 2, .int .i64 1, .slice e0 0 e1, .slice e2 0 e3, .int .i64 u1] 33 (0, 0)) W))) := ⟨_, rfl⟩
        refine region_lit3 (by kernel_rfl) (by kernel_rfl) (by kernel_rfl) [[], [], [1], [1, 2], [0, 1, 2, 3], [0, 1, 2, 3, 4], [0, 1, 2, 3, 4, 5], [0, 1, 2, 3, 4, 5], [0, 1, 2, 3, 4, 5], [0, 1, 2, 3, 4, 5], [0, 1, 2, 3, 4, 5], [], [], [0, 1, 2, 3, 4, 5, 6, 11], [0, 1, 2, 3, 4, 5, 7, 12], [0, 1, 2, 3, 4, 5, 8], [0, 1, 2, 3, 4, 5, 9], [0, 1, 2, 3, 4, 5, 10]] (by kernel_rfl) [some 58, some 59, some 60, some 61, some 62, some 57, some 63, some 64, some 65, some 66, some 67, some 15, some 16, none, none, some 17, some 18, some 19] (by kernel_rfl) [[0, 4, 5, 6, 7, 8, 9, 10, 13, 14, 15, 16, 17], [1, 2, 3, 4, 5, 6, 7, 8, 9, 10, 13, 14, 15, 16, 17], [2, 3, 4, 5, 6, 7, 8, 9, 10, 13, 14, 15, 16, 17], [3, 4, 5, 6, 7, 8, 9, 10, 13, 14, 15, 16, 17], [4, 5, 6, 7, 8, 9, 10, 13, 14, 15, 16, 17], [5, 6, 7, 8, 9, 10, 13, 14, 15, 16, 17], [6, 13], [7, 14], [8, 15], [9, 16], [10, 17], [11, 13], [12, 14], [13], [14], [15], [16], [17]] (by kernel_rfl) [[], [], [], [], [], [], [], [], [], [], [], [13], [14], [], [], [], [], []] [[], [], [1], [2], [0, 3], [4], [5], [5], [5], [5], [5], [], [], [6, 11], [7, 12], [8], [9], [10]] (by kernel_rfl)
          Ip
          Vp
          (fun j W W' => match j with
            | 13 => ∃ g, Blk g (.cells #[.int .i64 0, .int .i64 0, .slice none 0 0, .slice none 0 0, .int .i64 0] 33 (0, 0)) W ∧ Touch (fun z => z = g) W W' ∧ w5.heap.size ≤ g
            | 14 => ∃ g, Blk g (.cells #[.int .i64 0, .int .i64 0, .int .i64 0, .slice none 0 0, .string ⟨#[]⟩] 30 (0, 0)) W ∧ Touch (fun z => z = g) W W' ∧ w5.heap.size ≤ g
            | _ => Below W.heap.size W W')
          [fun x => ⟨#[undef, undef, undef, undef, undef, undef, undef, undef, undef, .pointer (some ⟨w2.heap.size, 0, none⟩), undef, undef, undef, undef, undef, undef, undef, undef, undef, undef, undef, undef, undef, undef, undef, undef, undef, undef, undef, undef, undef, undef, undef, undef, undef, undef, undef, undef, undef, undef, undef, undef, undef, undef, undef, undef, undef, undef, undef, undef, undef, undef, undef, undef, undef, undef, undef, undef, undef], []⟩,
   fun x => ⟨#[undef, undef, undef, undef, undef, undef, undef, undef, undef, undef, undef, undef, undef, .slice (some ⟨pg, po, none⟩) 1 pc, undef, undef, undef, undef, undef, undef, undef, undef, undef, undef, undef, undef, undef, undef, undef, undef, undef, undef, undef, undef, undef, undef, undef, undef, undef, undef, undef, undef, undef, undef, undef, undef, undef, undef, undef, undef, undef, undef, undef, undef, undef, undef, undef, undef, undef, undef], []⟩,
   fun x => ⟨#[undef, undef, undef, undef, undef, undef, undef, undef, undef, undef, undef, undef, undef, undef, undef, undef, undef, undef, undef, undef, undef, undef, undef, undef, undef, undef, undef, undef, undef, undef, undef, undef, undef, undef, undef, undef, undef, undef, undef, undef, undef, undef, undef, undef, undef, undef, undef, undef, undef, undef, undef, undef, undef, undef, undef, undef, undef, undef, undef, x 1, undef], []⟩,
   fun x => ⟨#[undef, undef, undef, undef, undef, undef, undef, undef, undef, undef, undef, undef, undef, undef, undef, undef, undef, undef, undef, undef, undef, undef, undef, undef, undef, undef, undef, undef, undef, undef, undef, undef, undef, undef, undef, undef, undef, undef, undef, undef, undef, undef, undef, undef, undef, undef, undef, undef, undef, undef, undef, undef, undef, undef, undef, undef, undef, undef, undef, undef, x 2, undef], []⟩,
   fun x => ⟨#[undef, undef, undef, undef, undef, undef, undef, undef, undef, undef, undef, undef, undef, undef, undef, undef, undef, undef, undef, undef, undef, undef, undef, undef, undef, undef, undef, undef, undef, undef, undef, undef, undef, undef, undef, undef, undef, undef, undef, undef, undef, undef, undef, undef, undef, undef, undef, undef, undef, undef, undef, undef, undef, undef, undef, undef, undef, undef, x 0, undef, undef, x 3, undef], []⟩,
   fun x => ⟨#[undef, undef, undef, undef, undef, undef, undef, undef, undef, undef, undef, undef, undef, undef, undef, undef, undef, undef, undef, undef, undef, undef, undef, undef, undef, undef, undef, undef, undef, undef, undef, undef, undef, undef, undef, undef, undef, undef, undef, undef, undef, undef, undef, undef, undef, undef, undef, undef, undef, undef, undef, undef, undef, undef, undef, undef, undef, undef, undef, undef, undef, undef, x 4], []⟩,
   fun x => ⟨#[undef, undef, undef, undef, undef, undef, undef, undef, undef, undef, undef, undef, undef, undef, undef, undef, undef, undef, undef, undef, undef, undef, undef, undef, undef, undef, undef, undef, undef, undef, undef, undef, undef, undef, undef, undef, undef, undef, undef, undef, undef, undef, undef, undef, undef, undef, undef, undef, undef, undef, undef, undef, undef, undef, undef, undef, undef, x 5, undef, undef, undef, undef, undef, undef], []⟩,
   fun x => ⟨#[undef, undef, undef, undef, undef, undef, undef, undef, undef, undef, undef, undef, undef, undef, undef, undef, undef, undef, undef, undef, undef, undef, undef, undef, undef, undef, undef, undef, undef, undef, undef, undef, undef, undef, undef, undef, undef, undef, undef, undef, undef, undef, undef, undef, undef, undef, undef, undef, undef, undef, undef, undef, undef, undef, undef, undef, undef, x 5, undef, undef, undef, undef, undef, undef, undef], []⟩,
   fun x => ⟨#[undef, undef, undef, undef, undef, undef, undef, undef, undef, undef, undef, undef, undef, undef, undef, undef, undef, undef, undef, undef, undef, undef, undef, undef, undef, undef, undef, undef, undef, undef, undef, undef, undef, undef, undef, undef, undef, undef, undef, undef, undef, undef, undef, undef, undef, undef, undef, undef, undef, undef, undef, undef, undef, undef, undef, undef, undef, x 5, undef, undef, undef, undef, undef, undef, undef, undef], []⟩,
   fun x => ⟨#[undef, undef, undef, undef, undef, undef, undef, undef, undef, undef, undef, undef, undef, undef, undef, undef, undef, undef, undef, undef, undef, undef, undef, undef, undef, undef, undef, undef, undef, undef, undef, undef, undef, undef, undef, undef, undef, undef, undef, undef, undef, undef, undef, undef, undef, undef, undef, undef, undef, undef, undef, undef, undef, undef, undef, undef, undef, x 5, undef, undef, undef, undef, undef, undef, undef, undef, undef], []⟩,
   fun x => ⟨#[undef, undef, undef, undef, undef, undef, undef, undef, undef, undef, undef, undef, undef, undef, undef, undef, undef, undef, undef, undef, undef, undef, undef, undef, undef, undef, undef, undef, undef, undef, undef, undef, undef, undef, undef, undef, undef, undef, undef, undef, undef, undef, undef, undef, undef, undef, undef, undef, undef, undef, undef, undef, undef, undef, undef, undef, undef, x 5, undef, undef, undef, undef, undef, undef, undef, undef, undef, undef], []⟩,
   fun x => ⟨#[undef, undef, undef, undef, undef, undef, undef, undef, undef, undef, undef, undef, undef, undef, undef, undef], []⟩,
   fun x => ⟨#[undef, undef, undef, undef, undef, undef, undef, undef, undef, undef, undef, undef, undef, undef, undef, undef, undef], []⟩,
   fun x => ⟨#[undef, undef, undef, undef, undef, undef, undef, undef, undef, undef, undef, undef, undef, undef, undef, x 11, undef, undef, undef, undef, undef, undef, undef, undef, undef, undef, undef, undef, undef, undef, undef, undef, undef, undef, undef, undef, undef, undef, undef, undef, undef, undef, undef, undef, undef, undef, undef, undef, undef, undef, undef, undef, undef, undef, undef, undef, undef, undef, undef, undef, undef, undef, undef, x 6], []⟩,
   fun x => ⟨#[undef, undef, undef, undef, undef, undef, undef, undef, undef, undef, undef, undef, undef, undef, undef, undef, x 12, undef, undef, undef, undef, undef, undef, undef, undef, undef, undef, undef, undef, undef, undef, undef, undef, undef, undef, undef, undef, undef, undef, undef, undef, undef, undef, undef, undef, undef, undef, undef, undef, undef, undef, undef, undef, undef, undef, undef, undef, undef, undef, undef, undef, undef, undef, undef, x 7], []⟩,
   fun x => ⟨#[undef, undef, undef, undef, undef, undef, undef, undef, undef, undef, undef, undef, undef, undef, undef, undef, undef, undef, undef, undef, undef, undef, undef, undef, undef, undef, undef, undef, undef, undef, undef, undef, undef, undef, undef, undef, undef, undef, undef, undef, undef, undef, undef, undef, undef, undef, undef, undef, undef, undef, undef, undef, undef, undef, undef, undef, undef, undef, undef, undef, undef, undef, undef, undef, undef, x 8], []⟩,
   fun x => ⟨#[undef, undef, undef, undef, undef, undef, undef, undef, undef, undef, undef, undef, undef, undef, undef, undef, undef, undef, undef, undef, undef, undef, undef, undef, undef, undef, undef, undef, undef, undef, undef, undef, undef, undef, undef, undef, undef, undef, undef, undef, undef, undef, undef, undef, undef, undef, undef, undef, undef, undef, undef, undef, undef, undef, undef, undef, undef, undef, undef, undef, undef, undef, undef, undef, undef, undef, x 9], []⟩,
   fun x => ⟨#[undef, undef, undef, undef, undef, undef, undef, undef, undef, undef, undef, undef, undef, undef, undef, undef, undef, undef, undef, undef, undef, undef, undef, undef, undef, undef, undef, undef, undef, undef, undef, undef, undef, undef, undef, undef, undef, undef, undef, undef, undef, undef, undef, undef, undef, undef, undef, undef, undef, undef, undef, undef, undef, undef, undef, undef, undef, undef, undef, undef, undef, undef, undef, undef, undef, undef, undef, x 10], []⟩]
          ?hF ?mono ?h0 ?step [0, 1, 2, 3, 4, 5, 6, 7, 8, 9, 10, 13, 14, 15, 16, 17] (by kernel_rfl) ?fin
        case hF =>
          exact ⟨fun x => ⟨by kernel_rfl, by kernel_rfl⟩, fun x => ⟨by kernel_rfl, by kernel_rfl⟩, fun x => ⟨by kernel_rfl, by kernel_rfl⟩, fun x => ⟨by kernel_rfl, by kernel_rfl⟩, fun x => ⟨by kernel_rfl, by kernel_rfl⟩, fun x => ⟨by kernel_rfl, by kernel_rfl⟩, fun x => ⟨by kernel_rfl, by kernel_rfl⟩, fun x => ⟨by kernel_rfl, by kernel_rfl⟩, fun x => ⟨by kernel_rfl, by kernel_rfl⟩, fun x => ⟨by kernel_rfl, by kernel_rfl⟩, fun x => ⟨by kernel_rfl, by kernel_rfl⟩, fun x => ⟨by kernel_rfl, by kernel_rfl⟩, fun x => ⟨by kernel_rfl, by kernel_rfl⟩, fun x => ⟨by kernel_rfl, by kernel_rfl⟩, fun x => ⟨by kernel_rfl, by kernel_rfl⟩, fun x => ⟨by kernel_rfl, by kernel_rfl⟩, fun x => ⟨by kernel_rfl, by kernel_rfl⟩, fun x => ⟨by kernel_rfl, by kernel_rfl⟩, trivial⟩
        case mono =>
          intro i j hi hj hne hna hnk v W W' hE hv
          rw [HV.out] at hv ⊢
          simp only [List.length_cons, List.length_nil] at hi hj
          match i, hi with
          | 0, _ | 1, _ | 2, _ | 3, _ | 8, _ | 10, _ | 13, _ | 14, _ | 15, _ | 17, _ => exact hv
          | 4, _ =>
            match j, hj with
            | 4, _ => exact absurd rfl hne
            | 0, _ => exact absurd (by simp) hna
            | 1, _ => exact absurd (by simp) hna
            | 2, _ => exact absurd (by simp) hna
            | 3, _ => exact absurd (by simp) hna
            | 5, _ => exact (by obtain ⟨e0, e1, e2, e3, f0, f1, f2, f3, f4, f5, f6, z, e, n1, n2, hk⟩ := hv; exact ⟨e0, e1, e2, e3, f0, f1, f2, f3, f4, f5, f6, z, e, n1, n2, hk.go hE⟩)
            | 6, _ => exact (by obtain ⟨e0, e1, e2, e3, f0, f1, f2, f3, f4, f5, f6, z, e, n1, n2, hk⟩ := hv; exact ⟨e0, e1, e2, e3, f0, f1, f2, f3, f4, f5, f6, z, e, n1, n2, hk.go hE⟩)
            | 7, _ => exact (by obtain ⟨e0, e1, e2, e3, f0, f1, f2, f3, f4, f5, f6, z, e, n1, n2, hk⟩ := hv; exact ⟨e0, e1, e2, e3, f0, f1, f2, f3, f4, f5, f6, z, e, n1, n2, hk.go hE⟩)
            | 8, _ => exact (by obtain ⟨e0, e1, e2, e3, f0, f1, f2, f3, f4, f5, f6, z, e, n1, n2, hk⟩ := hv; exact ⟨e0, e1, e2, e3, f0, f1, f2, f3, f4, f5, f6, z, e, n1, n2, hk.go hE⟩)
            | 9, _ => exact (by obtain ⟨e0, e1, e2, e3, f0, f1, f2, f3, f4, f5, f6, z, e, n1, n2, hk⟩ := hv; exact ⟨e0, e1, e2, e3, f0, f1, f2, f3, f4, f5, f6, z, e, n1, n2, hk.go hE⟩)
            | 10, _ => exact (by obtain ⟨e0, e1, e2, e3, f0, f1, f2, f3, f4, f5, f6, z, e, n1, n2, hk⟩ := hv; exact ⟨e0, e1, e2, e3, f0, f1, f2, f3, f4, f5, f6, z, e, n1, n2, hk.go hE⟩)
            | 11, _ => exact (by obtain ⟨e0, e1, e2, e3, f0, f1, f2, f3, f4, f5, f6, z, e, n1, n2, hk⟩ := hv; exact ⟨e0, e1, e2, e3, f0, f1, f2, f3, f4, f5, f6, z, e, n1, n2, hk.go hE⟩)
            | 12, _ => exact (by obtain ⟨e0, e1, e2, e3, f0, f1, f2, f3, f4, f5, f6, z, e, n1, n2, hk⟩ := hv; exact ⟨e0, e1, e2, e3, f0, f1, f2, f3, f4, f5, f6, z, e, n1, n2, hk.go hE⟩)
            | 13, _ => exact (by obtain ⟨e0, e1, e2, e3, f0, f1, f2, f3, f4, f5, f6, z, e, n1, n2, hk⟩ := hv; obtain ⟨g', hz, ht, -⟩ := hE; exact ⟨e0, e1, e2, e3, f0, f1, f2, f3, f4, f5, f6, z, e, n1, n2, hk.off (link_nobool hz) ht⟩)
            | 14, _ => exact (by obtain ⟨e0, e1, e2, e3, f0, f1, f2, f3, f4, f5, f6, z, e, n1, n2, hk⟩ := hv; obtain ⟨g', hz, ht, -⟩ := hE; exact ⟨e0, e1, e2, e3, f0, f1, f2, f3, f4, f5, f6, z, e, n1, n2, hk.off (frame_nobool hz) ht⟩)
            | 15, _ => exact (by obtain ⟨e0, e1, e2, e3, f0, f1, f2, f3, f4, f5, f6, z, e, n1, n2, hk⟩ := hv; exact ⟨e0, e1, e2, e3, f0, f1, f2, f3, f4, f5, f6, z, e, n1, n2, hk.go hE⟩)
            | 16, _ => exact (by obtain ⟨e0, e1, e2, e3, f0, f1, f2, f3, f4, f5, f6, z, e, n1, n2, hk⟩ := hv; exact ⟨e0, e1, e2, e3, f0, f1, f2, f3, f4, f5, f6, z, e, n1, n2, hk.go hE⟩)
            | 17, _ => exact (by obtain ⟨e0, e1, e2, e3, f0, f1, f2, f3, f4, f5, f6, z, e, n1, n2, hk⟩ := hv; exact ⟨e0, e1, e2, e3, f0, f1, f2, f3, f4, f5, f6, z, e, n1, n2, hk.go hE⟩)
            | m + 18, h => exact absurd h (by omega)
          | 5, _ =>
            match j, hj with
            | 5, _ => exact absurd rfl hne
            | 0, _ => exact absurd (by simp) hna
            | 1, _ => exact absurd (by simp) hna
            | 2, _ => exact absurd (by simp) hna
            | 3, _ => exact absurd (by simp) hna
            | 4, _ => exact absurd (by simp) hna
            | 6, _ => exact (by obtain ⟨e0, e1, e2, e3, f0, f1, f2, f3, f4, f5, f6, z, e, n1, n2, hk⟩ := hv; exact ⟨e0, e1, e2, e3, f0, f1, f2, f3, f4, f5, f6, z, e, n1, n2, hk.go hE⟩)
            | 7, _ => exact (by obtain ⟨e0, e1, e2, e3, f0, f1, f2, f3, f4, f5, f6, z, e, n1, n2, hk⟩ := hv; exact ⟨e0, e1, e2, e3, f0, f1, f2, f3, f4, f5, f6, z, e, n1, n2, hk.go hE⟩)
            | 8, _ => exact (by obtain ⟨e0, e1, e2, e3, f0, f1, f2, f3, f4, f5, f6, z, e, n1, n2, hk⟩ := hv; exact ⟨e0, e1, e2, e3, f0, f1, f2, f3, f4, f5, f6, z, e, n1, n2, hk.go hE⟩)
            | 9, _ => exact (by obtain ⟨e0, e1, e2, e3, f0, f1, f2, f3, f4, f5, f6, z, e, n1, n2, hk⟩ := hv; exact ⟨e0, e1, e2, e3, f0, f1, f2, f3, f4, f5, f6, z, e, n1, n2, hk.go hE⟩)
            | 10, _ => exact (by obtain ⟨e0, e1, e2, e3, f0, f1, f2, f3, f4, f5, f6, z, e, n1, n2, hk⟩ := hv; exact ⟨e0, e1, e2, e3, f0, f1, f2, f3, f4, f5, f6, z, e, n1, n2, hk.go hE⟩)
            | 11, _ => exact (by obtain ⟨e0, e1, e2, e3, f0, f1, f2, f3, f4, f5, f6, z, e, n1, n2, hk⟩ := hv; exact ⟨e0, e1, e2, e3, f0, f1, f2, f3, f4, f5, f6, z, e, n1, n2, hk.go hE⟩)
            | 12, _ => exact (by obtain ⟨e0, e1, e2, e3, f0, f1, f2, f3, f4, f5, f6, z, e, n1, n2, hk⟩ := hv; exact ⟨e0, e1, e2, e3, f0, f1, f2, f3, f4, f5, f6, z, e, n1, n2, hk.go hE⟩)
            | 13, _ => exact (by obtain ⟨e0, e1, e2, e3, f0, f1, f2, f3, f4, f5, f6, z, e, n1, n2, hk⟩ := hv; obtain ⟨g', hz, ht, -⟩ := hE; exact ⟨e0, e1, e2, e3, f0, f1, f2, f3, f4, f5, f6, z, e, n1, n2, hk.off (link_nobool hz) ht⟩)
            | 14, _ => exact (by obtain ⟨e0, e1, e2, e3, f0, f1, f2, f3, f4, f5, f6, z, e, n1, n2, hk⟩ := hv; obtain ⟨g', hz, ht, -⟩ := hE; exact ⟨e0, e1, e2, e3, f0, f1, f2, f3, f4, f5, f6, z, e, n1, n2, hk.off (frame_nobool hz) ht⟩)
            | 15, _ => exact (by obtain ⟨e0, e1, e2, e3, f0, f1, f2, f3, f4, f5, f6, z, e, n1, n2, hk⟩ := hv; exact ⟨e0, e1, e2, e3, f0, f1, f2, f3, f4, f5, f6, z, e, n1, n2, hk.go hE⟩)
            | 16, _ => exact (by obtain ⟨e0, e1, e2, e3, f0, f1, f2, f3, f4, f5, f6, z, e, n1, n2, hk⟩ := hv; exact ⟨e0, e1, e2, e3, f0, f1, f2, f3, f4, f5, f6, z, e, n1, n2, hk.go hE⟩)
            | 17, _ => exact (by obtain ⟨e0, e1, e2, e3, f0, f1, f2, f3, f4, f5, f6, z, e, n1, n2, hk⟩ := hv; exact ⟨e0, e1, e2, e3, f0, f1, f2, f3, f4, f5, f6, z, e, n1, n2, hk.go hE⟩)
            | m + 18, h => exact absurd h (by omega)
          | 6, _ =>
            match j, hj with
            | 6, _ => exact absurd rfl hne
            | 0, _ => exact absurd (by simp) hna
            | 1, _ => exact absurd (by simp) hna
            | 2, _ => exact absurd (by simp) hna
            | 3, _ => exact absurd (by simp) hna
            | 4, _ => exact absurd (by simp) hna
            | 5, _ => exact absurd (by simp) hna
            | 7, _ => exact (id hv)
            | 8, _ => exact (id hv)
            | 9, _ => exact (id hv)
            | 10, _ => exact (id hv)
            | 11, _ => exact (id hv)
            | 12, _ => exact (id hv)
            | 13, _ => exact (id hv)
            | 14, _ => exact (id hv)
            | 15, _ => exact (id hv)
            | 16, _ => exact (id hv)
            | 17, _ => exact (id hv)
            | m + 18, h => exact absurd h (by omega)
          | 7, _ =>
            match j, hj with
            | 7, _ => exact absurd rfl hne
            | 0, _ => exact absurd (by simp) hna
            | 1, _ => exact absurd (by simp) hna
            | 2, _ => exact absurd (by simp) hna
            | 3, _ => exact absurd (by simp) hna
            | 4, _ => exact absurd (by simp) hna
            | 5, _ => exact absurd (by simp) hna
            | 6, _ => exact (id hv)
            | 8, _ => exact (id hv)
            | 9, _ => exact (id hv)
            | 10, _ => exact (id hv)
            | 11, _ => exact (id hv)
            | 12, _ => exact (id hv)
            | 13, _ => exact (id hv)
            | 14, _ => exact (id hv)
            | 15, _ => exact (id hv)
            | 16, _ => exact (id hv)
            | 17, _ => exact (id hv)
            | m + 18, h => exact absurd h (by omega)
          | 9, _ =>
            match j, hj with
            | 9, _ => exact absurd rfl hne
            | 0, _ => exact absurd (by simp) hna
            | 1, _ => exact absurd (by simp) hna
            | 2, _ => exact absurd (by simp) hna
            | 3, _ => exact absurd (by simp) hna
            | 4, _ => exact absurd (by simp) hna
            | 5, _ => exact absurd (by simp) hna
            | 6, _ => exact (by obtain ⟨y, e, hk⟩ := hv; exact ⟨y, e, hk.go hE⟩)
            | 7, _ => exact (by obtain ⟨y, e, hk⟩ := hv; exact ⟨y, e, hk.go hE⟩)
            | 8, _ => exact (by obtain ⟨y, e, hk⟩ := hv; exact ⟨y, e, hk.go hE⟩)
            | 10, _ => exact (by obtain ⟨y, e, hk⟩ := hv; exact ⟨y, e, hk.go hE⟩)
            | 11, _ => exact (by obtain ⟨y, e, hk⟩ := hv; exact ⟨y, e, hk.go hE⟩)
            | 12, _ => exact (by obtain ⟨y, e, hk⟩ := hv; exact ⟨y, e, hk.go hE⟩)
            | 13, _ => exact (by obtain ⟨y, e, hk⟩ := hv; obtain ⟨g', hz, ht, -⟩ := hE; exact ⟨y, e, hk.off (link_nobool hz) ht⟩)
            | 14, _ => exact (by obtain ⟨y, e, hk⟩ := hv; obtain ⟨g', hz, ht, -⟩ := hE; exact ⟨y, e, hk.off (frame_nobool hz) ht⟩)
            | 15, _ => exact (by obtain ⟨y, e, hk⟩ := hv; exact ⟨y, e, hk.go hE⟩)
            | 16, _ => exact (by obtain ⟨y, e, hk⟩ := hv; exact ⟨y, e, hk.go hE⟩)
            | 17, _ => exact (by obtain ⟨y, e, hk⟩ := hv; exact ⟨y, e, hk.go hE⟩)
            | m + 18, h => exact absurd h (by omega)
          | 11, _ =>
            match j, hj with
            | 11, _ => exact absurd rfl hne
            | 13, _ => exact absurd (by simp) hnk
            | 0, _ => exact (by obtain ⟨g, h1, h2, h3⟩ := hv; exact ⟨g, h1, h2, h3.go hE⟩)
            | 1, _ => exact (by obtain ⟨g, h1, h2, h3⟩ := hv; exact ⟨g, h1, h2, h3.go hE⟩)
            | 2, _ => exact (by obtain ⟨g, h1, h2, h3⟩ := hv; exact ⟨g, h1, h2, h3.go hE⟩)
            | 3, _ => exact (by obtain ⟨g, h1, h2, h3⟩ := hv; exact ⟨g, h1, h2, h3.go hE⟩)
            | 4, _ => exact (by obtain ⟨g, h1, h2, h3⟩ := hv; exact ⟨g, h1, h2, h3.go hE⟩)
            | 5, _ => exact (by obtain ⟨g, h1, h2, h3⟩ := hv; exact ⟨g, h1, h2, h3.go hE⟩)
            | 6, _ => exact (by obtain ⟨g, h1, h2, h3⟩ := hv; exact ⟨g, h1, h2, h3.go hE⟩)
            | 7, _ => exact (by obtain ⟨g, h1, h2, h3⟩ := hv; exact ⟨g, h1, h2, h3.go hE⟩)
            | 8, _ => exact (by obtain ⟨g, h1, h2, h3⟩ := hv; exact ⟨g, h1, h2, h3.go hE⟩)
            | 9, _ => exact (by obtain ⟨g, h1, h2, h3⟩ := hv; exact ⟨g, h1, h2, h3.go hE⟩)
            | 10, _ => exact (by obtain ⟨g, h1, h2, h3⟩ := hv; exact ⟨g, h1, h2, h3.go hE⟩)
            | 12, _ => exact (by obtain ⟨g, h1, h2, h3⟩ := hv; exact ⟨g, h1, h2, h3.go hE⟩)
            | 14, _ => exact (by obtain ⟨g, h1, h2, h3⟩ := hv; obtain ⟨g', hz, ht, -⟩ := hE; exact ⟨g, h1, h2, h3.touch ht (fun e => blk_types h3 hz (by decide) e)⟩)
            | 15, _ => exact (by obtain ⟨g, h1, h2, h3⟩ := hv; exact ⟨g, h1, h2, h3.go hE⟩)
            | 16, _ => exact (by obtain ⟨g, h1, h2, h3⟩ := hv; exact ⟨g, h1, h2, h3.go hE⟩)
            | 17, _ => exact (by obtain ⟨g, h1, h2, h3⟩ := hv; exact ⟨g, h1, h2, h3.go hE⟩)
            | m + 18, h => exact absurd h (by omega)
          | 12, _ =>
            match j, hj with
            | 12, _ => exact absurd rfl hne
            | 14, _ => exact absurd (by simp) hnk
            | 0, _ => exact (by obtain ⟨g, h1, h2, h3⟩ := hv; exact ⟨g, h1, h2, h3.go hE⟩)
            | 1, _ => exact (by obtain ⟨g, h1, h2, h3⟩ := hv; exact ⟨g, h1, h2, h3.go hE⟩)
            | 2, _ => exact (by obtain ⟨g, h1, h2, h3⟩ := hv; exact ⟨g, h1, h2, h3.go hE⟩)
            | 3, _ => exact (by obtain ⟨g, h1, h2, h3⟩ := hv; exact ⟨g, h1, h2, h3.go hE⟩)
            | 4, _ => exact (by obtain ⟨g, h1, h2, h3⟩ := hv; exact ⟨g, h1, h2, h3.go hE⟩)
            | 5, _ => exact (by obtain ⟨g, h1, h2, h3⟩ := hv; exact ⟨g, h1, h2, h3.go hE⟩)
            | 6, _ => exact (by obtain ⟨g, h1, h2, h3⟩ := hv; exact ⟨g, h1, h2, h3.go hE⟩)
            | 7, _ => exact (by obtain ⟨g, h1, h2, h3⟩ := hv; exact ⟨g, h1, h2, h3.go hE⟩)
            | 8, _ => exact (by obtain ⟨g, h1, h2, h3⟩ := hv; exact ⟨g, h1, h2, h3.go hE⟩)
            | 9, _ => exact (by obtain ⟨g, h1, h2, h3⟩ := hv; exact ⟨g, h1, h2, h3.go hE⟩)
            | 10, _ => exact (by obtain ⟨g, h1, h2, h3⟩ := hv; exact ⟨g, h1, h2, h3.go hE⟩)
            | 11, _ => exact (by obtain ⟨g, h1, h2, h3⟩ := hv; exact ⟨g, h1, h2, h3.go hE⟩)
            | 13, _ => exact (by obtain ⟨g, h1, h2, h3⟩ := hv; obtain ⟨g', hz, ht, -⟩ := hE; exact ⟨g, h1, h2, h3.touch ht (fun e => blk_types h3 hz (by decide) e)⟩)
            | 15, _ => exact (by obtain ⟨g, h1, h2, h3⟩ := hv; exact ⟨g, h1, h2, h3.go hE⟩)
            | 16, _ => exact (by obtain ⟨g, h1, h2, h3⟩ := hv; exact ⟨g, h1, h2, h3.go hE⟩)
            | 17, _ => exact (by obtain ⟨g, h1, h2, h3⟩ := hv; exact ⟨g, h1, h2, h3.go hE⟩)
            | m + 18, h => exact absurd h (by omega)
          | 16, _ =>
            match j, hj with
            | 16, _ => exact absurd rfl hne
            | 0, _ => exact absurd (by simp) hna
            | 1, _ => exact absurd (by simp) hna
            | 2, _ => exact absurd (by simp) hna
            | 3, _ => exact absurd (by simp) hna
            | 4, _ => exact absurd (by simp) hna
            | 5, _ => exact absurd (by simp) hna
            | 9, _ => exact absurd (by simp) hna
            | 6, _ => exact (by obtain ⟨y, e, hk⟩ := hv; exact ⟨y, e, hk.go hE⟩)
            | 7, _ => exact (by obtain ⟨y, e, hk⟩ := hv; exact ⟨y, e, hk.go hE⟩)
            | 8, _ => exact (by obtain ⟨y, e, hk⟩ := hv; exact ⟨y, e, hk.go hE⟩)
            | 10, _ => exact (by obtain ⟨y, e, hk⟩ := hv; exact ⟨y, e, hk.go hE⟩)
            | 11, _ => exact (by obtain ⟨y, e, hk⟩ := hv; exact ⟨y, e, hk.go hE⟩)
            | 12, _ => exact (by obtain ⟨y, e, hk⟩ := hv; exact ⟨y, e, hk.go hE⟩)
            | 13, _ => exact (by obtain ⟨y, e, hk⟩ := hv; obtain ⟨g', hz, ht, -⟩ := hE; exact ⟨y, e, hk.off (link_nobool hz) ht⟩)
            | 14, _ => exact (by obtain ⟨y, e, hk⟩ := hv; obtain ⟨g', hz, ht, -⟩ := hE; exact ⟨y, e, hk.off (frame_nobool hz) ht⟩)
            | 15, _ => exact (by obtain ⟨y, e, hk⟩ := hv; exact ⟨y, e, hk.go hE⟩)
            | 17, _ => exact (by obtain ⟨y, e, hk⟩ := hv; exact ⟨y, e, hk.go hE⟩)
            | m + 18, h => exact absurd h (by omega)
          | m + 18, h => exact absurd h (by omega)
        case h0 => intro x; exact toI HIp ⟨(Below.refl _ _).drew, fun h => by cases h⟩
        case step =>
          refine ⟨?_, ?_, ?_, ?_, ?_, ?_, ?_, ?_, ?_, ?_, ?_, ?_, ?_, ?_, ?_, ?_, ?_, ?_, trivial⟩
          all_goals
            intro x W L hI hL hV
            replace hI : (Below w5.heap.size w5 W ∧ (L 13 = true → ∃ g e0 e1 e2 e3, x 11 = .pointer (some ⟨g, 0, none⟩) ∧ w5.heap.size ≤ g ∧ NilS e0 e1 ∧ NilS e2 e3 ∧ Blk g (.cells #[.int .i64 2, .int .i64 1, .slice e0 0 e1, .slice e2 0 e3, .int .i64 u1] 33 (0, 0)) W)) := ofI HIp hI
            rw [HV.out] at hV
            simp only [AllV, and_true] at hV
          · clear hV
            (try dsimp only)
            obtain ⟨q0', q1', q2', q3', q4'⟩ := blk_cells5 (XS.out.go hI.1)
            have HI := Lib.hid hI
            clear hI
            go_wp2_with fail
            refine step3_done rfl ?_ ?_ ?_
            · exact (toI HIp HI.out)
            · exact (Below.refl _ _)
            · exact (toV HV rfl)
          · clear hV
            (try dsimp only)
            have HI := Lib.hid hI
            clear hI
            go_wp2_with fail
            refine step3_done rfl ?_ ?_ ?_
            · exact (toI HIp HI.out)
            · exact (Below.refl _ _)
            · exact (toV HV rfl)
          · have u1 := hV
            clear hV
            simp only [u1]
            clear u1
            have HI := Lib.hid hI
            clear hI
            go_wp2_with fail
            refine step3_done rfl ?_ ?_ ?_
            · exact (toI HIp HI.out)
            · exact (Below.refl _ _)
            · exact (toV HV rfl)
          · have u2 := hV
            clear hV
            simp only [u2]
            clear u2
            have y0 := (hI.1.cell (p := ⟨pg, po, none⟩) pF.2).trans p0
            have y1 := (hI.1.cell (p := ⟨pg, po + 1, none⟩) pF.2).trans p1'
            have y2 := (hI.1.cell (p := ⟨pg, po + 1 + 1, none⟩) pF.2).trans p2'
            have y3 := (hI.1.cell (p := ⟨pg, po + 1 + 1 + 1, none⟩) pF.2).trans p3
            have y4 := (hI.1.cell (p := ⟨pg, po + 1 + 1 + 1 + 1, none⟩) pF.2).trans p4
            have y5 := (hI.1.cell (p := ⟨pg, po + 1 + 1 + 1 + 1 + 1, none⟩) pF.2).trans p5
            have y6 := (hI.1.cell (p := ⟨pg, po + 1 + 1 + 1 + 1 + 1 + 1, none⟩) pF.2).trans p6
            have y7 := (hI.1.cell (p := ⟨pg, po + 1 + 1 + 1 + 1 + 1 + 1 + 1, none⟩) pF.2).trans p7
            have y8 := (hI.1.cell (p := ⟨pg, po + 1 + 1 + 1 + 1 + 1 + 1 + 1 + 1, none⟩) pF.2).trans p8
            have HI := Lib.hid hI
            clear hI
            go_wp2_with fail
            refine step3_done rfl ?_ ?_ ?_
            · exact (toI HIp HI.out)
            · exact (Below.refl _ _)
            · exact (toV HV rfl)
          · obtain ⟨u0, u3⟩ := hV
            simp only [u0, u3]
            clear u0 u3
            have HI := Lib.hid hI
            have hzW := hI.1.size
            clear hI
            go_wp2_with fail
            refine (HH1.out _ _ _ _ _ _ _ (GD.out.go HI.out.1) N0.out.1 N0.out.2 ⟨_, _, rfl, pR.up HI.out.1⟩).mono ?_
            rintro e W' ⟨e0, e1, e2, e3, f0, f1, f2, f3, f4, f5, f6, z, rfl, kn, mn, qn, hb⟩
            go_wp2_with fail
            refine step3_done rfl ?_ ?_ ?_
            · exact (toI HIp ⟨up HI.out.1 hb, fun h => by obtain ⟨g, e0, e1, e2, e3, h1, h2, n1', n2', h5⟩ := HI.out.2 h; exact ⟨g, e0, e1, e2, e3, h1, h2, n1', n2', h5.go hb⟩⟩)
            · exact hb
            · exact (toV HV ⟨_, _, _, _, _, _, _, _, _, _, _, _, rfl, kn, mn, qn⟩)
          · obtain ⟨e0, e1, e2, e3, f0, f1, f2, f3, f4, f5, f6, z4, u4, k4, m4, q4⟩ := hV
            simp only [u4]
            have U4 := Lib.hid u4
            clear u4
            have HI := Lib.hid hI
            clear hI
            go_wp2_with fail
            refine step3_done rfl ?_ ?_ ?_
            · exact (toI HIp HI.out)
            · exact (Below.refl _ _)
            · exact (toV HV ⟨_, _, _, _, _, _, _, _, _, _, _, _, rfl, k4, m4, q4⟩)
          · obtain ⟨e0, e1, e2, e3, f0, f1, f2, f3, f4, f5, f6, z5, u5, k5, m5, q5⟩ := hV
            simp only [u5]
            have U5 := Lib.hid u5
            clear u5
            have HI := Lib.hid hI
            clear hI
            go_wp2_with fail
            refine step3_done rfl ?_ ?_ ?_
            · exact (toI HIp HI.out)
            · exact (Below.refl _ _)
            · exact (toV HV ⟨_, _, _, _, rfl, k5, m5⟩)
          · obtain ⟨e0, e1, e2, e3, f0, f1, f2, f3, f4, f5, f6, z5, u5, k5, m5, q5⟩ := hV
            simp only [u5]
            have U5 := Lib.hid u5
            clear u5
            have HI := Lib.hid hI
            clear hI
            go_wp2_with fail
            refine step3_done rfl ?_ ?_ ?_
            · exact (toI HIp HI.out)
            · exact (Below.refl _ _)
            · exact (toV HV ⟨_, _, _, _, _, _, _, rfl⟩)
          · obtain ⟨e0, e1, e2, e3, f0, f1, f2, f3, f4, f5, f6, z5, u5, k5, m5, q5⟩ := hV
            simp only [u5]
            have U5 := Lib.hid u5
            clear u5
            have HI := Lib.hid hI
            clear hI
            go_wp2_with fail
            refine step3_done rfl ?_ ?_ ?_
            · exact (toI HIp HI.out)
            · exact (Below.refl _ _)
            · exact (toV HV rfl)
          · obtain ⟨e0, e1, e2, e3, f0, f1, f2, f3, f4, f5, f6, z5, u5, k5, m5, q5⟩ := hV
            simp only [u5]
            have U5 := Lib.hid u5
            clear u5
            have HI := Lib.hid hI
            clear hI
            go_wp2_with fail
            refine step3_done rfl ?_ ?_ ?_
            · exact (toI HIp HI.out)
            · exact (Below.refl _ _)
            · exact (toV HV ⟨_, rfl, q5⟩)
          · obtain ⟨e0, e1, e2, e3, f0, f1, f2, f3, f4, f5, f6, z5, u5, k5, m5, q5⟩ := hV
            simp only [u5]
            have U5 := Lib.hid u5
            clear u5
            have HI := Lib.hid hI
            clear hI
            go_wp2_with fail
            refine step3_done rfl ?_ ?_ ?_
            · exact (toI HIp HI.out)
            · exact (Below.refl _ _)
            · exact (toV HV rfl)
          · clear hV
            (try dsimp only)
            have HL := Lib.hid hL
            have HI := Lib.hid hI
            have hzW := hI.1.size
            clear hI hL
            go_wp2_with fail
            have uW : ∀ o, Below W.heap.size W (W.alloc o) := fun o => (Below.refl _ _).alloc (Nat.le_refl _) o
            refine step3_done rfl ?_ ?_ ?_
            · exact (toI HIp ⟨up HI.out.1 (uW _), fun h => absurd ((HL.out.2 13 (by simp)).symm.trans h) (by simp)⟩)
            · exact (uW _)
            · exact (toV HV ⟨_, rfl, hzW, Blk.new _ _⟩)
          · clear hV
            (try dsimp only)
            have HI := Lib.hid hI
            have hzW := hI.1.size
            clear hI
            go_wp2_with fail
            have uW : ∀ o, Below W.heap.size W (W.alloc o) := fun o => (Below.refl _ _).alloc (Nat.le_refl _) o
            refine step3_done rfl ?_ ?_ ?_
            · exact (toI HIp ⟨up HI.out.1 (uW _), fun h => by obtain ⟨g, e0, e1, e2, e3, h1, h2, n1', n2', h5⟩ := HI.out.2 h; exact ⟨g, e0, e1, e2, e3, h1, h2, n1', n2', h5.go (uW _)⟩⟩)
            · exact (uW _)
            · exact (toV HV ⟨_, rfl, hzW, Blk.new _ _⟩)
          · obtain ⟨⟨e0, e1, e2, e3, u6, k6, m6⟩, ⟨g11, u11, l11, b11⟩⟩ := hV
            simp only [u11, u6]
            have U6 := Lib.hid u6
            have U11 := Lib.hid u11
            clear u6 u11
            obtain ⟨q0', q1', q2', q3', q4'⟩ := blk_cells5 b11
            have fW := b11.frozen
            have hg9 := b11.lt
            have HT := Lib.hid (touch5 W g11 (.int .i64 2) (.int .i64 1) (.slice e0 0 e1) (.slice e2 0 e3) (.int .i64 u1))
            have HN := Lib.hid (blk_set5 b11 (.int .i64 2) (.int .i64 1) (.slice e0 0 e1) (.slice e2 0 e3) (.int .i64 u1))
            have HI := Lib.hid hI
            have HB9 := Lib.hid b11
            clear hI b11
            go_wp2_with fail
            refine step3_done (v := undef) rfl ?_ ?_ ?_
            · exact (toI HIp ⟨HI.out.1.trans (HT.out.toBelow HI.out.1.size (fun k hk => by omega)), fun _ => ⟨g11, e0, e1, e2, e3, U11.out, l11, k6, m6, HN.out⟩⟩)
            · exact ⟨g11, HB9.out, HT.out, l11⟩
            · exact (toV HV rfl)
          · obtain ⟨⟨f0, f1, f2, f3, f4, f5, f6, u7⟩, ⟨g12, u12, l12, b12⟩⟩ := hV
            simp only [u12, u7]
            have U7 := Lib.hid u7
            have U12 := Lib.hid u12
            clear u7 u12
            obtain ⟨q0', q1', q2', q3', q4'⟩ := blk_cells5 b12
            have fW := b12.frozen
            have hg9 := b12.lt
            have HT := Lib.hid (touch5 W g12 (.int .i64 f0) (.int .i64 f1) (.int .i64 f2) (.slice f3 f4 f5) (.string f6))
            have HN := Lib.hid (blk_set5 b12 (.int .i64 f0) (.int .i64 f1) (.int .i64 f2) (.slice f3 f4 f5) (.string f6))
            have HI := Lib.hid hI
            have HB9 := Lib.hid b12
            clear hI b12
            go_wp2_with fail
            refine step3_done (v := undef) rfl ?_ ?_ ?_
            · exact (toI HIp ⟨HI.out.1.trans (HT.out.toBelow HI.out.1.size (fun k hk => by omega)), fun h => by obtain ⟨g, e0, e1, e2, e3, h1, h2, n1', n2', h5⟩ := HI.out.2 h; exact ⟨g, e0, e1, e2, e3, h1, h2, n1', n2', h5.touch HT.out (fun e => blk_types h5 HB9.out (by decide) e)⟩⟩)
            · exact ⟨g12, HB9.out, HT.out, l12⟩
            · exact (toV HV rfl)
          · have u8 := hV
            clear hV
            simp only [u8]
            clear u8
            have HI := Lib.hid hI
            clear hI
            go_wp2_with fail
            refine step3_done rfl ?_ ?_ ?_
            · exact (toI HIp HI.out)
            · exact (Below.refl _ _)
            · exact (toV HV rfl)
          · obtain ⟨y9, u9, q9⟩ := hV
            simp only [u9]
            have U9 := Lib.hid u9
            clear u9
            have HI := Lib.hid hI
            clear hI
            go_wp2_with fail
            refine step3_done rfl ?_ ?_ ?_
            · exact (toI HIp HI.out)
            · exact (Below.refl _ _)
            · exact (toV HV ⟨_, rfl, q9⟩)
          · have u10 := hV
            clear hV
            simp only [u10]
            clear u10
            have HI := Lib.hid hI
            clear hI
            go_wp2_with fail
            refine step3_done rfl ?_ ?_ ?_
            · exact (toI HIp HI.out)
            · exact (Below.refl _ _)
            · exact (toV HV rfl)
        case fin =>
          intro x W L hL hI hV
          replace hI : (Below w5.heap.size w5 W ∧ (L 13 = true → ∃ g e0 e1 e2 e3, x 11 = .pointer (some ⟨g, 0, none⟩) ∧ w5.heap.size ≤ g ∧ NilS e0 e1 ∧ NilS e2 e3 ∧ Blk g (.cells #[.int .i64 2, .int .i64 1, .slice e0 0 e1, .slice e2 0 e3, .int .i64 u1] 33 (0, 0)) W)) := ofI HIp hI
          rw [HV.out] at hV
          simp only [AllV, and_true] at hV
          obtain ⟨u0, u1, u2, u3, ⟨e0, e1, e2, e3, f0, f1, f2, f3, f4, f5, f6, z4, u4, k4, m4, q4⟩, ⟨e0, e1, e2, e3, f0, f1, f2, f3, f4, f5, f6, z5, u5, k5, m5, q5⟩, ⟨e0, e1, e2, e3, u6, k6, m6⟩, ⟨f0, f1, f2, f3, f4, f5, f6, u7⟩, u8, ⟨y9, u9, q9⟩, u10, u13, u14, u15, ⟨y16, u16, q16⟩, u17⟩ := hV
          simp only [getsD, List.getD_cons_succ, List.getD_cons_zero, List.length_cons, List.length_nil, List.range, List.range.loop, u0, u1, u2, u3, u4, u5, u6, u7, u8, u9, u10, u13, u14, u15, u16, u17, Act.put, List.setIfInBounds_toArray, List.set_cons_succ, List.set_cons_zero]
          clear u0 u1 u2 u3 u4 u5 u6 u7 u8 u9 u10 u13 u14 u15 u16 u17
          obtain ⟨gA, sA0, cA0, sA1, cA1, hxA, hlA, nA0, nA1, bA⟩ := hI.2 (hL 13 (by simp))
          have hb := hI.1
          replace p0 := (hb.cell (p := ⟨pg, po, none⟩) pF.2).trans p0
          replace p1' := (hb.cell (p := ⟨pg, po + 1, none⟩) pF.2).trans p1'
          replace p2' := (hb.cell (p := ⟨pg, po + 1 + 1, none⟩) pF.2).trans p2'
          replace p3 := (hb.cell (p := ⟨pg, po + 1 + 1 + 1, none⟩) pF.2).trans p3
          replace p4 := (hb.cell (p := ⟨pg, po + 1 + 1 + 1 + 1, none⟩) pF.2).trans p4
          replace p5 := (hb.cell (p := ⟨pg, po + 1 + 1 + 1 + 1 + 1, none⟩) pF.2).trans p5
          replace p6 := (hb.cell (p := ⟨pg, po + 1 + 1 + 1 + 1 + 1 + 1, none⟩) pF.2).trans p6
          replace p7 := (hb.cell (p := ⟨pg, po + 1 + 1 + 1 + 1 + 1 + 1 + 1, none⟩) pF.2).trans p7
          replace p8 := (hb.cell (p := ⟨pg, po + 1 + 1 + 1 + 1 + 1 + 1 + 1 + 1, none⟩) pF.2).trans p8
          replace pR := pR.up hb
          replace pF : Fresh w3.heap.size W pg := ⟨pF.1, Nat.lt_of_lt_of_le pF.2 hb.size⟩
          have XA := Lib.hid bA
          replace GD := Lib.hid (GD.out.go hb)
          have NA := Lib.hid (And.intro nA0 nA1)
          replace B5 := Lib.hid (up B5.out hb)
          replace X0' := Lib.hid (X0'.out.go hb)
          replace X1' := Lib.hid (X1'.out.go hb)
          replace X2' := Lib.hid (X2'.out.go hb)
          simp only [hxA]
          have hzcA := hb.size
          obtain ⟨ag, ao, ac, aa, ad, rfl, aN, aC⟩ := q16
          replace XS := XA
          replace N0 := NA
          obtain ⟨w6, rfl⟩ : ∃ x : World, x = W := ⟨_, rfl⟩
          have AC := Lib.hid aC
          have AN := Lib.hid aN
          clear hI hL hb bA nA0 nA1 aC aN
          go_wp2_with fail
          obtain ⟨Vp, HV⟩ : ∃ Vp : Nat → Value → World → Prop, Hid (Vp = fun i v W => match i with
              | 0 => v = .agg #[.int .i64 2, .int .i64 1, .slice sA0 0 cA0, .slice sA1 0 cA1, .int .i64 u1]
              | 1 => v = .slice (some ⟨pg, po, none⟩) 1 pc
              | 2 => v = .pointer (some ⟨pg, po, none⟩)
              | 3 => v = .agg #[.int .i64 p1.epoch, .int .i64 p1.number, .bool p1.bare, .int .i64 p1.ack, .int .i64 p1.f.kind, .int .i64 p1.f.heard, .int .i64 p1.f.epoch, .slice pa p1.f.op.length pd, .string p1.f.text]
              | 4 => ∃ e0 e1 e2 e3 f0 f1 f2 f3 f4 f5 f6 z, v = .tuple #[.agg #[.int .i64 2, .int .i64 1, .slice e0 0 e1, .slice e2 0 e3, .int .i64 u1], .agg #[.int .i64 f0, .int .i64 f1, .int .i64 f2, .slice f3 f4 f5, .string f6], .bool false, z, .int .i64 0] ∧ NilS e0 e1 ∧ NilS e2 e3 ∧ AckV u1 z W
              | 5 => ∃ e0 e1 e2 e3 f0 f1 f2 f3 f4 f5 f6 z, v = .tuple #[.agg #[.int .i64 2, .int .i64 1, .slice e0 0 e1, .slice e2 0 e3, .int .i64 u1], .agg #[.int .i64 f0, .int .i64 f1, .int .i64 f2, .slice f3 f4 f5, .string f6], .bool false, z, .int .i64 0] ∧ NilS e0 e1 ∧ NilS e2 e3 ∧ AckV u1 z W
              | 6 => ∃ e0 e1 e2 e3, v = .agg #[.int .i64 2, .int .i64 1, .slice e0 0 e1, .slice e2 0 e3, .int .i64 u1] ∧ NilS e0 e1 ∧ NilS e2 e3
              | 7 => ∃ f0 f1 f2 f3 f4 f5 f6, v = .agg #[.int .i64 f0, .int .i64 f1, .int .i64 f2, .slice f3 f4 f5, .string f6]
              | 8 => v = .bool false
              | 9 => ∃ y, v = y ∧ AckV u1 y W
              | 10 => v = .int .i64 0
              | 11 => ∃ g, v = .pointer (some ⟨g, 0, none⟩) ∧ w6.heap.size ≤ g ∧ Blk g (.cells #[.int .i64 0, .int .i64 0, .slice none 0 0, .slice none 0 0, .int .i64 0] 33 (0, 0)) W
              | 12 => ∃ g, v = .pointer (some ⟨g, 0, none⟩) ∧ w6.heap.size ≤ g ∧ Blk g (.cells #[.int .i64 0, .int .i64 0, .int .i64 0, .slice none 0 0, .string ⟨#[]⟩] 30 (0, 0)) W
              | 13 => v = undef
              | 14 => v = undef
              | 15 => v = .bool false
              | 16 => ∃ y, v = y ∧ AckV u1 y W
              | _ => v = .int .i64 0) := ⟨_, rfl⟩
          obtain ⟨Ip, HIp⟩ : ∃ Ip : (Nat → Bool) → (Nat → Value) → World → Prop, Hid (Ip = fun L x W => (Below w6.heap.size w6 W ∧ (L 13 = true → ∃ g e0 e1 e2 e3, x 11 = .pointer (some ⟨g, 0, none⟩) ∧ w6.heap.size ≤ g ∧ NilS e0 e1 ∧ NilS e2 e3 ∧ Blk g (.cells #[.int .i64 2, .int .i64 1, .slice e0 0 e1, .slice e2 0 e3, .int .i64 u1] 33 (0, 0)) W))) := ⟨_, rfl⟩
          refine region_lit3 (by kernel_rfl) (by kernel_rfl) (by kernel_rfl) [[], [], [1], [1, 2], [0, 1, 2, 3], [0, 1, 2, 3, 4], [0, 1, 2, 3, 4, 5], [0, 1, 2, 3, 4, 5], [0, 1, 2, 3, 4, 5], [0, 1, 2, 3, 4, 5], [0, 1, 2, 3, 4, 5], [], [], [0, 1, 2, 3, 4, 5, 6, 11], [0, 1, 2, 3, 4, 5, 7, 12], [0, 1, 2, 3, 4, 5, 8], [0, 1, 2, 3, 4, 5, 9], [0, 1, 2, 3, 4, 5, 10]] (by kernel_rfl) [some 69, some 70, some 71, some 72, some 73, some 68, some 74, some 75, some 76, some 77, some 78, some 20, some 21, none, none, some 22, some 23, some 24] (by kernel_rfl) [[0, 4, 5, 6, 7, 8, 9, 10, 13, 14, 15, 16, 17], [1, 2, 3, 4, 5, 6, 7, 8, 9, 10, 13, 14, 15, 16, 17], [2, 3, 4, 5, 6, 7, 8, 9, 10, 13, 14, 15, 16, 17], [3, 4, 5, 6, 7, 8, 9, 10, 13, 14, 15, 16, 17], [4, 5, 6, 7, 8, 9, 10, 13, 14, 15, 16, 17], [5, 6, 7, 8, 9, 10, 13, 14, 15, 16, 17], [6, 13], [7, 14], [8, 15], [9, 16], [10, 17], [11, 13], [12, 14], [13], [14], [15], [16], [17]] (by kernel_rfl) [[], [], [], [], [], [], [], [], [], [], [], [13], [14], [], [], [], [], []] [[], [], [1], [2], [0, 3], [4], [5], [5], [5], [5], [5], [], [], [6, 11], [7, 12], [8], [9], [10]] (by kernel_rfl)
            Ip
            Vp
            (fun j W W' => match j with
              | 13 => ∃ g, Blk g (.cells #[.int .i64 0, .int .i64 0, .slice none 0 0, .slice none 0 0, .int .i64 0] 33 (0, 0)) W ∧ Touch (fun z => z = g) W W' ∧ w6.heap.size ≤ g
              | 14 => ∃ g, Blk g (.cells #[.int .i64 0, .int .i64 0, .int .i64 0, .slice none 0 0, .string ⟨#[]⟩] 30 (0, 0)) W ∧ Touch (fun z => z = g) W W' ∧ w6.heap.size ≤ g
              | _ => Below W.heap.size W W')
            [fun x => ⟨#[undef, undef, undef, undef, undef, undef, undef, undef, undef, undef, undef, undef, undef, undef, undef, .pointer (some ⟨gA, 0, none⟩), undef, undef, undef, undef, undef, undef, undef, undef, undef, undef, undef, undef, undef, undef, undef, undef, undef, undef, undef, undef, undef, undef, undef, undef, undef, undef, undef, undef, undef, undef, undef, undef, undef, undef, undef, undef, undef, undef, undef, undef, undef, undef, undef, undef, undef, undef, undef, undef, undef, undef, undef, undef, undef, undef], []⟩,
   fun x => ⟨#[undef, undef, undef, undef, undef, undef, undef, undef, undef, undef, undef, undef, undef, .slice (some ⟨pg, po, none⟩) 1 pc, undef, undef, undef, undef, undef, undef, undef, undef, undef, undef, undef, undef, undef, undef, undef, undef, undef, undef, undef, undef, undef, undef, undef, undef, undef, undef, undef, undef, undef, undef, undef, undef, undef, undef, undef, undef, undef, undef, undef, undef, undef, undef, undef, undef, undef, undef, undef, undef, undef, undef, undef, undef, undef, undef, undef, undef, undef], []⟩,
   fun x => ⟨#[undef, undef, undef, undef, undef, undef, undef, undef, undef, undef, undef, undef, undef, undef, undef, undef, undef, undef, undef, undef, undef, undef, undef, undef, undef, undef, undef, undef, undef, undef, undef, undef, undef, undef, undef, undef, undef, undef, undef, undef, undef, undef, undef, undef, undef, undef, undef, undef, undef, undef, undef, undef, undef, undef, undef, undef, undef, undef, undef, undef, undef, undef, undef, undef, undef, undef, undef, undef, undef, undef, x 1, undef], []⟩,
   fun x => ⟨#[undef, undef, undef, undef, undef, undef, undef, undef, undef, undef, undef, undef, undef, undef, undef, undef, undef, undef, undef, undef, undef, undef, undef, undef, undef, undef, undef, undef, undef, undef, undef, undef, undef, undef, undef, undef, undef, undef, undef, undef, undef, undef, undef, undef, undef, undef, undef, undef, undef, undef, undef, undef, undef, undef, undef, undef, undef, undef, undef, undef, undef, undef, undef, undef, undef, undef, undef, undef, undef, undef, undef, x 2, undef], []⟩,
   fun x => ⟨#[undef, undef, undef, undef, undef, undef, undef, undef, undef, undef, undef, undef, undef, undef, undef, undef, undef, undef, undef, undef, undef, undef, undef, undef, undef, undef, undef, undef, undef, undef, undef, undef, undef, undef, undef, undef, undef, undef, undef, undef, undef, undef, undef, undef, undef, undef, undef, undef, undef, undef, undef, undef, undef, undef, undef, undef, undef, undef, undef, undef, undef, undef, undef, undef, undef, undef, undef, undef, undef, x 0, undef, undef, x 3, undef], []⟩,
   fun x => ⟨#[undef, undef, undef, undef, undef, undef, undef, undef, undef, undef, undef, undef, undef, undef, undef, undef, undef, undef, undef, undef, undef, undef, undef, undef, undef, undef, undef, undef, undef, undef, undef, undef, undef, undef, undef, undef, undef, undef, undef, undef, undef, undef, undef, undef, undef, undef, undef, undef, undef, undef, undef, undef, undef, undef, undef, undef, undef, undef, undef, undef, undef, undef, undef, undef, undef, undef, undef, undef, undef, undef, undef, undef, undef, x 4], []⟩,
   fun x => ⟨#[undef, undef, undef, undef, undef, undef, undef, undef, undef, undef, undef, undef, undef, undef, undef, undef, undef, undef, undef, undef, undef, undef, undef, undef, undef, undef, undef, undef, undef, undef, undef, undef, undef, undef, undef, undef, undef, undef, undef, undef, undef, undef, undef, undef, undef, undef, undef, undef, undef, undef, undef, undef, undef, undef, undef, undef, undef, undef, undef, undef, undef, undef, undef, undef, undef, undef, undef, undef, x 5, undef, undef, undef, undef, undef, undef], []⟩,
   fun x => ⟨#[undef, undef, undef, undef, undef, undef, undef, undef, undef, undef, undef, undef, undef, undef, undef, undef, undef, undef, undef, undef, undef, undef, undef, undef, undef, undef, undef, undef, undef, undef, undef, undef, undef, undef, undef, undef, undef, undef, undef, undef, undef, undef, undef, undef, undef, undef, undef, undef, undef, undef, undef, undef, undef, undef, undef, undef, undef, undef, undef, undef, undef, undef, undef, undef, undef, undef, undef, undef, x 5, undef, undef, undef, undef, undef, undef, undef], []⟩,
   fun x => ⟨#[undef, undef, undef, undef, undef, undef, undef, undef, undef, undef, undef, undef, undef, undef, undef, undef, undef, undef, undef, undef, undef, undef, undef, undef, undef, undef, undef, undef, undef, undef, undef, undef, undef, undef, undef, undef, undef, undef, undef, undef, undef, undef, undef, undef, undef, undef, undef, undef, undef, undef, undef, undef, undef, undef, undef, undef, undef, undef, undef, undef, undef, undef, undef, undef, undef, undef, undef, undef, x 5, undef, undef, undef, undef, undef, undef, undef, undef], []⟩,
   fun x => ⟨#[undef, undef, undef, undef, undef, undef, undef, undef, undef, undef, undef, undef, undef, undef, undef, undef, undef, undef, undef, undef, undef, undef, undef, undef, undef, undef, undef, undef, undef, undef, undef, undef, undef, undef, undef, undef, undef, undef, undef, undef, undef, undef, undef, undef, undef, undef, undef, undef, undef, undef, undef, undef, undef, undef, undef, undef, undef, undef, undef, undef, undef, undef, undef, undef, undef, undef, undef, undef, x 5, undef, undef, undef, undef, undef, undef, undef, undef, undef], []⟩,
   fun x => ⟨#[undef, undef, undef, undef, undef, undef, undef, undef, undef, undef, undef, undef, undef, undef, undef, undef, undef, undef, undef, undef, undef, undef, undef, undef, undef, undef, undef, undef, undef, undef, undef, undef, undef, undef, undef, undef, undef, undef, undef, undef, undef, undef, undef, undef, undef, undef, undef, undef, undef, undef, undef, undef, undef, undef, undef, undef, undef, undef, undef, undef, undef, undef, undef, undef, undef, undef, undef, undef, x 5, undef, undef, undef, undef, undef, undef, undef, undef, undef, undef], []⟩,
   fun x => ⟨#[undef, undef, undef, undef, undef, undef, undef, undef, undef, undef, undef, undef, undef, undef, undef, undef, undef, undef, undef, undef, undef], []⟩,
   fun x => ⟨#[undef, undef, undef, undef, undef, undef, undef, undef, undef, undef, undef, undef, undef, undef, undef, undef, undef, undef, undef, undef, undef, undef], []⟩,
   fun x => ⟨#[undef, undef, undef, undef, undef, undef, undef, undef, undef, undef, undef, undef, undef, undef, undef, undef, undef, undef, undef, undef, x 11, undef, undef, undef, undef, undef, undef, undef, undef, undef, undef, undef, undef, undef, undef, undef, undef, undef, undef, undef, undef, undef, undef, undef, undef, undef, undef, undef, undef, undef, undef, undef, undef, undef, undef, undef, undef, undef, undef, undef, undef, undef, undef, undef, undef, undef, undef, undef, undef, undef, undef, undef, undef, undef, x 6], []⟩,
   fun x => ⟨#[undef, undef, undef, undef, undef, undef, undef, undef, undef, undef, undef, undef, undef, undef, undef, undef, undef, undef, undef, undef, undef, x 12, undef, undef, undef, undef, undef, undef, undef, undef, undef, undef, undef, undef, undef, undef, undef, undef, undef, undef, undef, undef, undef, undef, undef, undef, undef, undef, undef, undef, undef, undef, undef, undef, undef, undef, undef, undef, undef, undef, undef, undef, undef, undef, undef, undef, undef, undef, undef, undef, undef, undef, undef, undef, undef, x 7], []⟩,
   fun x => ⟨#[undef, undef, undef, undef, undef, undef, undef, undef, undef, undef, undef, undef, undef, undef, undef, undef, undef, undef, undef, undef, undef, undef, undef, undef, undef, undef, undef, undef, undef, undef, undef, undef, undef, undef, undef, undef, undef, undef, undef, undef, undef, undef, undef, undef, undef, undef, undef, undef, undef, undef, undef, undef, undef, undef, undef, undef, undef, undef, undef, undef, undef, undef, undef, undef, undef, undef, undef, undef, undef, undef, undef, undef, undef, undef, undef, undef, x 8], []⟩,
   fun x => ⟨#[undef, undef, undef, undef, undef, undef, undef, undef, undef, undef, undef, undef, undef, undef, undef, undef, undef, undef, undef, undef, undef, undef, undef, undef, undef, undef, undef, undef, undef, undef, undef, undef, undef, undef, undef, undef, undef, undef, undef, undef, undef, undef, undef, undef, undef, undef, undef, undef, undef, undef, undef, undef, undef, undef, undef, undef, undef, undef, undef, undef, undef, undef, undef, undef, undef, undef, undef, undef, undef, undef, undef, undef, undef, undef, undef, undef, undef, x 9], []⟩,
   fun x => ⟨#[undef, undef, undef, undef, undef, undef, undef, undef, undef, undef, undef, undef, undef, undef, undef, undef, undef, undef, undef, undef, undef, undef, undef, undef, undef, undef, undef, undef, undef, undef, undef, undef, undef, undef, undef, undef, undef, undef, undef, undef, undef, undef, undef, undef, undef, undef, undef, undef, undef, undef, undef, undef, undef, undef, undef, undef, undef, undef, undef, undef, undef, undef, undef, undef, undef, undef, undef, undef, undef, undef, undef, undef, undef, undef, undef, undef, undef, undef, x 10], []⟩]
            ?hF ?mono ?h0 ?step [0, 1, 2, 3, 4, 5, 6, 7, 8, 9, 10, 13, 14, 15, 16, 17] (by kernel_rfl) ?fin
          case hF =>
            exact ⟨fun x => ⟨by kernel_rfl, by kernel_rfl⟩, fun x => ⟨by kernel_rfl, by kernel_rfl⟩, fun x => ⟨by kernel_rfl, by kernel_rfl⟩, fun x => ⟨by kernel_rfl, by kernel_rfl⟩, fun x => ⟨by kernel_rfl, by kernel_rfl⟩, fun x => ⟨by kernel_rfl, by kernel_rfl⟩, fun x => ⟨by kernel_rfl, by kernel_rfl⟩, fun x => ⟨by kernel_rfl, by kernel_rfl⟩, fun x => ⟨by kernel_rfl, by kernel_rfl⟩, fun x => ⟨by kernel_rfl, by kernel_rfl⟩, fun x => ⟨by kernel_rfl, by kernel_rfl⟩, fun x => ⟨by kernel_rfl, by kernel_rfl⟩, fun x => ⟨by kernel_rfl, by kernel_rfl⟩, fun x => ⟨by kernel_rfl, by kernel_rfl⟩, fun x => ⟨by kernel_rfl, by kernel_rfl⟩, fun x => ⟨by kernel_rfl, by kernel_rfl⟩, fun x => ⟨by kernel_rfl, by kernel_rfl⟩, fun x => ⟨by kernel_rfl, by kernel_rfl⟩, trivial⟩
          case mono =>
            intro i j hi hj hne hna hnk v W W' hE hv
            rw [HV.out] at hv ⊢
            simp only [List.length_cons, List.length_nil] at hi hj
            match i, hi with
            | 0, _ | 1, _ | 2, _ | 3, _ | 8, _ | 10, _ | 13, _ | 14, _ | 15, _ | 17, _ => exact hv
            | 4, _ =>
              match j, hj with
              | 4, _ => exact absurd rfl hne
              | 0, _ => exact absurd (by simp) hna
              | 1, _ => exact absurd (by simp) hna
              | 2, _ => exact absurd (by simp) hna
              | 3, _ => exact absurd (by simp) hna
              | 5, _ => exact (by obtain ⟨e0, e1, e2, e3, f0, f1, f2, f3, f4, f5, f6, z, e, n1, n2, hk⟩ := hv; exact ⟨e0, e1, e2, e3, f0, f1, f2, f3, f4, f5, f6, z, e, n1, n2, hk.go hE⟩)
              | 6, _ => exact (by obtain ⟨e0, e1, e2, e3, f0, f1, f2, f3, f4, f5, f6, z, e, n1, n2, hk⟩ := hv; exact ⟨e0, e1, e2, e3, f0, f1, f2, f3, f4, f5, f6, z, e, n1, n2, hk.go hE⟩)
              | 7, _ => exact (by obtain ⟨e0, e1, e2, e3, f0, f1, f2, f3, f4, f5, f6, z, e, n1, n2, hk⟩ := hv; exact ⟨e0, e1, e2, e3, f0, f1, f2, f3, f4, f5, f6, z, e, n1, n2, hk.go hE⟩)
              | 8, _ => exact (by obtain ⟨e0, e1, e2, e3, f0, f1, f2, f3, f4, f5, f6, z, e, n1, n2, hk⟩ := hv; exact ⟨e0, e1, e2, e3, f0, f1, f2, f3, f4, f5, f6, z, e, n1, n2, hk.go hE⟩)
              | 9, _ => exact (by obtain ⟨e0, e1, e2, e3, f0, f1, f2, f3, f4, f5, f6, z, e, n1, n2, hk⟩ := hv; exact ⟨e0, e1, e2, e3, f0, f1, f2, f3, f4, f5, f6, z, e, n1, n2, hk.go hE⟩)
              | 10, _ => exact (by obtain ⟨e0, e1, e2, e3, f0, f1, f2, f3, f4, f5, f6, z, e, n1, n2, hk⟩ := hv; exact ⟨e0, e1, e2, e3, f0, f1, f2, f3, f4, f5, f6, z, e, n1, n2, hk.go hE⟩)
              | 11, _ => exact (by obtain ⟨e0, e1, e2, e3, f0, f1, f2, f3, f4, f5, f6, z, e, n1, n2, hk⟩ := hv; exact ⟨e0, e1, e2, e3, f0, f1, f2, f3, f4, f5, f6, z, e, n1, n2, hk.go hE⟩)
              | 12, _ => exact (by obtain ⟨e0, e1, e2, e3, f0, f1, f2, f3, f4, f5, f6, z, e, n1, n2, hk⟩ := hv; exact ⟨e0, e1, e2, e3, f0, f1, f2, f3, f4, f5, f6, z, e, n1, n2, hk.go hE⟩)
              | 13, _ => exact (by obtain ⟨e0, e1, e2, e3, f0, f1, f2, f3, f4, f5, f6, z, e, n1, n2, hk⟩ := hv; obtain ⟨g', hz, ht, -⟩ := hE; exact ⟨e0, e1, e2, e3, f0, f1, f2, f3, f4, f5, f6, z, e, n1, n2, hk.off (link_nobool hz) ht⟩)
              | 14, _ => exact (by obtain ⟨e0, e1, e2, e3, f0, f1, f2, f3, f4, f5, f6, z, e, n1, n2, hk⟩ := hv; obtain ⟨g', hz, ht, -⟩ := hE; exact ⟨e0, e1, e2, e3, f0, f1, f2, f3, f4, f5, f6, z, e, n1, n2, hk.off (frame_nobool hz) ht⟩)
              | 15, _ => exact (by obtain ⟨e0, e1, e2, e3, f0, f1, f2, f3, f4, f5, f6, z, e, n1, n2, hk⟩ := hv; exact ⟨e0, e1, e2, e3, f0, f1, f2, f3, f4, f5, f6, z, e, n1, n2, hk.go hE⟩)
              | 16, _ => exact (by obtain ⟨e0, e1, e2, e3, f0, f1, f2, f3, f4, f5, f6, z, e, n1, n2, hk⟩ := hv; exact ⟨e0, e1, e2, e3, f0, f1, f2, f3, f4, f5, f6, z, e, n1, n2, hk.go hE⟩)
              | 17, _ => exact (by obtain ⟨e0, e1, e2, e3, f0, f1, f2, f3, f4, f5, f6, z, e, n1, n2, hk⟩ := hv; exact ⟨e0, e1, e2, e3, f0, f1, f2, f3, f4, f5, f6, z, e, n1, n2, hk.go hE⟩)
              | m + 18, h => exact absurd h (by omega)
            | 5, _ =>
              match j, hj with
              | 5, _ => exact absurd rfl hne
              | 0, _ => exact absurd (by simp) hna
              | 1, _ => exact absurd (by simp) hna
              | 2, _ => exact absurd (by simp) hna
              | 3, _ => exact absurd (by simp) hna
              | 4, _ => exact absurd (by simp) hna
              | 6, _ => exact (by obtain ⟨e0, e1, e2, e3, f0, f1, f2, f3, f4, f5, f6, z, e, n1, n2, hk⟩ := hv; exact ⟨e0, e1, e2, e3, f0, f1, f2, f3, f4, f5, f6, z, e, n1, n2, hk.go hE⟩)
              | 7, _ => exact (by obtain ⟨e0, e1, e2, e3, f0, f1, f2, f3, f4, f5, f6, z, e, n1, n2, hk⟩ := hv; exact ⟨e0, e1, e2, e3, f0, f1, f2, f3, f4, f5, f6, z, e, n1, n2, hk.go hE⟩)
              | 8, _ => exact (by obtain ⟨e0, e1, e2, e3, f0, f1, f2, f3, f4, f5, f6, z, e, n1, n2, hk⟩ := hv; exact ⟨e0, e1, e2, e3, f0, f1, f2, f3, f4, f5, f6, z, e, n1, n2, hk.go hE⟩)
              | 9, _ => exact (by obtain ⟨e0, e1, e2, e3, f0, f1, f2, f3, f4, f5, f6, z, e, n1, n2, hk⟩ := hv; exact ⟨e0, e1, e2, e3, f0, f1, f2, f3, f4, f5, f6, z, e, n1, n2, hk.go hE⟩)
              | 10, _ => exact (by obtain ⟨e0, e1, e2, e3, f0, f1, f2, f3, f4, f5, f6, z, e, n1, n2, hk⟩ := hv; exact ⟨e0, e1, e2, e3, f0, f1, f2, f3, f4, f5, f6, z, e, n1, n2, hk.go hE⟩)
              | 11, _ => exact (by obtain ⟨e0, e1, e2, e3, f0, f1, f2, f3, f4, f5, f6, z, e, n1, n2, hk⟩ := hv; exact ⟨e0, e1, e2, e3, f0, f1, f2, f3, f4, f5, f6, z, e, n1, n2, hk.go hE⟩)
              | 12, _ => exact (by obtain ⟨e0, e1, e2, e3, f0, f1, f2, f3, f4, f5, f6, z, e, n1, n2, hk⟩ := hv; exact ⟨e0, e1, e2, e3, f0, f1, f2, f3, f4, f5, f6, z, e, n1, n2, hk.go hE⟩)
              | 13, _ => exact (by obtain ⟨e0, e1, e2, e3, f0, f1, f2, f3, f4, f5, f6, z, e, n1, n2, hk⟩ := hv; obtain ⟨g', hz, ht, -⟩ := hE; exact ⟨e0, e1, e2, e3, f0, f1, f2, f3, f4, f5, f6, z, e, n1, n2, hk.off (link_nobool hz) ht⟩)
              | 14, _ => exact (by obtain ⟨e0, e1, e2, e3, f0, f1, f2, f3, f4, f5, f6, z, e, n1, n2, hk⟩ := hv; obtain ⟨g', hz, ht, -⟩ := hE; exact ⟨e0, e1, e2, e3, f0, f1, f2, f3, f4, f5, f6, z, e, n1, n2, hk.off (frame_nobool hz) ht⟩)
              | 15, _ => exact (by obtain ⟨e0, e1, e2, e3, f0, f1, f2, f3, f4, f5, f6, z, e, n1, n2, hk⟩ := hv; exact ⟨e0, e1, e2, e3, f0, f1, f2, f3, f4, f5, f6, z, e, n1, n2, hk.go hE⟩)
              | 16, _ => exact (by obtain ⟨e0, e1, e2, e3, f0, f1, f2, f3, f4, f5, f6, z, e, n1, n2, hk⟩ := hv; exact ⟨e0, e1, e2, e3, f0, f1, f2, f3, f4, f5, f6, z, e, n1, n2, hk.go hE⟩)
              | 17, _ => exact (by obtain ⟨e0, e1, e2, e3, f0, f1, f2, f3, f4, f5, f6, z, e, n1, n2, hk⟩ := hv; exact ⟨e0, e1, e2, e3, f0, f1, f2, f3, f4, f5, f6, z, e, n1, n2, hk.go hE⟩)
              | m + 18, h => exact absurd h (by omega)
            | 6, _ =>
              match j, hj with
              | 6, _ => exact absurd rfl hne
              | 0, _ => exact absurd (by simp) hna
              | 1, _ => exact absurd (by simp) hna
              | 2, _ => exact absurd (by simp) hna
              | 3, _ => exact absurd (by simp) hna
              | 4, _ => exact absurd (by simp) hna
              | 5, _ => exact absurd (by simp) hna
              | 7, _ => exact (id hv)
              | 8, _ => exact (id hv)
              | 9, _ => exact (id hv)
              | 10, _ => exact (id hv)
              | 11, _ => exact (id hv)
              | 12, _ => exact (id hv)
              | 13, _ => exact (id hv)
              | 14, _ => exact (id hv)
              | 15, _ => exact (id hv)
              | 16, _ => exact (id hv)
              | 17, _ => exact (id hv)
              | m + 18, h => exact absurd h (by omega)
            | 7, _ =>
              match j, hj with
              | 7, _ => exact absurd rfl hne
              | 0, _ => exact absurd (by simp) hna
              | 1, _ => exact absurd (by simp) hna
              | 2, _ => exact absurd (by simp) hna
              | 3, _ => exact absurd (by simp) hna
              | 4, _ => exact absurd (by simp) hna
              | 5, _ => exact absurd (by simp) hna
              | 6, _ => exact (id hv)
              | 8, _ => exact (id hv)
              | 9, _ => exact (id hv)
              | 10, _ => exact (id hv)
              | 11, _ => exact (id hv)
              | 12, _ => exact (id hv)
              | 13, _ => exact (id hv)
              | 14, _ => exact (id hv)
              | 15, _ => exact (id hv)
              | 16, _ => exact (id hv)
              | 17, _ => exact (id hv)
              | m + 18, h => exact absurd h (by omega)
            | 9, _ =>
              match j, hj with
              | 9, _ => exact absurd rfl hne
              | 0, _ => exact absurd (by simp) hna
              | 1, _ => exact absurd (by simp) hna
              | 2, _ => exact absurd (by simp) hna
              | 3, _ => exact absurd (by simp) hna
              | 4, _ => exact absurd (by simp) hna
              | 5, _ => exact absurd (by simp) hna
              | 6, _ => exact (by obtain ⟨y, e, hk⟩ := hv; exact ⟨y, e, hk.go hE⟩)
              | 7, _ => exact (by obtain ⟨y, e, hk⟩ := hv; exact ⟨y, e, hk.go hE⟩)
              | 8, _ => exact (by obtain ⟨y, e, hk⟩ := hv; exact ⟨y, e, hk.go hE⟩)
              | 10, _ => exact (by obtain ⟨y, e, hk⟩ := hv; exact ⟨y, e, hk.go hE⟩)
              | 11, _ => exact (by obtain ⟨y, e, hk⟩ := hv; exact ⟨y, e, hk.go hE⟩)
              | 12, _ => exact (by obtain ⟨y, e, hk⟩ := hv; exact ⟨y, e, hk.go hE⟩)
              | 13, _ => exact (by obtain ⟨y, e, hk⟩ := hv; obtain ⟨g', hz, ht, -⟩ := hE; exact ⟨y, e, hk.off (link_nobool hz) ht⟩)
              | 14, _ => exact (by obtain ⟨y, e, hk⟩ := hv; obtain ⟨g', hz, ht, -⟩ := hE; exact ⟨y, e, hk.off (frame_nobool hz) ht⟩)
              | 15, _ => exact (by obtain ⟨y, e, hk⟩ := hv; exact ⟨y, e, hk.go hE⟩)
              | 16, _ => exact (by obtain ⟨y, e, hk⟩ := hv; exact ⟨y, e, hk.go hE⟩)
              | 17, _ => exact (by obtain ⟨y, e, hk⟩ := hv; exact ⟨y, e, hk.go hE⟩)
              | m + 18, h => exact absurd h (by omega)
            | 11, _ =>
              match j, hj with
              | 11, _ => exact absurd rfl hne
              | 13, _ => exact absurd (by simp) hnk
              | 0, _ => exact (by obtain ⟨g, h1, h2, h3⟩ := hv; exact ⟨g, h1, h2, h3.go hE⟩)
              | 1, _ => exact (by obtain ⟨g, h1, h2, h3⟩ := hv; exact ⟨g, h1, h2, h3.go hE⟩)
              | 2, _ => exact (by obtain ⟨g, h1, h2, h3⟩ := hv; exact ⟨g, h1, h2, h3.go hE⟩)
              | 3, _ => exact (by obtain ⟨g, h1, h2, h3⟩ := hv; exact ⟨g, h1, h2, h3.go hE⟩)
              | 4, _ => exact (by obtain ⟨g, h1, h2, h3⟩ := hv; exact ⟨g, h1, h2, h3.go hE⟩)
              | 5, _ => exact (by obtain ⟨g, h1, h2, h3⟩ := hv; exact ⟨g, h1, h2, h3.go hE⟩)
              | 6, _ => exact (by obtain ⟨g, h1, h2, h3⟩ := hv; exact ⟨g, h1, h2, h3.go hE⟩)
              | 7, _ => exact (by obtain ⟨g, h1, h2, h3⟩ := hv; exact ⟨g, h1, h2, h3.go hE⟩)
              | 8, _ => exact (by obtain ⟨g, h1, h2, h3⟩ := hv; exact ⟨g, h1, h2, h3.go hE⟩)
              | 9, _ => exact (by obtain ⟨g, h1, h2, h3⟩ := hv; exact ⟨g, h1, h2, h3.go hE⟩)
              | 10, _ => exact (by obtain ⟨g, h1, h2, h3⟩ := hv; exact ⟨g, h1, h2, h3.go hE⟩)
              | 12, _ => exact (by obtain ⟨g, h1, h2, h3⟩ := hv; exact ⟨g, h1, h2, h3.go hE⟩)
              | 14, _ => exact (by obtain ⟨g, h1, h2, h3⟩ := hv; obtain ⟨g', hz, ht, -⟩ := hE; exact ⟨g, h1, h2, h3.touch ht (fun e => blk_types h3 hz (by decide) e)⟩)
              | 15, _ => exact (by obtain ⟨g, h1, h2, h3⟩ := hv; exact ⟨g, h1, h2, h3.go hE⟩)
              | 16, _ => exact (by obtain ⟨g, h1, h2, h3⟩ := hv; exact ⟨g, h1, h2, h3.go hE⟩)
              | 17, _ => exact (by obtain ⟨g, h1, h2, h3⟩ := hv; exact ⟨g, h1, h2, h3.go hE⟩)
              | m + 18, h => exact absurd h (by omega)
            | 12, _ =>
              match j, hj with
              | 12, _ => exact absurd rfl hne
              | 14, _ => exact absurd (by simp) hnk
              | 0, _ => exact (by obtain ⟨g, h1, h2, h3⟩ := hv; exact ⟨g, h1, h2, h3.go hE⟩)
              | 1, _ => exact (by obtain ⟨g, h1, h2, h3⟩ := hv; exact ⟨g, h1, h2, h3.go hE⟩)
              | 2, _ => exact (by obtain ⟨g, h1, h2, h3⟩ := hv; exact ⟨g, h1, h2, h3.go hE⟩)
              | 3, _ => exact (by obtain ⟨g, h1, h2, h3⟩ := hv; exact ⟨g, h1, h2, h3.go hE⟩)
              | 4, _ => exact (by obtain ⟨g, h1, h2, h3⟩ := hv; exact ⟨g, h1, h2, h3.go hE⟩)
              | 5, _ => exact (by obtain ⟨g, h1, h2, h3⟩ := hv; exact ⟨g, h1, h2, h3.go hE⟩)
              | 6, _ => exact (by obtain ⟨g, h1, h2, h3⟩ := hv; exact ⟨g, h1, h2, h3.go hE⟩)
              | 7, _ => exact (by obtain ⟨g, h1, h2, h3⟩ := hv; exact ⟨g, h1, h2, h3.go hE⟩)
              | 8, _ => exact (by obtain ⟨g, h1, h2, h3⟩ := hv; exact ⟨g, h1, h2, h3.go hE⟩)
              | 9, _ => exact (by obtain ⟨g, h1, h2, h3⟩ := hv; exact ⟨g, h1, h2, h3.go hE⟩)
              | 10, _ => exact (by obtain ⟨g, h1, h2, h3⟩ := hv; exact ⟨g, h1, h2, h3.go hE⟩)
              | 11, _ => exact (by obtain ⟨g, h1, h2, h3⟩ := hv; exact ⟨g, h1, h2, h3.go hE⟩)
              | 13, _ => exact (by obtain ⟨g, h1, h2, h3⟩ := hv; obtain ⟨g', hz, ht, -⟩ := hE; exact ⟨g, h1, h2, h3.touch ht (fun e => blk_types h3 hz (by decide) e)⟩)
              | 15, _ => exact (by obtain ⟨g, h1, h2, h3⟩ := hv; exact ⟨g, h1, h2, h3.go hE⟩)
              | 16, _ => exact (by obtain ⟨g, h1, h2, h3⟩ := hv; exact ⟨g, h1, h2, h3.go hE⟩)
              | 17, _ => exact (by obtain ⟨g, h1, h2, h3⟩ := hv; exact ⟨g, h1, h2, h3.go hE⟩)
              | m + 18, h => exact absurd h (by omega)
            | 16, _ =>
              match j, hj with
              | 16, _ => exact absurd rfl hne
              | 0, _ => exact absurd (by simp) hna
              | 1, _ => exact absurd (by simp) hna
              | 2, _ => exact absurd (by simp) hna
              | 3, _ => exact absurd (by simp) hna
              | 4, _ => exact absurd (by simp) hna
              | 5, _ => exact absurd (by simp) hna
              | 9, _ => exact absurd (by simp) hna
              | 6, _ => exact (by obtain ⟨y, e, hk⟩ := hv; exact ⟨y, e, hk.go hE⟩)
              | 7, _ => exact (by obtain ⟨y, e, hk⟩ := hv; exact ⟨y, e, hk.go hE⟩)
              | 8, _ => exact (by obtain ⟨y, e, hk⟩ := hv; exact ⟨y, e, hk.go hE⟩)
              | 10, _ => exact (by obtain ⟨y, e, hk⟩ := hv; exact ⟨y, e, hk.go hE⟩)
              | 11, _ => exact (by obtain ⟨y, e, hk⟩ := hv; exact ⟨y, e, hk.go hE⟩)
              | 12, _ => exact (by obtain ⟨y, e, hk⟩ := hv; exact ⟨y, e, hk.go hE⟩)
              | 13, _ => exact (by obtain ⟨y, e, hk⟩ := hv; obtain ⟨g', hz, ht, -⟩ := hE; exact ⟨y, e, hk.off (link_nobool hz) ht⟩)
              | 14, _ => exact (by obtain ⟨y, e, hk⟩ := hv; obtain ⟨g', hz, ht, -⟩ := hE; exact ⟨y, e, hk.off (frame_nobool hz) ht⟩)
              | 15, _ => exact (by obtain ⟨y, e, hk⟩ := hv; exact ⟨y, e, hk.go hE⟩)
              | 17, _ => exact (by obtain ⟨y, e, hk⟩ := hv; exact ⟨y, e, hk.go hE⟩)
              | m + 18, h => exact absurd h (by omega)
            | m + 18, h => exact absurd h (by omega)
          case h0 => intro x; exact toI HIp ⟨(Below.refl _ _).drew, fun h => by cases h⟩
          case step =>
            refine ⟨?_, ?_, ?_, ?_, ?_, ?_, ?_, ?_, ?_, ?_, ?_, ?_, ?_, ?_, ?_, ?_, ?_, ?_, trivial⟩
            all_goals
              intro x W L hI hL hV
              replace hI : (Below w6.heap.size w6 W ∧ (L 13 = true → ∃ g e0 e1 e2 e3, x 11 = .pointer (some ⟨g, 0, none⟩) ∧ w6.heap.size ≤ g ∧ NilS e0 e1 ∧ NilS e2 e3 ∧ Blk g (.cells #[.int .i64 2, .int .i64 1, .slice e0 0 e1, .slice e2 0 e3, .int .i64 u1] 33 (0, 0)) W)) := ofI HIp hI
              rw [HV.out] at hV
              simp only [AllV, and_true] at hV
            · clear hV
              (try dsimp only)
              obtain ⟨q0', q1', q2', q3', q4'⟩ := blk_cells5 (XS.out.go hI.1)
              have HI := Lib.hid hI
              clear hI
              go_wp2_with fail
              refine step3_done rfl ?_ ?_ ?_
              · exact (toI HIp HI.out)
              · exact (Below.refl _ _)
              · exact (toV HV rfl)
            · clear hV
              (try dsimp only)
              have HI := Lib.hid hI
              clear hI
              go_wp2_with fail
              refine step3_done rfl ?_ ?_ ?_
              · exact (toI HIp HI.out)
              · exact (Below.refl _ _)
              · exact (toV HV rfl)
            · have u1 := hV
              clear hV
              simp only [u1]
              clear u1
              have HI := Lib.hid hI
              clear hI
              go_wp2_with fail
              refine step3_done rfl ?_ ?_ ?_
              · exact (toI HIp HI.out)
              · exact (Below.refl _ _)
              · exact (toV HV rfl)
            · have u2 := hV
              clear hV
              simp only [u2]
              clear u2
              have y0 := (hI.1.cell (p := ⟨pg, po, none⟩) pF.2).trans p0
              have y1 := (hI.1.cell (p := ⟨pg, po + 1, none⟩) pF.2).trans p1'
              have y2 := (hI.1.cell (p := ⟨pg, po + 1 + 1, none⟩) pF.2).trans p2'
              have y3 := (hI.1.cell (p := ⟨pg, po + 1 + 1 + 1, none⟩) pF.2).trans p3
              have y4 := (hI.1.cell (p := ⟨pg, po + 1 + 1 + 1 + 1, none⟩) pF.2).trans p4
              have y5 := (hI.1.cell (p := ⟨pg, po + 1 + 1 + 1 + 1 + 1, none⟩) pF.2).trans p5
              have y6 := (hI.1.cell (p := ⟨pg, po + 1 + 1 + 1 + 1 + 1 + 1, none⟩) pF.2).trans p6
              have y7 := (hI.1.cell (p := ⟨pg, po + 1 + 1 + 1 + 1 + 1 + 1 + 1, none⟩) pF.2).trans p7
              have y8 := (hI.1.cell (p := ⟨pg, po + 1 + 1 + 1 + 1 + 1 + 1 + 1 + 1, none⟩) pF.2).trans p8
              have HI := Lib.hid hI
              clear hI
              go_wp2_with fail
              refine step3_done rfl ?_ ?_ ?_
              · exact (toI HIp HI.out)
              · exact (Below.refl _ _)
              · exact (toV HV rfl)
            · obtain ⟨u0, u3⟩ := hV
              simp only [u0, u3]
              clear u0 u3
              have HI := Lib.hid hI
              have hzW := hI.1.size
              clear hI
              go_wp2_with fail
              refine (HH2.out _ _ _ _ _ _ _ (GD.out.go HI.out.1) N0.out.1 N0.out.2 ⟨_, _, rfl, pR.up HI.out.1⟩).mono ?_
              rintro e W' ⟨e0, e1, e2, e3, f0, f1, f2, f3, f4, f5, f6, z, rfl, kn, mn, qn, hb⟩
              go_wp2_with fail
              refine step3_done rfl ?_ ?_ ?_
              · exact (toI HIp ⟨up HI.out.1 hb, fun h => by obtain ⟨g, e0, e1, e2, e3, h1, h2, n1', n2', h5⟩ := HI.out.2 h; exact ⟨g, e0, e1, e2, e3, h1, h2, n1', n2', h5.go hb⟩⟩)
              · exact hb
              · exact (toV HV ⟨_, _, _, _, _, _, _, _, _, _, _, _, rfl, kn, mn, qn⟩)
            · obtain ⟨e0, e1, e2, e3, f0, f1, f2, f3, f4, f5, f6, z4, u4, k4, m4, q4⟩ := hV
              simp only [u4]
              have U4 := Lib.hid u4
              clear u4
              have HI := Lib.hid hI
              clear hI
              go_wp2_with fail
              refine step3_done rfl ?_ ?_ ?_
              · exact (toI HIp HI.out)
              · exact (Below.refl _ _)
              · exact (toV HV ⟨_, _, _, _, _, _, _, _, _, _, _, _, rfl, k4, m4, q4⟩)
            · obtain ⟨e0, e1, e2, e3, f0, f1, f2, f3, f4, f5, f6, z5, u5, k5, m5, q5⟩ := hV
              simp only [u5]
              have U5 := Lib.hid u5
              clear u5
              have HI := Lib.hid hI
              clear hI
              go_wp2_with fail
              refine step3_done rfl ?_ ?_ ?_
              · exact (toI HIp HI.out)
              · exact (Below.refl _ _)
              · exact (toV HV ⟨_, _, _, _, rfl, k5, m5⟩)
            · obtain ⟨e0, e1, e2, e3, f0, f1, f2, f3, f4, f5, f6, z5, u5, k5, m5, q5⟩ := hV
              simp only [u5]
              have U5 := Lib.hid u5
              clear u5
              have HI := Lib.hid hI
              clear hI
              go_wp2_with fail
              refine step3_done rfl ?_ ?_ ?_
              · exact (toI HIp HI.out)
              · exact (Below.refl _ _)
              · exact (toV HV ⟨_, _, _, _, _, _, _, rfl⟩)
            · obtain ⟨e0, e1, e2, e3, f0, f1, f2, f3, f4, f5, f6, z5, u5, k5, m5, q5⟩ := hV
              simp only [u5]
              have U5 := Lib.hid u5
              clear u5
              have HI := Lib.hid hI
              clear hI
              go_wp2_with fail
              refine step3_done rfl ?_ ?_ ?_
              · exact (toI HIp HI.out)
              · exact (Below.refl _ _)
              · exact (toV HV rfl)
            · obtain ⟨e0, e1, e2, e3, f0, f1, f2, f3, f4, f5, f6, z5, u5, k5, m5, q5⟩ := hV
              simp only [u5]
              have U5 := Lib.hid u5
              clear u5
              have HI := Lib.hid hI
              clear hI
              go_wp2_with fail
              refine step3_done rfl ?_ ?_ ?_
              · exact (toI HIp HI.out)
              · exact (Below.refl _ _)
              · exact (toV HV ⟨_, rfl, q5⟩)
            · obtain ⟨e0, e1, e2, e3, f0, f1, f2, f3, f4, f5, f6, z5, u5, k5, m5, q5⟩ := hV
              simp only [u5]
              have U5 := Lib.hid u5
              clear u5
              have HI := Lib.hid hI
              clear hI
              go_wp2_with fail
              refine step3_done rfl ?_ ?_ ?_
              · exact (toI HIp HI.out)
              · exact (Below.refl _ _)
              · exact (toV HV rfl)
            · clear hV
              (try dsimp only)
              have HL := Lib.hid hL
              have HI := Lib.hid hI
              have hzW := hI.1.size
              clear hI hL
              go_wp2_with fail
              have uW : ∀ o, Below W.heap.size W (W.alloc o) := fun o => (Below.refl _ _).alloc (Nat.le_refl _) o
              refine step3_done rfl ?_ ?_ ?_
              · exact (toI HIp ⟨up HI.out.1 (uW _), fun h => absurd ((HL.out.2 13 (by simp)).symm.trans h) (by simp)⟩)
              · exact (uW _)
              · exact (toV HV ⟨_, rfl, hzW, Blk.new _ _⟩)
            · clear hV
              (try dsimp only)
              have HI := Lib.hid hI
              have hzW := hI.1.size
              clear hI
              go_wp2_with fail
              have uW : ∀ o, Below W.heap.size W (W.alloc o) := fun o => (Below.refl _ _).alloc (Nat.le_refl _) o
              refine step3_done rfl ?_ ?_ ?_
              · exact (toI HIp ⟨up HI.out.1 (uW _), fun h => by obtain ⟨g, e0, e1, e2, e3, h1, h2, n1', n2', h5⟩ := HI.out.2 h; exact ⟨g, e0, e1, e2, e3, h1, h2, n1', n2', h5.go (uW _)⟩⟩)
              · exact (uW _)
              · exact (toV HV ⟨_, rfl, hzW, Blk.new _ _⟩)
            · obtain ⟨⟨e0, e1, e2, e3, u6, k6, m6⟩, ⟨g11, u11, l11, b11⟩⟩ := hV
              simp only [u11, u6]
              have U6 := Lib.hid u6
              have U11 := Lib.hid u11
              clear u6 u11
              obtain ⟨q0', q1', q2', q3', q4'⟩ := blk_cells5 b11
              have fW := b11.frozen
              have hg9 := b11.lt
              have HT := Lib.hid (touch5 W g11 (.int .i64 2) (.int .i64 1) (.slice e0 0 e1) (.slice e2 0 e3) (.int .i64 u1))
              have HN := Lib.hid (blk_set5 b11 (.int .i64 2) (.int .i64 1) (.slice e0 0 e1) (.slice e2 0 e3) (.int .i64 u1))
              have HI := Lib.hid hI
              have HB9 := Lib.hid b11
              clear hI b11
              go_wp2_with fail
              refine step3_done (v := undef) rfl ?_ ?_ ?_
              · exact (toI HIp ⟨HI.out.1.trans (HT.out.toBelow HI.out.1.size (fun k hk => by omega)), fun _ => ⟨g11, e0, e1, e2, e3, U11.out, l11, k6, m6, HN.out⟩⟩)
              · exact ⟨g11, HB9.out, HT.out, l11⟩
              · exact (toV HV rfl)
            · obtain ⟨⟨f0, f1, f2, f3, f4, f5, f6, u7⟩, ⟨g12, u12, l12, b12⟩⟩ := hV
              simp only [u12, u7]
              have U7 := Lib.hid u7
              have U12 := Lib.hid u12
              clear u7 u12
              obtain ⟨q0', q1', q2', q3', q4'⟩ := blk_cells5 b12
              have fW := b12.frozen
              have hg9 := b12.lt
              have HT := Lib.hid (touch5 W g12 (.int .i64 f0) (.int .i64 f1) (.int .i64 f2) (.slice f3 f4 f5) (.string f6))
              have HN := Lib.hid (blk_set5 b12 (.int .i64 f0) (.int .i64 f1) (.int .i64 f2) (.slice f3 f4 f5) (.string f6))
              have HI := Lib.hid hI
              have HB9 := Lib.hid b12
              clear hI b12
              go_wp2_with fail
              refine step3_done (v := undef) rfl ?_ ?_ ?_
              · exact (toI HIp ⟨HI.out.1.trans (HT.out.toBelow HI.out.1.size (fun k hk => by omega)), fun h => by obtain ⟨g, e0, e1, e2, e3, h1, h2, n1', n2', h5⟩ := HI.out.2 h; exact ⟨g, e0, e1, e2, e3, h1, h2, n1', n2', h5.touch HT.out (fun e => blk_types h5 HB9.out (by decide) e)⟩⟩)
              · exact ⟨g12, HB9.out, HT.out, l12⟩
              · exact (toV HV rfl)
            · have u8 := hV
              clear hV
              simp only [u8]
              clear u8
              have HI := Lib.hid hI
              clear hI
              go_wp2_with fail
              refine step3_done rfl ?_ ?_ ?_
              · exact (toI HIp HI.out)
              · exact (Below.refl _ _)
              · exact (toV HV rfl)
            · obtain ⟨y9, u9, q9⟩ := hV
              simp only [u9]
              have U9 := Lib.hid u9
              clear u9
              have HI := Lib.hid hI
              clear hI
              go_wp2_with fail
              refine step3_done rfl ?_ ?_ ?_
              · exact (toI HIp HI.out)
              · exact (Below.refl _ _)
              · exact (toV HV ⟨_, rfl, q9⟩)
            · have u10 := hV
              clear hV
              simp only [u10]
              clear u10
              have HI := Lib.hid hI
              clear hI
              go_wp2_with fail
              refine step3_done rfl ?_ ?_ ?_
              · exact (toI HIp HI.out)
              · exact (Below.refl _ _)
              · exact (toV HV rfl)
          case fin =>
            intro x W L hL hI hV
            replace hI : (Below w6.heap.size w6 W ∧ (L 13 = true → ∃ g e0 e1 e2 e3, x 11 = .pointer (some ⟨g, 0, none⟩) ∧ w6.heap.size ≤ g ∧ NilS e0 e1 ∧ NilS e2 e3 ∧ Blk g (.cells #[.int .i64 2, .int .i64 1, .slice e0 0 e1, .slice e2 0 e3, .int .i64 u1] 33 (0, 0)) W)) := ofI HIp hI
            rw [HV.out] at hV
            simp only [AllV, and_true] at hV
            obtain ⟨u0, u1, u2, u3, ⟨e0, e1, e2, e3, f0, f1, f2, f3, f4, f5, f6, z4, u4, k4, m4, q4⟩, ⟨e0, e1, e2, e3, f0, f1, f2, f3, f4, f5, f6, z5, u5, k5, m5, q5⟩, ⟨e0, e1, e2, e3, u6, k6, m6⟩, ⟨f0, f1, f2, f3, f4, f5, f6, u7⟩, u8, ⟨y9, u9, q9⟩, u10, u13, u14, u15, ⟨y16, u16, q16⟩, u17⟩ := hV
            simp only [getsD, List.getD_cons_succ, List.getD_cons_zero, List.length_cons, List.length_nil, List.range, List.range.loop, u0, u1, u2, u3, u4, u5, u6, u7, u8, u9, u10, u13, u14, u15, u16, u17, Act.put, List.setIfInBounds_toArray, List.set_cons_succ, List.set_cons_zero]
            clear u0 u1 u2 u3 u4 u5 u6 u7 u8 u9 u10 u13 u14 u15 u16 u17
            obtain ⟨gB, sB0, cB0, sB1, cB1, hxB, hlB, nB0, nB1, bB⟩ := hI.2 (hL 13 (by simp))
            have hb := hI.1
            replace p0 := (hb.cell (p := ⟨pg, po, none⟩) pF.2).trans p0
            replace p1' := (hb.cell (p := ⟨pg, po + 1, none⟩) pF.2).trans p1'
            replace p2' := (hb.cell (p := ⟨pg, po + 1 + 1, none⟩) pF.2).trans p2'
            replace p3 := (hb.cell (p := ⟨pg, po + 1 + 1 + 1, none⟩) pF.2).trans p3
            replace p4 := (hb.cell (p := ⟨pg, po + 1 + 1 + 1 + 1, none⟩) pF.2).trans p4
            replace p5 := (hb.cell (p := ⟨pg, po + 1 + 1 + 1 + 1 + 1, none⟩) pF.2).trans p5
            replace p6 := (hb.cell (p := ⟨pg, po + 1 + 1 + 1 + 1 + 1 + 1, none⟩) pF.2).trans p6
            replace p7 := (hb.cell (p := ⟨pg, po + 1 + 1 + 1 + 1 + 1 + 1 + 1, none⟩) pF.2).trans p7
            replace p8 := (hb.cell (p := ⟨pg, po + 1 + 1 + 1 + 1 + 1 + 1 + 1 + 1, none⟩) pF.2).trans p8
            replace pR := pR.up hb
            replace pF : Fresh w3.heap.size W pg := ⟨pF.1, Nat.lt_of_lt_of_le pF.2 hb.size⟩
            have XB := Lib.hid bB
            replace GD := Lib.hid (GD.out.go hb)
            have NB := Lib.hid (And.intro nB0 nB1)
            replace B5 := Lib.hid (up B5.out hb)
            replace X0' := Lib.hid (X0'.out.go hb)
            replace X1' := Lib.hid (X1'.out.go hb)
            replace X2' := Lib.hid (X2'.out.go hb)
            simp only [hxB]
            have hzcB := hb.size
            obtain ⟨bg, bo, bpc, ba, bd, rfl, bN, bC⟩ := q16
            replace AC := Lib.hid (AC.out.keep hb.size (fun o => hb.cell (p := ⟨ag, o, none⟩) AC.out.1))
            replace XA := Lib.hid (XA.out.go hb)
            obtain ⟨w7, rfl⟩ : ∃ x : World, x = W := ⟨_, rfl⟩
            have BC := Lib.hid bC
            have BN := Lib.hid bN
            clear hI hL hb bB nB0 nB1 bC bN p0 p1' p2' p3 p4 p5 p6 p7 p8 pR pF
            have HSA := Lib.hid (fun W => sameAck u1 aa ba ad bd W AN.out BN.out)
            have hne : (u1 != u0 + 1) = false := by rw [Hu.out.2]; simp
            go_wp2_with fail
            obtain ⟨Vp, HV⟩ : ∃ Vp : Nat → Value → World → Prop, Hid (Vp = fun i v W => match i with
                | 0 => v = .int .i64 0
                | 1 => v = .bool false
                | 2 => v = .bool false
                | 3 => v = .int .i64 0
                | 4 => v = .bool false
                | 5 => v = .bool false
                | 6 => v = .bool false
                | 7 => v = .bool true
                | 8 => v = .bool false
                | 9 => v = .bool false
                | 10 => v = .bool false
                | 11 => v = .bool false
                | 12 => v = .bool false
                | 13 => v = .bool false
                | 14 => v = .slice (some ⟨ag, ao, none⟩) 1 ac
                | 15 => v = .int .i64 1
                | 16 => v = .bool false
                | 17 => v = .bool false
                | 18 => v = .bool false
                | 19 => v = .slice (some ⟨bg, bo, none⟩) 1 bpc
                | 20 => v = .int .i64 1
                | 21 => v = .bool false
                | 22 => v = .bool false
                | 23 => v = .bool false
                | 24 => v = .slice (some ⟨ag, ao, none⟩) 1 ac
                | 25 => v = .pointer (some ⟨ag, ao, none⟩)
                | 26 => v = .agg #[.int .i64 2, .int .i64 0, .bool true, .int .i64 u1, .int .i64 0, .int .i64 0, .int .i64 0, .slice aa 0 ad, .string ⟨#[]⟩]
                | 27 => v = .slice (some ⟨bg, bo, none⟩) 1 bpc
                | 28 => v = .pointer (some ⟨bg, bo, none⟩)
                | 29 => v = .agg #[.int .i64 2, .int .i64 0, .bool true, .int .i64 u1, .int .i64 0, .int .i64 0, .int .i64 0, .slice ba 0 bd, .string ⟨#[]⟩]
                | 30 => v = .bool true
                | 31 => v = .bool false
                | 32 => v = .bool false
                | 33 => v = .bool false
                | 34 => v = .slice (some ⟨ag, ao, none⟩) 1 ac
                | 35 => v = .pointer (some ⟨ag, ao, none⟩)
                | 36 => v = .pointer (some ⟨ag, ao + 3, none⟩)
                | 37 => v = .int .i64 u1
                | 38 => v = .int .i64 u0
                | 39 => v = .int .i64 (u0 + 1)
                | 40 => v = .bool false
                | 41 => v = .bool false
                | 42 => v = .bool false
                | 43 => v = .pointer (some ⟨gB, 4, none⟩)
                | 44 => v = .int .i64 u1
                | 45 => v = .pointer (some ⟨gA, 4, none⟩)
                | 46 => v = .int .i64 u1
                | 47 => v = .bool false
                | _ => v = .bool false) := ⟨_, rfl⟩
            obtain ⟨Ip, HIp⟩ : ∃ Ip : (Nat → Bool) → (Nat → Value) → World → Prop, Hid (Ip = fun L x W => (Below w7.heap.size w7 W)) := ⟨_, rfl⟩
            refine region_lit3 (by kernel_rfl) (by kernel_rfl) (by kernel_rfl) [[], [0], [0, 1], [0, 1, 2], [0, 1, 2, 3], [0, 1, 2, 3, 4], [0, 1, 2, 3, 4, 5], [0, 1, 2, 3, 4, 5, 6], [0, 1, 2, 3, 4, 5, 6, 7], [0, 1, 2, 3, 4, 5, 6, 7, 8], [0, 1, 2, 3, 4, 5, 6, 7, 8, 9], [0, 1, 2, 3, 4, 5, 6, 7, 8, 9, 10], [0, 1, 2, 3, 4, 5, 6, 7, 8, 9, 10, 11], [0, 1, 2, 3, 4, 5, 6, 7, 8, 9, 10, 11, 12], [0, 1, 2, 3, 4, 5, 6, 7, 8, 9, 10, 11, 12, 13], [0, 1, 2, 3, 4, 5, 6, 7, 8, 9, 10, 11, 12, 13, 14], [0, 1, 2, 3, 4, 5, 6, 7, 8, 9, 10, 11, 12, 13, 14, 15], [0, 1, 2, 3, 4, 5, 6, 7, 8, 9, 10, 11, 12, 13, 14, 15, 16], [0, 1, 2, 3, 4, 5, 6, 7, 8, 9, 10, 11, 12, 13, 14, 15, 16, 17], [0, 1, 2, 3, 4, 5, 6, 7, 8, 9, 10, 11, 12, 13, 14, 15, 16, 17, 18], [0, 1, 2, 3, 4, 5, 6, 7, 8, 9, 10, 11, 12, 13, 14, 15, 16, 17, 18, 19], [0, 1, 2, 3, 4, 5, 6, 7, 8, 9, 10, 11, 12, 13, 14, 15, 16, 17, 18, 19, 20], [0, 1, 2, 3, 4, 5, 6, 7, 8, 9, 10, 11, 12, 13, 14, 15, 16, 17, 18, 19, 20, 21], [0, 1, 2, 3, 4, 5, 6, 7, 8, 9, 10, 11, 12, 13, 14, 15, 16, 17, 18, 19, 20, 21, 22], [0, 1, 2, 3, 4, 5, 6, 7, 8, 9, 10, 11, 12, 13, 14, 15, 16, 17, 18, 19, 20, 21, 22, 23], [0, 1, 2, 3, 4, 5, 6, 7, 8, 9, 10, 11, 12, 13, 14, 15, 16, 17, 18, 19, 20, 21, 22, 23, 24], [0, 1, 2, 3, 4, 5, 6, 7, 8, 9, 10, 11, 12, 13, 14, 15, 16, 17, 18, 19, 20, 21, 22, 23, 24, 25], [0, 1, 2, 3, 4, 5, 6, 7, 8, 9, 10, 11, 12, 13, 14, 15, 16, 17, 18, 19, 20, 21, 22, 23], [0, 1, 2, 3, 4, 5, 6, 7, 8, 9, 10, 11, 12, 13, 14, 15, 16, 17, 18, 19, 20, 21, 22, 23, 27], [0, 1, 2, 3, 4, 5, 6, 7, 8, 9, 10, 11, 12, 13, 14, 15, 16, 17, 18, 19, 20, 21, 22, 23, 27, 28], [0, 1, 2, 3, 4, 5, 6, 7, 8, 9, 10, 11, 12, 13, 14, 15, 16, 17, 18, 19, 20, 21, 22, 23, 24, 25, 26, 27, 28, 29], [0, 1, 2, 3, 4, 5, 6, 7, 8, 9, 10, 11, 12, 13, 14, 15, 16, 17, 18, 19, 20, 21, 22, 23, 24, 25, 26, 27, 28, 29, 30], [0, 1, 2, 3, 4, 5, 6, 7, 8, 9, 10, 11, 12, 13, 14, 15, 16, 17, 18, 19, 20, 21, 22, 23, 24, 25, 26, 27, 28, 29, 30, 31], [0, 1, 2, 3, 4, 5, 6, 7, 8, 9, 10, 11, 12, 13, 14, 15, 16, 17, 18, 19, 20, 21, 22, 23, 24, 25, 26, 27, 28, 29, 30, 31, 32], [0, 1, 2, 3, 4, 5, 6, 7, 8, 9, 10, 11, 12, 13, 14, 15, 16, 17, 18, 19, 20, 21, 22, 23, 24, 25, 26, 27, 28, 29, 30, 31, 32, 33], [0, 1, 2, 3, 4, 5, 6, 7, 8, 9, 10, 11, 12, 13, 14, 15, 16, 17, 18, 19, 20, 21, 22, 23, 24, 25, 26, 27, 28, 29, 30, 31, 32, 33, 34], [0, 1, 2, 3, 4, 5, 6, 7, 8, 9, 10, 11, 12, 13, 14, 15, 16, 17, 18, 19, 20, 21, 22, 23, 24, 25, 26, 27, 28, 29, 30, 31, 32, 33, 34, 35], [0, 1, 2, 3, 4, 5, 6, 7, 8, 9, 10, 11, 12, 13, 14, 15, 16, 17, 18, 19, 20, 21, 22, 23, 24, 25, 26, 27, 28, 29, 30, 31, 32, 33, 34, 35, 36], [0, 1, 2, 3, 4, 5, 6, 7, 8, 9, 10, 11, 12, 13, 14, 15, 16, 17, 18, 19, 20, 21, 22, 23, 24, 25, 26, 27, 28, 29, 30, 31, 32, 33], [0, 1, 2, 3, 4, 5, 6, 7, 8, 9, 10, 11, 12, 13, 14, 15, 16, 17, 18, 19, 20, 21, 22, 23, 24, 25, 26, 27, 28, 29, 30, 31, 32, 33, 38], [0, 1, 2, 3, 4, 5, 6, 7, 8, 9, 10, 11, 12, 13, 14, 15, 16, 17, 18, 19, 20, 21, 22, 23, 24, 25, 26, 27, 28, 29, 30, 31, 32, 33, 34, 35, 36, 37, 38, 39], [0, 1, 2, 3, 4, 5, 6, 7, 8, 9, 10, 11, 12, 13, 14, 15, 16, 17, 18, 19, 20, 21, 22, 23, 24, 25, 26, 27, 28, 29, 30, 31, 32, 33, 34, 35, 36, 37, 38, 39, 40], [0, 1, 2, 3, 4, 5, 6, 7, 8, 9, 10, 11, 12, 13, 14, 15, 16, 17, 18, 19, 20, 21, 22, 23, 24, 25, 26, 27, 28, 29, 30, 31, 32, 33, 34, 35, 36, 37, 38, 39, 40, 41], [0, 1, 2, 3, 4, 5, 6, 7, 8, 9, 10, 11, 12, 13, 14, 15, 16, 17, 18, 19, 20, 21, 22, 23, 24, 25, 26, 27, 28, 29, 30, 31, 32, 33, 34, 35, 36, 37, 38, 39, 40, 41, 42], [0, 1, 2, 3, 4, 5, 6, 7, 8, 9, 10, 11, 12, 13, 14, 15, 16, 17, 18, 19, 20, 21, 22, 23, 24, 25, 26, 27, 28, 29, 30, 31, 32, 33, 34, 35, 36, 37, 38, 39, 40, 41, 42, 43], [0, 1, 2, 3, 4, 5, 6, 7, 8, 9, 10, 11, 12, 13, 14, 15, 16, 17, 18, 19, 20, 21, 22, 23, 24, 25, 26, 27, 28, 29, 30, 31, 32, 33, 34, 35, 36, 37, 38, 39, 40, 41, 42], [0, 1, 2, 3, 4, 5, 6, 7, 8, 9, 10, 11, 12, 13, 14, 15, 16, 17, 18, 19, 20, 21, 22, 23, 24, 25, 26, 27, 28, 29, 30, 31, 32, 33, 34, 35, 36, 37, 38, 39, 40, 41, 42, 45], [0, 1, 2, 3, 4, 5, 6, 7, 8, 9, 10, 11, 12, 13, 14, 15, 16, 17, 18, 19, 20, 21, 22, 23, 24, 25, 26, 27, 28, 29, 30, 31, 32, 33, 34, 35, 36, 37, 38, 39, 40, 41, 42, 43, 44, 45, 46], [0, 1, 2, 3, 4, 5, 6, 7, 8, 9, 10, 11, 12, 13, 14, 15, 16, 17, 18, 19, 20, 21, 22, 23, 24, 25, 26, 27, 28, 29, 30, 31, 32, 33, 34, 35, 36, 37, 38, 39, 40, 41, 42, 43, 44, 45, 46, 47]] (by kernel_rfl) [some 79, some 80, some 81, some 82, some 83, some 84, some 85, some 86, some 87, some 88, some 89, some 90, some 91, some 92, some 93, some 94, some 95, some 96, some 97, some 98, some 99, some 100, some 101, some 102, some 103, some 104, some 105, some 106, some 107, some 108, some 109, some 110, some 111, some 112, some 113, some 114, some 115, some 116, some 117, some 118, some 119, some 120, some 121, some 122, some 123, some 124, some 125, some 126, some 127] (by kernel_rfl) [[0, 1, 2, 3, 4, 5, 6, 7, 8, 9, 10, 11, 12, 13, 14, 15, 16, 17, 18, 19, 20, 21, 22, 23, 24, 25, 26, 27, 28, 29, 30, 31, 32, 33, 34, 35, 36, 37, 38, 39, 40, 41, 42, 43, 44, 45, 46, 47, 48], [1, 2, 3, 4, 5, 6, 7, 8, 9, 10, 11, 12, 13, 14, 15, 16, 17, 18, 19, 20, 21, 22, 23, 24, 25, 26, 27, 28, 29, 30, 31, 32, 33, 34, 35, 36, 37, 38, 39, 40, 41, 42, 43, 44, 45, 46, 47, 48], [2, 3, 4, 5, 6, 7, 8, 9, 10, 11, 12, 13, 14, 15, 16, 17, 18, 19, 20, 21, 22, 23, 24, 25, 26, 27, 28, 29, 30, 31, 32, 33, 34, 35, 36, 37, 38, 39, 40, 41, 42, 43, 44, 45, 46, 47, 48], [3, 4, 5, 6, 7, 8, 9, 10, 11, 12, 13, 14, 15, 16, 17, 18, 19, 20, 21, 22, 23, 24, 25, 26, 27, 28, 29, 30, 31, 32, 33, 34, 35, 36, 37, 38, 39, 40, 41, 42, 43, 44, 45, 46, 47, 48], [4, 5, 6, 7, 8, 9, 10, 11, 12, 13, 14, 15, 16, 17, 18, 19, 20, 21, 22, 23, 24, 25, 26, 27, 28, 29, 30, 31, 32, 33, 34, 35, 36, 37, 38, 39, 40, 41, 42, 43, 44, 45, 46, 47, 48], [5, 6, 7, 8, 9, 10, 11, 12, 13, 14, 15, 16, 17, 18, 19, 20, 21, 22, 23, 24, 25, 26, 27, 28, 29, 30, 31, 32, 33, 34, 35, 36, 37, 38, 39, 40, 41, 42, 43, 44, 45, 46, 47, 48], [6, 7, 8, 9, 10, 11, 12, 13, 14, 15, 16, 17, 18, 19, 20, 21, 22, 23, 24, 25, 26, 27, 28, 29, 30, 31, 32, 33, 34, 35, 36, 37, 38, 39, 40, 41, 42, 43, 44, 45, 46, 47, 48], [7, 8, 9, 10, 11, 12, 13, 14, 15, 16, 17, 18, 19, 20, 21, 22, 23, 24, 25, 26, 27, 28, 29, 30, 31, 32, 33, 34, 35, 36, 37, 38, 39, 40, 41, 42, 43, 44, 45, 46, 47, 48], [8, 9, 10, 11, 12, 13, 14, 15, 16, 17, 18, 19, 20, 21, 22, 23, 24, 25, 26, 27, 28, 29, 30, 31, 32, 33, 34, 35, 36, 37, 38, 39, 40, 41, 42, 43, 44, 45, 46, 47, 48], [9, 10, 11, 12, 13, 14, 15, 16, 17, 18, 19, 20, 21, 22, 23, 24, 25, 26, 27, 28, 29, 30, 31, 32, 33, 34, 35, 36, 37, 38, 39, 40, 41, 42, 43, 44, 45, 46, 47, 48], [10, 11, 12, 13, 14, 15, 16, 17, 18, 19, 20, 21, 22, 23, 24, 25, 26, 27, 28, 29, 30, 31, 32, 33, 34, 35, 36, 37, 38, 39, 40, 41, 42, 43, 44, 45, 46, 47, 48], [11, 12, 13, 14, 15, 16, 17, 18, 19, 20, 21, 22, 23, 24, 25, 26, 27, 28, 29, 30, 31, 32, 33, 34, 35, 36, 37, 38, 39, 40, 41, 42, 43, 44, 45, 46, 47, 48], [12, 13, 14, 15, 16, 17, 18, 19, 20, 21, 22, 23, 24, 25, 26, 27, 28, 29, 30, 31, 32, 33, 34, 35, 36, 37, 38, 39, 40, 41, 42, 43, 44, 45, 46, 47, 48], [13, 14, 15, 16, 17, 18, 19, 20, 21, 22, 23, 24, 25, 26, 27, 28, 29, 30, 31, 32, 33, 34, 35, 36, 37, 38, 39, 40, 41, 42, 43, 44, 45, 46, 47, 48], [14, 15, 16, 17, 18, 19, 20, 21, 22, 23, 24, 25, 26, 27, 28, 29, 30, 31, 32, 33, 34, 35, 36, 37, 38, 39, 40, 41, 42, 43, 44, 45, 46, 47, 48], [15, 16, 17, 18, 19, 20, 21, 22, 23, 24, 25, 26, 27, 28, 29, 30, 31, 32, 33, 34, 35, 36, 37, 38, 39, 40, 41, 42, 43, 44, 45, 46, 47, 48], [16, 17, 18, 19, 20, 21, 22, 23, 24, 25, 26, 27, 28, 29, 30, 31, 32, 33, 34, 35, 36, 37, 38, 39, 40, 41, 42, 43, 44, 45, 46, 47, 48], [17, 18, 19, 20, 21, 22, 23, 24, 25, 26, 27, 28, 29, 30, 31, 32, 33, 34, 35, 36, 37, 38, 39, 40, 41, 42, 43, 44, 45, 46, 47, 48], [18, 19, 20, 21, 22, 23, 24, 25, 26, 27, 28, 29, 30, 31, 32, 33, 34, 35, 36, 37, 38, 39, 40, 41, 42, 43, 44, 45, 46, 47, 48], [19, 20, 21, 22, 23, 24, 25, 26, 27, 28, 29, 30, 31, 32, 33, 34, 35, 36, 37, 38, 39, 40, 41, 42, 43, 44, 45, 46, 47, 48], [20, 21, 22, 23, 24, 25, 26, 27, 28, 29, 30, 31, 32, 33, 34, 35, 36, 37, 38, 39, 40, 41, 42, 43, 44, 45, 46, 47, 48], [21, 22, 23, 24, 25, 26, 27, 28, 29, 30, 31, 32, 33, 34, 35, 36, 37, 38, 39, 40, 41, 42, 43, 44, 45, 46, 47, 48], [22, 23, 24, 25, 26, 27, 28, 29, 30, 31, 32, 33, 34, 35, 36, 37, 38, 39, 40, 41, 42, 43, 44, 45, 46, 47, 48], [23, 24, 25, 26, 27, 28, 29, 30, 31, 32, 33, 34, 35, 36, 37, 38, 39, 40, 41, 42, 43, 44, 45, 46, 47, 48], [24, 25, 26, 30, 31, 32, 33, 34, 35, 36, 37, 38, 39, 40, 41, 42, 43, 44, 45, 46, 47, 48], [25, 26, 30, 31, 32, 33, 34, 35, 36, 37, 38, 39, 40, 41, 42, 43, 44, 45, 46, 47, 48], [26, 30, 31, 32, 33, 34, 35, 36, 37, 38, 39, 40, 41, 42, 43, 44, 45, 46, 47, 48], [27, 28, 29, 30, 31, 32, 33, 34, 35, 36, 37, 38, 39, 40, 41, 42, 43, 44, 45, 46, 47, 48], [28, 29, 30, 31, 32, 33, 34, 35, 36, 37, 38, 39, 40, 41, 42, 43, 44, 45, 46, 47, 48], [29, 30, 31, 32, 33, 34, 35, 36, 37, 38, 39, 40, 41, 42, 43, 44, 45, 46, 47, 48], [30, 31, 32, 33, 34, 35, 36, 37, 38, 39, 40, 41, 42, 43, 44, 45, 46, 47, 48], [31, 32, 33, 34, 35, 36, 37, 38, 39, 40, 41, 42, 43, 44, 45, 46, 47, 48], [32, 33, 34, 35, 36, 37, 38, 39, 40, 41, 42, 43, 44, 45, 46, 47, 48], [33, 34, 35, 36, 37, 38, 39, 40, 41, 42, 43, 44, 45, 46, 47, 48], [34, 35, 36, 37, 40, 41, 42, 43, 44, 45, 46, 47, 48], [35, 36, 37, 40, 41, 42, 43, 44, 45, 46, 47, 48], [36, 37, 40, 41, 42, 43, 44, 45, 46, 47, 48], [37, 40, 41, 42, 43, 44, 45, 46, 47, 48], [38, 39, 40, 41, 42, 43, 44, 45, 46, 47, 48], [39, 40, 41, 42, 43, 44, 45, 46, 47, 48], [40, 41, 42, 43, 44, 45, 46, 47, 48], [41, 42, 43, 44, 45, 46, 47, 48], [42, 43, 44, 45, 46, 47, 48], [43, 44, 47, 48], [44, 47, 48], [45, 46, 47, 48], [46, 47, 48], [47, 48], [48]] (by kernel_rfl) [[], [], [], [], [], [], [], [], [], [], [], [], [], [], [], [], [], [], [], [], [], [], [], [], [], [], [], [], [], [], [], [], [], [], [], [], [], [], [], [], [], [], [], [], [], [], [], [], []] [[], [0], [1], [2], [2, 3], [2, 4], [5], [6], [6, 7], [6, 8], [9], [10], [10, 11], [12], [13], [13, 14], [13, 15], [13, 16], [17], [18], [18, 19], [18, 20], [18, 21], [22], [23], [23, 24], [23, 25], [23], [23, 27], [23, 28], [23, 26, 29], [23, 30], [23, 31], [32], [33], [33, 34], [33, 35], [33, 36], [33], [33, 38], [33, 37, 39], [33, 40], [41], [42], [42, 43], [42], [42, 45], [42, 44, 46], [42, 47]] (by kernel_rfl)
              Ip
              Vp
              (fun j W W' => match j with
                | 0 => Below W.heap.size W W'
                | _ => Below W.heap.size W W')
              [fun x => ⟨#[undef, undef, undef, undef, undef, undef, undef, undef, undef, undef, undef, undef, undef, undef, undef, undef, undef, undef, undef, .int .i64 0, undef, undef, undef, undef, undef, undef, undef, undef, undef, undef, undef, undef, undef, undef, undef, undef, undef, undef, undef, undef, undef, undef, undef, undef, undef, undef, undef, undef, undef, undef, undef, undef, undef, undef, undef, undef, undef, undef, undef, undef, undef, undef, undef, undef, undef, undef, undef, undef, undef, undef, undef, undef, undef, undef, undef, undef, undef, undef, undef, undef], []⟩,
   fun x => ⟨#[undef, undef, undef, undef, undef, undef, undef, undef, undef, undef, undef, undef, undef, undef, undef, undef, undef, undef, undef, undef, undef, undef, undef, undef, undef, undef, undef, undef, undef, undef, undef, undef, undef, undef, undef, undef, undef, undef, undef, undef, undef, undef, undef, undef, undef, undef, undef, undef, undef, undef, undef, undef, undef, undef, undef, undef, undef, undef, undef, undef, undef, undef, undef, undef, undef, undef, undef, undef, undef, undef, undef, undef, undef, undef, undef, undef, undef, undef, undef, x 0, undef], []⟩,
   fun x => ⟨#[undef, undef, undef, undef, undef, undef, undef, undef, undef, undef, undef, undef, undef, undef, undef, undef, undef, undef, undef, undef, undef, undef, undef, undef, undef, undef, undef, undef, undef, undef, undef, undef, undef, undef, undef, undef, undef, undef, undef, undef, undef, undef, undef, undef, undef, undef, undef, undef, undef, undef, undef, undef, undef, undef, undef, undef, undef, undef, undef, undef, undef, undef, undef, undef, undef, undef, undef, undef, undef, undef, undef, undef, undef, undef, undef, undef, undef, undef, undef, undef, x 1, undef], []⟩,
   fun x => ⟨#[undef, undef, undef, undef, undef, undef, undef, undef, undef, undef, undef, undef, undef, undef, undef, undef, undef, undef, undef, undef, undef, undef, undef, undef, .int .i64 0, undef, undef, undef, undef, undef, undef, undef, undef, undef, undef, undef, undef, undef, undef, undef, undef, undef, undef, undef, undef, undef, undef, undef, undef, undef, undef, undef, undef, undef, undef, undef, undef, undef, undef, undef, undef, undef, undef, undef, undef, undef, undef, undef, undef, undef, undef, undef, undef, undef, undef, undef, undef, undef, undef, undef, undef, x 2, undef], []⟩,
   fun x => ⟨#[undef, undef, undef, undef, undef, undef, undef, undef, undef, undef, undef, undef, undef, undef, undef, undef, undef, undef, undef, undef, undef, undef, undef, undef, undef, undef, undef, undef, undef, undef, undef, undef, undef, undef, undef, undef, undef, undef, undef, undef, undef, undef, undef, undef, undef, undef, undef, undef, undef, undef, undef, undef, undef, undef, undef, undef, undef, undef, undef, undef, undef, undef, undef, undef, undef, undef, undef, undef, undef, undef, undef, undef, undef, undef, undef, undef, undef, undef, undef, undef, undef, x 2, x 3, undef], []⟩,
   fun x => ⟨#[undef, undef, undef, undef, undef, undef, undef, undef, undef, undef, undef, undef, undef, undef, undef, undef, undef, undef, undef, undef, undef, undef, undef, undef, undef, undef, undef, undef, undef, undef, undef, undef, undef, undef, undef, undef, undef, undef, undef, undef, undef, undef, undef, undef, undef, undef, undef, undef, undef, undef, undef, undef, undef, undef, undef, undef, undef, undef, undef, undef, undef, undef, undef, undef, undef, undef, undef, undef, undef, undef, undef, undef, undef, undef, undef, undef, undef, undef, undef, undef, undef, x 2, undef, x 4, undef], []⟩,
   fun x => ⟨#[undef, undef, undef, undef, undef, undef, undef, undef, undef, undef, undef, undef, undef, undef, undef, undef, undef, undef, undef, undef, undef, undef, undef, undef, undef, undef, undef, undef, undef, undef, undef, undef, undef, undef, undef, undef, undef, undef, undef, undef, undef, undef, undef, undef, undef, undef, undef, undef, undef, undef, undef, undef, undef, undef, undef, undef, undef, undef, undef, undef, undef, undef, undef, undef, undef, undef, undef, undef, undef, undef, undef, undef, undef, undef, undef, undef, undef, undef, undef, undef, undef, undef, undef, undef, x 5, undef], []⟩,
   fun x => ⟨#[undef, undef, undef, undef, undef, undef, undef, undef, undef, undef, undef, undef, undef, undef, undef, undef, undef, .bool true, undef, undef, undef, undef, undef, undef, undef, undef, undef, undef, undef, undef, undef, undef, undef, undef, undef, undef, undef, undef, undef, undef, undef, undef, undef, undef, undef, undef, undef, undef, undef, undef, undef, undef, undef, undef, undef, undef, undef, undef, undef, undef, undef, undef, undef, undef, undef, undef, undef, undef, undef, undef, undef, undef, undef, undef, undef, undef, undef, undef, undef, undef, undef, undef, undef, undef, undef, x 6, undef], []⟩,
   fun x => ⟨#[undef, undef, undef, undef, undef, undef, undef, undef, undef, undef, undef, undef, undef, undef, undef, undef, undef, undef, undef, undef, undef, undef, undef, undef, undef, undef, undef, undef, undef, undef, undef, undef, undef, undef, undef, undef, undef, undef, undef, undef, undef, undef, undef, undef, undef, undef, undef, undef, undef, undef, undef, undef, undef, undef, undef, undef, undef, undef, undef, undef, undef, undef, undef, undef, undef, undef, undef, undef, undef, undef, undef, undef, undef, undef, undef, undef, undef, undef, undef, undef, undef, undef, undef, undef, undef, x 6, x 7, undef], []⟩,
   fun x => ⟨#[undef, undef, undef, undef, undef, undef, undef, undef, undef, undef, undef, undef, undef, undef, undef, undef, undef, undef, undef, undef, undef, undef, undef, undef, undef, undef, undef, undef, undef, undef, undef, undef, undef, undef, undef, undef, undef, undef, undef, undef, undef, undef, undef, undef, undef, undef, undef, undef, undef, undef, undef, undef, undef, undef, undef, undef, undef, undef, undef, undef, undef, undef, undef, undef, undef, undef, undef, undef, undef, undef, undef, undef, undef, undef, undef, undef, undef, undef, undef, undef, undef, undef, undef, undef, undef, x 6, undef, x 8, undef], []⟩,
   fun x => ⟨#[undef, undef, undef, undef, undef, undef, undef, undef, undef, undef, undef, undef, undef, undef, undef, undef, undef, undef, undef, undef, undef, undef, undef, undef, undef, undef, undef, undef, undef, undef, undef, undef, undef, undef, undef, undef, undef, undef, undef, undef, undef, undef, undef, undef, undef, undef, undef, undef, undef, undef, undef, undef, undef, undef, undef, undef, undef, undef, undef, undef, undef, undef, undef, undef, undef, undef, undef, undef, undef, undef, undef, undef, undef, undef, undef, undef, undef, undef, undef, undef, undef, undef, undef, undef, undef, undef, undef, undef, x 9, undef], []⟩,
   fun x => ⟨#[undef, undef, undef, undef, undef, undef, undef, undef, undef, undef, undef, undef, undef, undef, undef, undef, undef, undef, undef, undef, undef, undef, .bool false, undef, undef, undef, undef, undef, undef, undef, undef, undef, undef, undef, undef, undef, undef, undef, undef, undef, undef, undef, undef, undef, undef, undef, undef, undef, undef, undef, undef, undef, undef, undef, undef, undef, undef, undef, undef, undef, undef, undef, undef, undef, undef, undef, undef, undef, undef, undef, undef, undef, undef, undef, undef, undef, undef, undef, undef, undef, undef, undef, undef, undef, undef, undef, undef, undef, undef, x 10, undef], []⟩,
   fun x => ⟨#[undef, undef, undef, undef, undef, undef, undef, undef, undef, undef, undef, undef, undef, undef, undef, undef, undef, undef, undef, undef, undef, undef, undef, undef, undef, undef, undef, undef, undef, undef, undef, undef, undef, undef, undef, undef, undef, undef, undef, undef, undef, undef, undef, undef, undef, undef, undef, undef, undef, undef, undef, undef, undef, undef, undef, undef, undef, undef, undef, undef, undef, undef, undef, undef, undef, undef, undef, undef, undef, undef, undef, undef, undef, undef, undef, undef, undef, undef, undef, undef, undef, undef, undef, undef, undef, undef, undef, undef, undef, x 10, x 11, undef], []⟩,
   fun x => ⟨#[undef, undef, undef, undef, undef, undef, undef, undef, undef, undef, undef, undef, undef, undef, undef, undef, undef, undef, undef, undef, undef, undef, undef, undef, undef, undef, undef, undef, undef, undef, undef, undef, undef, undef, undef, undef, undef, undef, undef, undef, undef, undef, undef, undef, undef, undef, undef, undef, undef, undef, undef, undef, undef, undef, undef, undef, undef, undef, undef, undef, undef, undef, undef, undef, undef, undef, undef, undef, undef, undef, undef, undef, undef, undef, undef, undef, undef, undef, undef, undef, undef, undef, undef, undef, undef, undef, undef, undef, undef, undef, undef, x 12, undef], []⟩,
   fun x => ⟨#[undef, undef, undef, undef, undef, undef, undef, undef, undef, undef, undef, undef, undef, undef, undef, undef, undef, undef, .slice (some ⟨ag, ao, none⟩) 1 ac, undef, undef, undef, undef, undef, undef, undef, undef, undef, undef, undef, undef, undef, undef, undef, undef, undef, undef, undef, undef, undef, undef, undef, undef, undef, undef, undef, undef, undef, undef, undef, undef, undef, undef, undef, undef, undef, undef, undef, undef, undef, undef, undef, undef, undef, undef, undef, undef, undef, undef, undef, undef, undef, undef, undef, undef, undef, undef, undef, undef, undef, undef, undef, undef, undef, undef, undef, undef, undef, undef, undef, undef, undef, x 13, undef], []⟩,
   fun x => ⟨#[undef, undef, undef, undef, undef, undef, undef, undef, undef, undef, undef, undef, undef, undef, undef, undef, undef, undef, undef, undef, undef, undef, undef, undef, undef, undef, undef, undef, undef, undef, undef, undef, undef, undef, undef, undef, undef, undef, undef, undef, undef, undef, undef, undef, undef, undef, undef, undef, undef, undef, undef, undef, undef, undef, undef, undef, undef, undef, undef, undef, undef, undef, undef, undef, undef, undef, undef, undef, undef, undef, undef, undef, undef, undef, undef, undef, undef, undef, undef, undef, undef, undef, undef, undef, undef, undef, undef, undef, undef, undef, undef, undef, x 13, x 14, undef], []⟩,
   fun x => ⟨#[undef, undef, undef, undef, undef, undef, undef, undef, undef, undef, undef, undef, undef, undef, undef, undef, undef, undef, undef, undef, undef, undef, undef, undef, undef, undef, undef, undef, undef, undef, undef, undef, undef, undef, undef, undef, undef, undef, undef, undef, undef, undef, undef, undef, undef, undef, undef, undef, undef, undef, undef, undef, undef, undef, undef, undef, undef, undef, undef, undef, undef, undef, undef, undef, undef, undef, undef, undef, undef, undef, undef, undef, undef, undef, undef, undef, undef, undef, undef, undef, undef, undef, undef, undef, undef, undef, undef, undef, undef, undef, undef, undef, x 13, undef, x 15, undef], []⟩,
   fun x => ⟨#[undef, undef, undef, undef, undef, undef, undef, undef, undef, undef, undef, undef, undef, undef, undef, undef, undef, undef, undef, undef, undef, undef, undef, undef, undef, undef, undef, undef, undef, undef, undef, undef, undef, undef, undef, undef, undef, undef, undef, undef, undef, undef, undef, undef, undef, undef, undef, undef, undef, undef, undef, undef, undef, undef, undef, undef, undef, undef, undef, undef, undef, undef, undef, undef, undef, undef, undef, undef, undef, undef, undef, undef, undef, undef, undef, undef, undef, undef, undef, undef, undef, undef, undef, undef, undef, undef, undef, undef, undef, undef, undef, undef, x 13, undef, undef, x 16, undef], []⟩,
   fun x => ⟨#[undef, undef, undef, undef, undef, undef, undef, undef, undef, undef, undef, undef, undef, undef, undef, undef, undef, undef, undef, undef, undef, undef, undef, undef, undef, undef, undef, undef, undef, undef, undef, undef, undef, undef, undef, undef, undef, undef, undef, undef, undef, undef, undef, undef, undef, undef, undef, undef, undef, undef, undef, undef, undef, undef, undef, undef, undef, undef, undef, undef, undef, undef, undef, undef, undef, undef, undef, undef, undef, undef, undef, undef, undef, undef, undef, undef, undef, undef, undef, undef, undef, undef, undef, undef, undef, undef, undef, undef, undef, undef, undef, undef, undef, undef, undef, undef, x 17, undef], []⟩,
   fun x => ⟨#[undef, undef, undef, undef, undef, undef, undef, undef, undef, undef, undef, undef, undef, undef, undef, undef, undef, undef, undef, undef, undef, undef, undef, .slice (some ⟨bg, bo, none⟩) 1 bpc, undef, undef, undef, undef, undef, undef, undef, undef, undef, undef, undef, undef, undef, undef, undef, undef, undef, undef, undef, undef, undef, undef, undef, undef, undef, undef, undef, undef, undef, undef, undef, undef, undef, undef, undef, undef, undef, undef, undef, undef, undef, undef, undef, undef, undef, undef, undef, undef, undef, undef, undef, undef, undef, undef, undef, undef, undef, undef, undef, undef, undef, undef, undef, undef, undef, undef, undef, undef, undef, undef, undef, undef, undef, x 18, undef], []⟩,
   fun x => ⟨#[undef, undef, undef, undef, undef, undef, undef, undef, undef, undef, undef, undef, undef, undef, undef, undef, undef, undef, undef, undef, undef, undef, undef, undef, undef, undef, undef, undef, undef, undef, undef, undef, undef, undef, undef, undef, undef, undef, undef, undef, undef, undef, undef, undef, undef, undef, undef, undef, undef, undef, undef, undef, undef, undef, undef, undef, undef, undef, undef, undef, undef, undef, undef, undef, undef, undef, undef, undef, undef, undef, undef, undef, undef, undef, undef, undef, undef, undef, undef, undef, undef, undef, undef, undef, undef, undef, undef, undef, undef, undef, undef, undef, undef, undef, undef, undef, undef, x 18, x 19, undef], []⟩,
   fun x => ⟨#[undef, undef, undef, undef, undef, undef, undef, undef, undef, undef, undef, undef, undef, undef, undef, undef, undef, undef, undef, undef, undef, undef, undef, undef, undef, undef, undef, undef, undef, undef, undef, undef, undef, undef, undef, undef, undef, undef, undef, undef, undef, undef, undef, undef, undef, undef, undef, undef, undef, undef, undef, undef, undef, undef, undef, undef, undef, undef, undef, undef, undef, undef, undef, undef, undef, undef, undef, undef, undef, undef, undef, undef, undef, undef, undef, undef, undef, undef, undef, undef, undef, undef, undef, undef, undef, undef, undef, undef, undef, undef, undef, undef, undef, undef, undef, undef, undef, x 18, undef, x 20, undef], []⟩,
   fun x => ⟨#[undef, undef, undef, undef, undef, undef, undef, undef, undef, undef, undef, undef, undef, undef, undef, undef, undef, undef, undef, undef, undef, undef, undef, undef, undef, undef, undef, undef, undef, undef, undef, undef, undef, undef, undef, undef, undef, undef, undef, undef, undef, undef, undef, undef, undef, undef, undef, undef, undef, undef, undef, undef, undef, undef, undef, undef, undef, undef, undef, undef, undef, undef, undef, undef, undef, undef, undef, undef, undef, undef, undef, undef, undef, undef, undef, undef, undef, undef, undef, undef, undef, undef, undef, undef, undef, undef, undef, undef, undef, undef, undef, undef, undef, undef, undef, undef, undef, x 18, undef, undef, x 21, undef], []⟩,
   fun x => ⟨#[undef, undef, undef, undef, undef, undef, undef, undef, undef, undef, undef, undef, undef, undef, undef, undef, undef, undef, undef, undef, undef, undef, undef, undef, undef, undef, undef, undef, undef, undef, undef, undef, undef, undef, undef, undef, undef, undef, undef, undef, undef, undef, undef, undef, undef, undef, undef, undef, undef, undef, undef, undef, undef, undef, undef, undef, undef, undef, undef, undef, undef, undef, undef, undef, undef, undef, undef, undef, undef, undef, undef, undef, undef, undef, undef, undef, undef, undef, undef, undef, undef, undef, undef, undef, undef, undef, undef, undef, undef, undef, undef, undef, undef, undef, undef, undef, undef, undef, undef, undef, undef, x 22, undef], []⟩,
   fun x => ⟨#[undef, undef, undef, undef, undef, undef, undef, undef, undef, undef, undef, undef, undef, undef, undef, undef, undef, undef, .slice (some ⟨ag, ao, none⟩) 1 ac, undef, undef, undef, undef, undef, undef, undef, undef, undef, undef, undef, undef, undef, undef, undef, undef, undef, undef, undef, undef, undef, undef, undef, undef, undef, undef, undef, undef, undef, undef, undef, undef, undef, undef, undef, undef, undef, undef, undef, undef, undef, undef, undef, undef, undef, undef, undef, undef, undef, undef, undef, undef, undef, undef, undef, undef, undef, undef, undef, undef, undef, undef, undef, undef, undef, undef, undef, undef, undef, undef, undef, undef, undef, undef, undef, undef, undef, undef, undef, undef, undef, undef, undef, x 23, undef], []⟩,
   fun x => ⟨#[undef, undef, undef, undef, undef, undef, undef, undef, undef, undef, undef, undef, undef, undef, undef, undef, undef, undef, undef, undef, undef, undef, undef, undef, undef, undef, undef, undef, undef, undef, undef, undef, undef, undef, undef, undef, undef, undef, undef, undef, undef, undef, undef, undef, undef, undef, undef, undef, undef, undef, undef, undef, undef, undef, undef, undef, undef, undef, undef, undef, undef, undef, undef, undef, undef, undef, undef, undef, undef, undef, undef, undef, undef, undef, undef, undef, undef, undef, undef, undef, undef, undef, undef, undef, undef, undef, undef, undef, undef, undef, undef, undef, undef, undef, undef, undef, undef, undef, undef, undef, undef, undef, x 23, x 24, undef], []⟩,
   fun x => ⟨#[undef, undef, undef, undef, undef, undef, undef, undef, undef, undef, undef, undef, undef, undef, undef, undef, undef, undef, undef, undef, undef, undef, undef, undef, undef, undef, undef, undef, undef, undef, undef, undef, undef, undef, undef, undef, undef, undef, undef, undef, undef, undef, undef, undef, undef, undef, undef, undef, undef, undef, undef, undef, undef, undef, undef, undef, undef, undef, undef, undef, undef, undef, undef, undef, undef, undef, undef, undef, undef, undef, undef, undef, undef, undef, undef, undef, undef, undef, undef, undef, undef, undef, undef, undef, undef, undef, undef, undef, undef, undef, undef, undef, undef, undef, undef, undef, undef, undef, undef, undef, undef, undef, x 23, undef, x 25, undef], []⟩,
   fun x => ⟨#[undef, undef, undef, undef, undef, undef, undef, undef, undef, undef, undef, undef, undef, undef, undef, undef, undef, undef, undef, undef, undef, undef, undef, .slice (some ⟨bg, bo, none⟩) 1 bpc, undef, undef, undef, undef, undef, undef, undef, undef, undef, undef, undef, undef, undef, undef, undef, undef, undef, undef, undef, undef, undef, undef, undef, undef, undef, undef, undef, undef, undef, undef, undef, undef, undef, undef, undef, undef, undef, undef, undef, undef, undef, undef, undef, undef, undef, undef, undef, undef, undef, undef, undef, undef, undef, undef, undef, undef, undef, undef, undef, undef, undef, undef, undef, undef, undef, undef, undef, undef, undef, undef, undef, undef, undef, undef, undef, undef, undef, undef, x 23, undef, undef, undef, undef], []⟩,
   fun x => ⟨#[undef, undef, undef, undef, undef, undef, undef, undef, undef, undef, undef, undef, undef, undef, undef, undef, undef, undef, undef, undef, undef, undef, undef, undef, undef, undef, undef, undef, undef, undef, undef, undef, undef, undef, undef, undef, undef, undef, undef, undef, undef, undef, undef, undef, undef, undef, undef, undef, undef, undef, undef, undef, undef, undef, undef, undef, undef, undef, undef, undef, undef, undef, undef, undef, undef, undef, undef, undef, undef, undef, undef, undef, undef, undef, undef, undef, undef, undef, undef, undef, undef, undef, undef, undef, undef, undef, undef, undef, undef, undef, undef, undef, undef, undef, undef, undef, undef, undef, undef, undef, undef, undef, x 23, undef, undef, undef, x 27, undef], []⟩,
   fun x => ⟨#[undef, undef, undef, undef, undef, undef, undef, undef, undef, undef, undef, undef, undef, undef, undef, undef, undef, undef, undef, undef, undef, undef, undef, undef, undef, undef, undef, undef, undef, undef, undef, undef, undef, undef, undef, undef, undef, undef, undef, undef, undef, undef, undef, undef, undef, undef, undef, undef, undef, undef, undef, undef, undef, undef, undef, undef, undef, undef, undef, undef, undef, undef, undef, undef, undef, undef, undef, undef, undef, undef, undef, undef, undef, undef, undef, undef, undef, undef, undef, undef, undef, undef, undef, undef, undef, undef, undef, undef, undef, undef, undef, undef, undef, undef, undef, undef, undef, undef, undef, undef, undef, undef, x 23, undef, undef, undef, undef, x 28, undef], []⟩,
   fun x => ⟨#[undef, undef, undef, undef, undef, undef, undef, undef, undef, undef, undef, undef, undef, undef, undef, undef, undef, undef, undef, undef, undef, undef, undef, undef, undef, undef, undef, undef, undef, undef, undef, undef, undef, undef, undef, undef, undef, undef, undef, undef, undef, undef, undef, undef, undef, undef, undef, undef, undef, undef, undef, undef, undef, undef, undef, undef, undef, undef, undef, undef, undef, undef, undef, undef, undef, undef, undef, undef, undef, undef, undef, undef, undef, undef, undef, undef, undef, undef, undef, undef, undef, undef, undef, undef, undef, undef, undef, undef, undef, undef, undef, undef, undef, undef, undef, undef, undef, undef, undef, undef, undef, undef, x 23, undef, undef, x 26, undef, undef, x 29, undef], []⟩,
   fun x => ⟨#[undef, undef, undef, undef, undef, undef, undef, undef, undef, undef, undef, undef, undef, undef, undef, undef, undef, undef, undef, undef, undef, undef, undef, undef, undef, undef, undef, undef, undef, undef, undef, undef, undef, undef, undef, undef, undef, undef, undef, undef, undef, undef, undef, undef, undef, undef, undef, undef, undef, undef, undef, undef, undef, undef, undef, undef, undef, undef, undef, undef, undef, undef, undef, undef, undef, undef, undef, undef, undef, undef, undef, undef, undef, undef, undef, undef, undef, undef, undef, undef, undef, undef, undef, undef, undef, undef, undef, undef, undef, undef, undef, undef, undef, undef, undef, undef, undef, undef, undef, undef, undef, undef, x 23, undef, undef, undef, undef, undef, undef, x 30, undef], []⟩,
   fun x => ⟨#[undef, undef, undef, undef, undef, undef, undef, undef, undef, undef, undef, undef, undef, undef, undef, undef, undef, undef, undef, undef, undef, undef, undef, undef, undef, undef, undef, undef, undef, undef, undef, undef, undef, undef, undef, undef, undef, undef, undef, undef, undef, undef, undef, undef, undef, undef, undef, undef, undef, undef, undef, undef, undef, undef, undef, undef, undef, undef, undef, undef, undef, undef, undef, undef, undef, undef, undef, undef, undef, undef, undef, undef, undef, undef, undef, undef, undef, undef, undef, undef, undef, undef, undef, undef, undef, undef, undef, undef, undef, undef, undef, undef, undef, undef, undef, undef, undef, undef, undef, undef, undef, undef, x 23, undef, undef, undef, undef, undef, undef, undef, x 31, undef], []⟩,
   fun x => ⟨#[undef, undef, undef, undef, undef, undef, undef, undef, undef, undef, undef, undef, undef, undef, undef, undef, undef, undef, undef, undef, undef, undef, undef, undef, undef, undef, undef, undef, undef, undef, undef, undef, undef, undef, undef, undef, undef, undef, undef, undef, undef, undef, undef, undef, undef, undef, undef, undef, undef, undef, undef, undef, undef, undef, undef, undef, undef, undef, undef, undef, undef, undef, undef, undef, undef, undef, undef, undef, undef, undef, undef, undef, undef, undef, undef, undef, undef, undef, undef, undef, undef, undef, undef, undef, undef, undef, undef, undef, undef, undef, undef, undef, undef, undef, undef, undef, undef, undef, undef, undef, undef, undef, undef, undef, undef, undef, undef, undef, undef, undef, undef, x 32, undef], []⟩,
   fun x => ⟨#[undef, undef, undef, undef, undef, undef, undef, undef, undef, undef, undef, undef, undef, undef, undef, undef, undef, undef, .slice (some ⟨ag, ao, none⟩) 1 ac, undef, undef, undef, undef, undef, undef, undef, undef, undef, undef, undef, undef, undef, undef, undef, undef, undef, undef, undef, undef, undef, undef, undef, undef, undef, undef, undef, undef, undef, undef, undef, undef, undef, undef, undef, undef, undef, undef, undef, undef, undef, undef, undef, undef, undef, undef, undef, undef, undef, undef, undef, undef, undef, undef, undef, undef, undef, undef, undef, undef, undef, undef, undef, undef, undef, undef, undef, undef, undef, undef, undef, undef, undef, undef, undef, undef, undef, undef, undef, undef, undef, undef, undef, undef, undef, undef, undef, undef, undef, undef, undef, undef, undef, x 33, undef], []⟩,
   fun x => ⟨#[undef, undef, undef, undef, undef, undef, undef, undef, undef, undef, undef, undef, undef, undef, undef, undef, undef, undef, undef, undef, undef, undef, undef, undef, undef, undef, undef, undef, undef, undef, undef, undef, undef, undef, undef, undef, undef, undef, undef, undef, undef, undef, undef, undef, undef, undef, undef, undef, undef, undef, undef, undef, undef, undef, undef, undef, undef, undef, undef, undef, undef, undef, undef, undef, undef, undef, undef, undef, undef, undef, undef, undef, undef, undef, undef, undef, undef, undef, undef, undef, undef, undef, undef, undef, undef, undef, undef, undef, undef, undef, undef, undef, undef, undef, undef, undef, undef, undef, undef, undef, undef, undef, undef, undef, undef, undef, undef, undef, undef, undef, undef, undef, x 33, x 34, undef], []⟩,
   fun x => ⟨#[undef, undef, undef, undef, undef, undef, undef, undef, undef, undef, undef, undef, undef, undef, undef, undef, undef, undef, undef, undef, undef, undef, undef, undef, undef, undef, undef, undef, undef, undef, undef, undef, undef, undef, undef, undef, undef, undef, undef, undef, undef, undef, undef, undef, undef, undef, undef, undef, undef, undef, undef, undef, undef, undef, undef, undef, undef, undef, undef, undef, undef, undef, undef, undef, undef, undef, undef, undef, undef, undef, undef, undef, undef, undef, undef, undef, undef, undef, undef, undef, undef, undef, undef, undef, undef, undef, undef, undef, undef, undef, undef, undef, undef, undef, undef, undef, undef, undef, undef, undef, undef, undef, undef, undef, undef, undef, undef, undef, undef, undef, undef, undef, x 33, undef, x 35, undef], []⟩,
   fun x => ⟨#[undef, undef, undef, undef, undef, undef, undef, undef, undef, undef, undef, undef, undef, undef, undef, undef, undef, undef, undef, undef, undef, undef, undef, undef, undef, undef, undef, undef, undef, undef, undef, undef, undef, undef, undef, undef, undef, undef, undef, undef, undef, undef, undef, undef, undef, undef, undef, undef, undef, undef, undef, undef, undef, undef, undef, undef, undef, undef, undef, undef, undef, undef, undef, undef, undef, undef, undef, undef, undef, undef, undef, undef, undef, undef, undef, undef, undef, undef, undef, undef, undef, undef, undef, undef, undef, undef, undef, undef, undef, undef, undef, undef, undef, undef, undef, undef, undef, undef, undef, undef, undef, undef, undef, undef, undef, undef, undef, undef, undef, undef, undef, undef, x 33, undef, undef, x 36, undef], []⟩,
   fun x => ⟨#[undef, undef, undef, undef, undef, undef, undef, undef, undef, undef, undef, undef, .int .i64 u0, undef, undef, undef, undef, undef, undef, undef, undef, undef, undef, undef, undef, undef, undef, undef, undef, undef, undef, undef, undef, undef, undef, undef, undef, undef, undef, undef, undef, undef, undef, undef, undef, undef, undef, undef, undef, undef, undef, undef, undef, undef, undef, undef, undef, undef, undef, undef, undef, undef, undef, undef, undef, undef, undef, undef, undef, undef, undef, undef, undef, undef, undef, undef, undef, undef, undef, undef, undef, undef, undef, undef, undef, undef, undef, undef, undef, undef, undef, undef, undef, undef, undef, undef, undef, undef, undef, undef, undef, undef, undef, undef, undef, undef, undef, undef, undef, undef, undef, undef, x 33, undef, undef, undef, undef, undef], []⟩,
   fun x => ⟨#[undef, undef, undef, undef, undef, undef, undef, undef, undef, undef, undef, undef, undef, undef, undef, undef, undef, undef, undef, undef, undef, undef, undef, undef, undef, undef, undef, undef, undef, undef, undef, undef, undef, undef, undef, undef, undef, undef, undef, undef, undef, undef, undef, undef, undef, undef, undef, undef, undef, undef, undef, undef, undef, undef, undef, undef, undef, undef, undef, undef, undef, undef, undef, undef, undef, undef, undef, undef, undef, undef, undef, undef, undef, undef, undef, undef, undef, undef, undef, undef, undef, undef, undef, undef, undef, undef, undef, undef, undef, undef, undef, undef, undef, undef, undef, undef, undef, undef, undef, undef, undef, undef, undef, undef, undef, undef, undef, undef, undef, undef, undef, undef, x 33, undef, undef, undef, undef, x 38, undef], []⟩,
   fun x => ⟨#[undef, undef, undef, undef, undef, undef, undef, undef, undef, undef, undef, undef, undef, undef, undef, undef, undef, undef, undef, undef, undef, undef, undef, undef, undef, undef, undef, undef, undef, undef, undef, undef, undef, undef, undef, undef, undef, undef, undef, undef, undef, undef, undef, undef, undef, undef, undef, undef, undef, undef, undef, undef, undef, undef, undef, undef, undef, undef, undef, undef, undef, undef, undef, undef, undef, undef, undef, undef, undef, undef, undef, undef, undef, undef, undef, undef, undef, undef, undef, undef, undef, undef, undef, undef, undef, undef, undef, undef, undef, undef, undef, undef, undef, undef, undef, undef, undef, undef, undef, undef, undef, undef, undef, undef, undef, undef, undef, undef, undef, undef, undef, undef, x 33, undef, undef, undef, x 37, undef, x 39, undef], []⟩,
   fun x => ⟨#[undef, undef, undef, undef, undef, undef, undef, undef, undef, undef, undef, undef, undef, undef, undef, undef, undef, undef, undef, undef, undef, undef, undef, undef, undef, undef, undef, undef, undef, undef, undef, undef, undef, undef, undef, undef, undef, undef, undef, undef, undef, undef, undef, undef, undef, undef, undef, undef, undef, undef, undef, undef, undef, undef, undef, undef, undef, undef, undef, undef, undef, undef, undef, undef, undef, undef, undef, undef, undef, undef, undef, undef, undef, undef, undef, undef, undef, undef, undef, undef, undef, undef, undef, undef, undef, undef, undef, undef, undef, undef, undef, undef, undef, undef, undef, undef, undef, undef, undef, undef, undef, undef, undef, undef, undef, undef, undef, undef, undef, undef, undef, undef, x 33, undef, undef, undef, undef, undef, undef, x 40, undef], []⟩,
   fun x => ⟨#[undef, undef, undef, undef, undef, undef, undef, undef, undef, undef, undef, undef, undef, undef, undef, undef, undef, undef, undef, undef, undef, undef, undef, undef, undef, undef, undef, undef, undef, undef, undef, undef, undef, undef, undef, undef, undef, undef, undef, undef, undef, undef, undef, undef, undef, undef, undef, undef, undef, undef, undef, undef, undef, undef, undef, undef, undef, undef, undef, undef, undef, undef, undef, undef, undef, undef, undef, undef, undef, undef, undef, undef, undef, undef, undef, undef, undef, undef, undef, undef, undef, undef, undef, undef, undef, undef, undef, undef, undef, undef, undef, undef, undef, undef, undef, undef, undef, undef, undef, undef, undef, undef, undef, undef, undef, undef, undef, undef, undef, undef, undef, undef, undef, undef, undef, undef, undef, undef, undef, undef, x 41, undef], []⟩,
   fun x => ⟨#[undef, undef, undef, undef, undef, undef, undef, undef, undef, undef, undef, undef, undef, undef, undef, undef, undef, undef, undef, undef, .pointer (some ⟨gB, 0, none⟩), undef, undef, undef, undef, undef, undef, undef, undef, undef, undef, undef, undef, undef, undef, undef, undef, undef, undef, undef, undef, undef, undef, undef, undef, undef, undef, undef, undef, undef, undef, undef, undef, undef, undef, undef, undef, undef, undef, undef, undef, undef, undef, undef, undef, undef, undef, undef, undef, undef, undef, undef, undef, undef, undef, undef, undef, undef, undef, undef, undef, undef, undef, undef, undef, undef, undef, undef, undef, undef, undef, undef, undef, undef, undef, undef, undef, undef, undef, undef, undef, undef, undef, undef, undef, undef, undef, undef, undef, undef, undef, undef, undef, undef, undef, undef, undef, undef, undef, undef, undef, x 42, undef], []⟩,
   fun x => ⟨#[undef, undef, undef, undef, undef, undef, undef, undef, undef, undef, undef, undef, undef, undef, undef, undef, undef, undef, undef, undef, undef, undef, undef, undef, undef, undef, undef, undef, undef, undef, undef, undef, undef, undef, undef, undef, undef, undef, undef, undef, undef, undef, undef, undef, undef, undef, undef, undef, undef, undef, undef, undef, undef, undef, undef, undef, undef, undef, undef, undef, undef, undef, undef, undef, undef, undef, undef, undef, undef, undef, undef, undef, undef, undef, undef, undef, undef, undef, undef, undef, undef, undef, undef, undef, undef, undef, undef, undef, undef, undef, undef, undef, undef, undef, undef, undef, undef, undef, undef, undef, undef, undef, undef, undef, undef, undef, undef, undef, undef, undef, undef, undef, undef, undef, undef, undef, undef, undef, undef, undef, undef, x 42, x 43, undef], []⟩,
   fun x => ⟨#[undef, undef, undef, undef, undef, undef, undef, undef, undef, undef, undef, undef, undef, undef, undef, .pointer (some ⟨gA, 0, none⟩), undef, undef, undef, undef, undef, undef, undef, undef, undef, undef, undef, undef, undef, undef, undef, undef, undef, undef, undef, undef, undef, undef, undef, undef, undef, undef, undef, undef, undef, undef, undef, undef, undef, undef, undef, undef, undef, undef, undef, undef, undef, undef, undef, undef, undef, undef, undef, undef, undef, undef, undef, undef, undef, undef, undef, undef, undef, undef, undef, undef, undef, undef, undef, undef, undef, undef, undef, undef, undef, undef, undef, undef, undef, undef, undef, undef, undef, undef, undef, undef, undef, undef, undef, undef, undef, undef, undef, undef, undef, undef, undef, undef, undef, undef, undef, undef, undef, undef, undef, undef, undef, undef, undef, undef, undef, x 42, undef, undef, undef], []⟩,
   fun x => ⟨#[undef, undef, undef, undef, undef, undef, undef, undef, undef, undef, undef, undef, undef, undef, undef, undef, undef, undef, undef, undef, undef, undef, undef, undef, undef, undef, undef, undef, undef, undef, undef, undef, undef, undef, undef, undef, undef, undef, undef, undef, undef, undef, undef, undef, undef, undef, undef, undef, undef, undef, undef, undef, undef, undef, undef, undef, undef, undef, undef, undef, undef, undef, undef, undef, undef, undef, undef, undef, undef, undef, undef, undef, undef, undef, undef, undef, undef, undef, undef, undef, undef, undef, undef, undef, undef, undef, undef, undef, undef, undef, undef, undef, undef, undef, undef, undef, undef, undef, undef, undef, undef, undef, undef, undef, undef, undef, undef, undef, undef, undef, undef, undef, undef, undef, undef, undef, undef, undef, undef, undef, undef, x 42, undef, undef, x 45, undef], []⟩,
   fun x => ⟨#[undef, undef, undef, undef, undef, undef, undef, undef, undef, undef, undef, undef, undef, undef, undef, undef, undef, undef, undef, undef, undef, undef, undef, undef, undef, undef, undef, undef, undef, undef, undef, undef, undef, undef, undef, undef, undef, undef, undef, undef, undef, undef, undef, undef, undef, undef, undef, undef, undef, undef, undef, undef, undef, undef, undef, undef, undef, undef, undef, undef, undef, undef, undef, undef, undef, undef, undef, undef, undef, undef, undef, undef, undef, undef, undef, undef, undef, undef, undef, undef, undef, undef, undef, undef, undef, undef, undef, undef, undef, undef, undef, undef, undef, undef, undef, undef, undef, undef, undef, undef, undef, undef, undef, undef, undef, undef, undef, undef, undef, undef, undef, undef, undef, undef, undef, undef, undef, undef, undef, undef, undef, x 42, undef, x 44, undef, x 46, undef], []⟩,
   fun x => ⟨#[undef, undef, undef, undef, undef, undef, undef, undef, undef, undef, undef, undef, undef, undef, undef, undef, undef, undef, undef, undef, undef, undef, undef, undef, undef, undef, undef, undef, undef, undef, undef, undef, undef, undef, undef, undef, undef, undef, undef, undef, undef, undef, undef, undef, undef, undef, undef, undef, undef, undef, undef, undef, undef, undef, undef, undef, undef, undef, undef, undef, undef, undef, undef, undef, undef, undef, undef, undef, undef, undef, undef, undef, undef, undef, undef, undef, undef, undef, undef, undef, undef, undef, undef, undef, undef, undef, undef, undef, undef, undef, undef, undef, undef, undef, undef, undef, undef, undef, undef, undef, undef, undef, undef, undef, undef, undef, undef, undef, undef, undef, undef, undef, undef, undef, undef, undef, undef, undef, undef, undef, undef, x 42, undef, undef, undef, undef, x 47, undef], []⟩]
              ?hF ?mono ?h0 ?step [0, 1, 2, 3, 4, 5, 6, 7, 8, 9, 10, 11, 12, 13, 14, 15, 16, 17, 18, 19, 20, 21, 22, 23, 24, 25, 26, 27, 28, 29, 30, 31, 32, 33, 34, 35, 36, 37, 38, 39, 40, 41, 42, 43, 44, 45, 46, 47, 48] (by kernel_rfl) ?fin
            case hF =>
              exact ⟨fun x => ⟨by kernel_rfl, by kernel_rfl⟩, fun x => ⟨by kernel_rfl, by kernel_rfl⟩, fun x => ⟨by kernel_rfl, by kernel_rfl⟩, fun x => ⟨by kernel_rfl, by kernel_rfl⟩, fun x => ⟨by kernel_rfl, by kernel_rfl⟩, fun x => ⟨by kernel_rfl, by kernel_rfl⟩, fun x => ⟨by kernel_rfl, by kernel_rfl⟩, fun x => ⟨by kernel_rfl, by kernel_rfl⟩, fun x => ⟨by kernel_rfl, by kernel_rfl⟩, fun x => ⟨by kernel_rfl, by kernel_rfl⟩, fun x => ⟨by kernel_rfl, by kernel_rfl⟩, fun x => ⟨by kernel_rfl, by kernel_rfl⟩, fun x => ⟨by kernel_rfl, by kernel_rfl⟩, fun x => ⟨by kernel_rfl, by kernel_rfl⟩, fun x => ⟨by kernel_rfl, by kernel_rfl⟩, fun x => ⟨by kernel_rfl, by kernel_rfl⟩, fun x => ⟨by kernel_rfl, by kernel_rfl⟩, fun x => ⟨by kernel_rfl, by kernel_rfl⟩, fun x => ⟨by kernel_rfl, by kernel_rfl⟩, fun x => ⟨by kernel_rfl, by kernel_rfl⟩, fun x => ⟨by kernel_rfl, by kernel_rfl⟩, fun x => ⟨by kernel_rfl, by kernel_rfl⟩, fun x => ⟨by kernel_rfl, by kernel_rfl⟩, fun x => ⟨by kernel_rfl, by kernel_rfl⟩, fun x => ⟨by kernel_rfl, by kernel_rfl⟩, fun x => ⟨by kernel_rfl, by kernel_rfl⟩, fun x => ⟨by kernel_rfl, by kernel_rfl⟩, fun x => ⟨by kernel_rfl, by kernel_rfl⟩, fun x => ⟨by kernel_rfl, by kernel_rfl⟩, fun x => ⟨by kernel_rfl, by kernel_rfl⟩, fun x => ⟨by kernel_rfl, by kernel_rfl⟩, fun x => ⟨by kernel_rfl, by kernel_rfl⟩, fun x => ⟨by kernel_rfl, by kernel_rfl⟩, fun x => ⟨by kernel_rfl, by kernel_rfl⟩, fun x => ⟨by kernel_rfl, by kernel_rfl⟩, fun x => ⟨by kernel_rfl, by kernel_rfl⟩, fun x => ⟨by kernel_rfl, by kernel_rfl⟩, fun x => ⟨by kernel_rfl, by kernel_rfl⟩, fun x => ⟨by kernel_rfl, by kernel_rfl⟩, fun x => ⟨by kernel_rfl, by kernel_rfl⟩, fun x => ⟨by kernel_rfl, by kernel_rfl⟩, fun x => ⟨by kernel_rfl, by kernel_rfl⟩, fun x => ⟨by kernel_rfl, by kernel_rfl⟩, fun x => ⟨by kernel_rfl, by kernel_rfl⟩, fun x => ⟨by kernel_rfl, by kernel_rfl⟩, fun x => ⟨by kernel_rfl, by kernel_rfl⟩, fun x => ⟨by kernel_rfl, by kernel_rfl⟩, fun x => ⟨by kernel_rfl, by kernel_rfl⟩, fun x => ⟨by kernel_rfl, by kernel_rfl⟩, trivial⟩
            case mono =>
              intro i j hi hj hne hna hnk v W W' hE hv
              rw [HV.out] at hv ⊢
              simp only [List.length_cons, List.length_nil] at hi hj
              match i, hi with
              | 0, _ | 1, _ | 2, _ | 3, _ | 4, _ | 5, _ | 6, _ | 7, _ | 8, _ | 9, _ | 10, _ | 11, _ | 12, _ | 13, _ | 14, _ | 15, _ | 16, _ | 17, _ | 18, _ | 19, _ | 20, _ | 21, _ | 22, _ | 23, _ | 24, _ | 25, _ | 26, _ | 27, _ | 28, _ | 29, _ | 30, _ | 31, _ | 32, _ | 33, _ | 34, _ | 35, _ | 36, _ | 37, _ | 38, _ | 39, _ | 40, _ | 41, _ | 42, _ | 43, _ | 44, _ | 45, _ | 46, _ | 47, _ | 48, _ => exact hv
              | m + 49, h => exact absurd h (by omega)
            case h0 => intro x; exact toI HIp (Below.refl _ _).drew
            case step =>
              refine ⟨?_, ?_, ?_, ?_, ?_, ?_, ?_, ?_, ?_, ?_, ?_, ?_, ?_, ?_, ?_, ?_, ?_, ?_, ?_, ?_, ?_, ?_, ?_, ?_, ?_, ?_, ?_, ?_, ?_, ?_, ?_, ?_, ?_, ?_, ?_, ?_, ?_, ?_, ?_, ?_, ?_, ?_, ?_, ?_, ?_, ?_, ?_, ?_, ?_, trivial⟩
              all_goals
                intro x W L hI hL hV
                replace hI : (Below w7.heap.size w7 W) := ofI HIp hI
                rw [HV.out] at hV
                simp only [AllV, and_true] at hV
              · clear hV
                (try dsimp only)
                have HI := Lib.hid hI
                clear hI
                go_wp2_with fail
                refine step3_done rfl ?_ ?_ ?_
                · exact (toI HIp HI.out)
                · exact (Below.refl _ _)
                · exact (toV HV rfl)
              · have u0 := hV
                clear hV
                simp only [u0]
                clear u0
                have HI := Lib.hid hI
                clear hI
                go_wp2_with fail
                refine step3_done rfl ?_ ?_ ?_
                · exact (toI HIp HI.out)
                · exact (Below.refl _ _)
                · exact (toV HV rfl)
              · have u1 := hV
                clear hV
                simp only [u1]
                clear u1
                have HI := Lib.hid hI
                clear hI
                go_wp2_with fail
                refine step3_done rfl ?_ ?_ ?_
                · exact (toI HIp HI.out)
                · exact (Below.refl _ _)
                · exact (toV HV rfl)
              · have u2 := hV
                clear hV
                simp only [u2]
                clear u2
                have HI := Lib.hid hI
                clear hI
                go_wp2_with fail
                refine step3_done rfl ?_ ?_ ?_
                · exact (toI HIp HI.out)
                · exact (Below.refl _ _)
                · exact (toV HV rfl)
              · obtain ⟨u2, u3⟩ := hV
                simp only [u2, u3]
                clear u2 u3
                have HI := Lib.hid hI
                clear hI
                go_wp2_with fail
                refine step3_done rfl ?_ ?_ ?_
                · exact (toI HIp HI.out)
                · exact (Below.refl _ _)
                · exact (toV HV rfl)
              · obtain ⟨u2, u4⟩ := hV
                simp only [u2, u4]
                clear u2 u4
                have HI := Lib.hid hI
                clear hI
                go_wp2_with fail
                refine step3_done rfl ?_ ?_ ?_
                · exact (toI HIp HI.out)
                · exact (Below.refl _ _)
                · exact (toV HV rfl)
              · have u5 := hV
                clear hV
                simp only [u5]
                clear u5
                have HI := Lib.hid hI
                clear hI
                go_wp2_with fail
                refine step3_done rfl ?_ ?_ ?_
                · exact (toI HIp HI.out)
                · exact (Below.refl _ _)
                · exact (toV HV rfl)
              · have u6 := hV
                clear hV
                simp only [u6]
                clear u6
                have HI := Lib.hid hI
                clear hI
                go_wp2_with fail
                refine step3_done rfl ?_ ?_ ?_
                · exact (toI HIp HI.out)
                · exact (Below.refl _ _)
                · exact (toV HV rfl)
              · obtain ⟨u6, u7⟩ := hV
                simp only [u6, u7]
                clear u6 u7
                have HI := Lib.hid hI
                clear hI
                go_wp2_with fail
                refine step3_done rfl ?_ ?_ ?_
                · exact (toI HIp HI.out)
                · exact (Below.refl _ _)
                · exact (toV HV rfl)
              · obtain ⟨u6, u8⟩ := hV
                simp only [u6, u8]
                clear u6 u8
                have HI := Lib.hid hI
                clear hI
                go_wp2_with fail
                refine step3_done rfl ?_ ?_ ?_
                · exact (toI HIp HI.out)
                · exact (Below.refl _ _)
                · exact (toV HV rfl)
              · have u9 := hV
                clear hV
                simp only [u9]
                clear u9
                have HI := Lib.hid hI
                clear hI
                go_wp2_with fail
                refine step3_done rfl ?_ ?_ ?_
                · exact (toI HIp HI.out)
                · exact (Below.refl _ _)
                · exact (toV HV rfl)
              · have u10 := hV
                clear hV
                simp only [u10]
                clear u10
                have HI := Lib.hid hI
                clear hI
                go_wp2_with fail
                refine step3_done rfl ?_ ?_ ?_
                · exact (toI HIp HI.out)
                · exact (Below.refl _ _)
                · exact (toV HV rfl)
              · obtain ⟨u10, u11⟩ := hV
                simp only [u10, u11]
                clear u10 u11
                have HI := Lib.hid hI
                clear hI
                go_wp2_with fail
                refine step3_done rfl ?_ ?_ ?_
                · exact (toI HIp HI.out)
                · exact (Below.refl _ _)
                · exact (toV HV rfl)
              · have u12 := hV
                clear hV
                simp only [u12]
                clear u12
                have HI := Lib.hid hI
                clear hI
                go_wp2_with fail
                refine step3_done rfl ?_ ?_ ?_
                · exact (toI HIp HI.out)
                · exact (Below.refl _ _)
                · exact (toV HV rfl)
              · have u13 := hV
                clear hV
                simp only [u13]
                clear u13
                have HI := Lib.hid hI
                clear hI
                go_wp2_with fail
                refine step3_done rfl ?_ ?_ ?_
                · exact (toI HIp HI.out)
                · exact (Below.refl _ _)
                · exact (toV HV rfl)
              · obtain ⟨u13, u14⟩ := hV
                simp only [u13, u14]
                clear u13 u14
                have HI := Lib.hid hI
                clear hI
                go_wp2_with fail
                refine step3_done rfl ?_ ?_ ?_
                · exact (toI HIp HI.out)
                · exact (Below.refl _ _)
                · exact (toV HV rfl)
              · obtain ⟨u13, u15⟩ := hV
                simp only [u13, u15]
                clear u13 u15
                have HI := Lib.hid hI
                clear hI
                go_wp2_with fail
                refine step3_done rfl ?_ ?_ ?_
                · exact (toI HIp HI.out)
                · exact (Below.refl _ _)
                · exact (toV HV rfl)
              · obtain ⟨u13, u16⟩ := hV
                simp only [u13, u16]
                clear u13 u16
                have HI := Lib.hid hI
                clear hI
                go_wp2_with fail
                refine step3_done rfl ?_ ?_ ?_
                · exact (toI HIp HI.out)
                · exact (Below.refl _ _)
                · exact (toV HV rfl)
              · have u17 := hV
                clear hV
                simp only [u17]
                clear u17
                have HI := Lib.hid hI
                clear hI
                go_wp2_with fail
                refine step3_done rfl ?_ ?_ ?_
                · exact (toI HIp HI.out)
                · exact (Below.refl _ _)
                · exact (toV HV rfl)
              · have u18 := hV
                clear hV
                simp only [u18]
                clear u18
                have HI := Lib.hid hI
                clear hI
                go_wp2_with fail
                refine step3_done rfl ?_ ?_ ?_
                · exact (toI HIp HI.out)
                · exact (Below.refl _ _)
                · exact (toV HV rfl)
              · obtain ⟨u18, u19⟩ := hV
                simp only [u18, u19]
                clear u18 u19
                have HI := Lib.hid hI
                clear hI
                go_wp2_with fail
                refine step3_done rfl ?_ ?_ ?_
                · exact (toI HIp HI.out)
                · exact (Below.refl _ _)
                · exact (toV HV rfl)
              · obtain ⟨u18, u20⟩ := hV
                simp only [u18, u20]
                clear u18 u20
                have HI := Lib.hid hI
                clear hI
                go_wp2_with fail
                refine step3_done rfl ?_ ?_ ?_
                · exact (toI HIp HI.out)
                · exact (Below.refl _ _)
                · exact (toV HV rfl)
              · obtain ⟨u18, u21⟩ := hV
                simp only [u18, u21]
                clear u18 u21
                have HI := Lib.hid hI
                clear hI
                go_wp2_with fail
                refine step3_done rfl ?_ ?_ ?_
                · exact (toI HIp HI.out)
                · exact (Below.refl _ _)
                · exact (toV HV rfl)
              · have u22 := hV
                clear hV
                simp only [u22]
                clear u22
                have HI := Lib.hid hI
                clear hI
                go_wp2_with fail
                refine step3_done rfl ?_ ?_ ?_
                · exact (toI HIp HI.out)
                · exact (Below.refl _ _)
                · exact (toV HV rfl)
              · have u23 := hV
                clear hV
                simp only [u23]
                clear u23
                have HI := Lib.hid hI
                clear hI
                go_wp2_with fail
                refine step3_done rfl ?_ ?_ ?_
                · exact (toI HIp HI.out)
                · exact (Below.refl _ _)
                · exact (toV HV rfl)
              · obtain ⟨u23, u24⟩ := hV
                simp only [u23, u24]
                clear u23 u24
                have HI := Lib.hid hI
                clear hI
                go_wp2_with fail
                refine step3_done rfl ?_ ?_ ?_
                · exact (toI HIp HI.out)
                · exact (Below.refl _ _)
                · exact (toV HV rfl)
              · obtain ⟨u23, u25⟩ := hV
                simp only [u23, u25]
                clear u23 u25
                obtain ⟨-, y0, y1, y2, y3, y4, y5, y6, y7, y8⟩ := AC.out.keep hI.size (fun o => hI.cell (p := ⟨ag, o, none⟩) AC.out.1)
                have HI := Lib.hid hI
                clear hI
                go_wp2_with fail
                refine step3_done rfl ?_ ?_ ?_
                · exact (toI HIp HI.out)
                · exact (Below.refl _ _)
                · exact (toV HV rfl)
              · have u23 := hV
                clear hV
                simp only [u23]
                clear u23
                have HI := Lib.hid hI
                clear hI
                go_wp2_with fail
                refine step3_done rfl ?_ ?_ ?_
                · exact (toI HIp HI.out)
                · exact (Below.refl _ _)
                · exact (toV HV rfl)
              · obtain ⟨u23, u27⟩ := hV
                simp only [u23, u27]
                clear u23 u27
                have HI := Lib.hid hI
                clear hI
                go_wp2_with fail
                refine step3_done rfl ?_ ?_ ?_
                · exact (toI HIp HI.out)
                · exact (Below.refl _ _)
                · exact (toV HV rfl)
              · obtain ⟨u23, u28⟩ := hV
                simp only [u23, u28]
                clear u23 u28
                obtain ⟨-, y0, y1, y2, y3, y4, y5, y6, y7, y8⟩ := BC.out.keep hI.size (fun o => hI.cell (p := ⟨bg, o, none⟩) BC.out.1)
                have HI := Lib.hid hI
                clear hI
                go_wp2_with fail
                refine step3_done rfl ?_ ?_ ?_
                · exact (toI HIp HI.out)
                · exact (Below.refl _ _)
                · exact (toV HV rfl)
              · obtain ⟨u23, u26, u29⟩ := hV
                simp only [u23, u26, u29]
                clear u23 u26 u29
                have HI := Lib.hid hI
                clear hI
                go_wp2_with fail
                refine (HSA.out _).mono ?_
                rintro e W' ⟨rfl, hb⟩
                go_wp2_with fail
                refine step3_done rfl ?_ ?_ ?_
                · exact (toI HIp (up HI.out hb))
                · exact hb
                · exact (toV HV rfl)
              · obtain ⟨u23, u30⟩ := hV
                simp only [u23, u30]
                clear u23 u30
                have HI := Lib.hid hI
                clear hI
                go_wp2_with fail
                refine step3_done rfl ?_ ?_ ?_
                · exact (toI HIp HI.out)
                · exact (Below.refl _ _)
                · exact (toV HV rfl)
              · obtain ⟨u23, u31⟩ := hV
                simp only [u23, u31]
                clear u23 u31
                have HI := Lib.hid hI
                clear hI
                go_wp2_with fail
                refine step3_done rfl ?_ ?_ ?_
                · exact (toI HIp HI.out)
                · exact (Below.refl _ _)
                · exact (toV HV rfl)
              · have u32 := hV
                clear hV
                simp only [u32]
                clear u32
                have HI := Lib.hid hI
                clear hI
                go_wp2_with fail
                refine step3_done rfl ?_ ?_ ?_
                · exact (toI HIp HI.out)
                · exact (Below.refl _ _)
                · exact (toV HV rfl)
              · have u33 := hV
                clear hV
                simp only [u33]
                clear u33
                have HI := Lib.hid hI
                clear hI
                go_wp2_with fail
                refine step3_done rfl ?_ ?_ ?_
                · exact (toI HIp HI.out)
                · exact (Below.refl _ _)
                · exact (toV HV rfl)
              · obtain ⟨u33, u34⟩ := hV
                simp only [u33, u34]
                clear u33 u34
                have HI := Lib.hid hI
                clear hI
                go_wp2_with fail
                refine step3_done rfl ?_ ?_ ?_
                · exact (toI HIp HI.out)
                · exact (Below.refl _ _)
                · exact (toV HV rfl)
              · obtain ⟨u33, u35⟩ := hV
                simp only [u33, u35]
                clear u33 u35
                have HI := Lib.hid hI
                clear hI
                go_wp2_with fail
                refine step3_done rfl ?_ ?_ ?_
                · exact (toI HIp HI.out)
                · exact (Below.refl _ _)
                · exact (toV HV rfl)
              · obtain ⟨u33, u36⟩ := hV
                simp only [u33, u36]
                clear u33 u36
                obtain ⟨-, y0, y1, y2, y3, y4, y5, y6, y7, y8⟩ := AC.out.keep hI.size (fun o => hI.cell (p := ⟨ag, o, none⟩) AC.out.1)
                replace y3 : W.cell? ⟨ag, ao + 3, none⟩ = some (.int .i64 u1) := y3
                have HI := Lib.hid hI
                clear hI
                go_wp2_with fail
                refine step3_done rfl ?_ ?_ ?_
                · exact (toI HIp HI.out)
                · exact (Below.refl _ _)
                · exact (toV HV rfl)
              · have u33 := hV
                clear hV
                simp only [u33]
                clear u33
                have HI := Lib.hid hI
                clear hI
                go_wp2_with fail
                refine step3_done rfl ?_ ?_ ?_
                · exact (toI HIp HI.out)
                · exact (Below.refl _ _)
                · exact (toV HV rfl)
              · obtain ⟨u33, u38⟩ := hV
                simp only [u33, u38]
                clear u33 u38
                have HI := Lib.hid hI
                clear hI
                go_wp2_with fail
                refine step3_done rfl ?_ ?_ ?_
                · exact (toI HIp HI.out)
                · exact (Below.refl _ _)
                · exact (toV HV rfl)
              · obtain ⟨u33, u37, u39⟩ := hV
                simp only [u33, u37, u39]
                clear u33 u37 u39
                have HI := Lib.hid hI
                clear hI
                go_wp2_with fail
                refine step3_done rfl ?_ ?_ ?_
                · exact (toI HIp HI.out)
                · exact (Below.refl _ _)
                · exact (toV HV rfl)
              · obtain ⟨u33, u40⟩ := hV
                simp only [u33, u40]
                clear u33 u40
                have HI := Lib.hid hI
                clear hI
                go_wp2_with fail
                refine step3_done rfl ?_ ?_ ?_
                · exact (toI HIp HI.out)
                · exact (Below.refl _ _)
                · exact (toV HV rfl)
              · have u41 := hV
                clear hV
                simp only [u41]
                clear u41
                have HI := Lib.hid hI
                clear hI
                go_wp2_with fail
                refine step3_done rfl ?_ ?_ ?_
                · exact (toI HIp HI.out)
                · exact (Below.refl _ _)
                · exact (toV HV rfl)
              · have u42 := hV
                clear hV
                simp only [u42]
                clear u42
                have HI := Lib.hid hI
                clear hI
                go_wp2_with fail
                refine step3_done rfl ?_ ?_ ?_
                · exact (toI HIp HI.out)
                · exact (Below.refl _ _)
                · exact (toV HV rfl)
              · obtain ⟨u42, u43⟩ := hV
                simp only [u42, u43]
                clear u42 u43
                obtain ⟨q0', q1', q2', q3', q4'⟩ := blk_cells5 (XB.out.go hI)
                have HI := Lib.hid hI
                clear hI
                go_wp2_with fail
                refine step3_done rfl ?_ ?_ ?_
                · exact (toI HIp HI.out)
                · exact (Below.refl _ _)
                · exact (toV HV rfl)
              · have u42 := hV
                clear hV
                simp only [u42]
                clear u42
                have HI := Lib.hid hI
                clear hI
                go_wp2_with fail
                refine step3_done rfl ?_ ?_ ?_
                · exact (toI HIp HI.out)
                · exact (Below.refl _ _)
                · exact (toV HV rfl)
              · obtain ⟨u42, u45⟩ := hV
                simp only [u42, u45]
                clear u42 u45
                obtain ⟨q0', q1', q2', q3', q4'⟩ := blk_cells5 (XA.out.go hI)
                have HI := Lib.hid hI
                clear hI
                go_wp2_with fail
                refine step3_done rfl ?_ ?_ ?_
                · exact (toI HIp HI.out)
                · exact (Below.refl _ _)
                · exact (toV HV rfl)
              · obtain ⟨u42, u44, u46⟩ := hV
                simp only [u42, u44, u46]
                clear u42 u44 u46
                have HI := Lib.hid hI
                clear hI
                go_wp2_with fail
                refine step3_done rfl ?_ ?_ ?_
                · exact (toI HIp HI.out)
                · exact (Below.refl _ _)
                · exact (toV HV rfl)
              · obtain ⟨u42, u47⟩ := hV
                simp only [u42, u47]
                clear u42 u47
                have HI := Lib.hid hI
                clear hI
                go_wp2_with fail
                refine step3_done rfl ?_ ?_ ?_
                · exact (toI HIp HI.out)
                · exact (Below.refl _ _)
                · exact (toV HV rfl)
            case fin =>
              intro x W L hL hI hV
              replace hI : (Below w7.heap.size w7 W) := ofI HIp hI
              rw [HV.out] at hV
              simp only [AllV, and_true] at hV
              obtain ⟨u0, u1, u2, u3, u4, u5, u6, u7, u8, u9, u10, u11, u12, u13, u14, u15, u16, u17, u18, u19, u20, u21, u22, u23, u24, u25, u26, u27, u28, u29, u30, u31, u32, u33, u34, u35, u36, u37, u38, u39, u40, u41, u42, u43, u44, u45, u46, u47, u48⟩ := hV
              simp only [getsD, List.getD_cons_succ, List.getD_cons_zero, List.length_cons, List.length_nil, List.range, List.range.loop, u0, u1, u2, u3, u4, u5, u6, u7, u8, u9, u10, u11, u12, u13, u14, u15, u16, u17, u18, u19, u20, u21, u22, u23, u24, u25, u26, u27, u28, u29, u30, u31, u32, u33, u34, u35, u36, u37, u38, u39, u40, u41, u42, u43, u44, u45, u46, u47, u48, Act.put, List.setIfInBounds_toArray, List.set_cons_succ, List.set_cons_zero]
              clear u0 u1 u2 u3 u4 u5 u6 u7 u8 u9 u10 u11 u12 u13 u14 u15 u16 u17 u18 u19 u20 u21 u22 u23 u24 u25 u26 u27 u28 u29 u30 u31 u32 u33 u34 u35 u36 u37 u38 u39 u40 u41 u42 u43 u44 u45 u46 u47 u48
              have b8 := hI
              have B8 := Lib.hid (up B5.out hI)
              have Y0 := Lib.hid (X0'.out.go hI)
              have Y1 := Lib.hid (X1'.out.go hI)
              have Y2 := X2'.out.go hI
              have YB := XB.out.go hI
              have hz8 := hI.size
              obtain ⟨q0, q1, q2, q3, q4⟩ := blk_cells5 Y2
              obtain ⟨j0, j1, j2, j3, j4⟩ := blk_cells5 YB
              have fW := Y2.frozen
              have hl2 := Y2.lt
              have HB9 := Lib.hid (blk_set5 Y2 (.int .i64 2) (.int .i64 1) (.slice sB0 0 cB0) (.slice sB1 0 cB1) (.int .i64 u1))
              have HT := Lib.hid (touch5 W w2.heap.size (.int .i64 2) (.int .i64 1) (.slice sB0 0 cB0) (.slice sB1 0 cB1) (.int .i64 u1))
              have hz50 := Lib.hid (And.intro hz4 (And.intro hzr b8.size))
              clear hI hL b8 Y2 YB
              go_wp2_with fail
              case roundEnd =>
                have hT' := HT.out
                have hB' := HB9.out
                generalize (((((W.setCell ⟨w2.heap.size, 0, none⟩ (.int .i64 2)).setCell ⟨w2.heap.size, 1, none⟩ (.int .i64 1)).setCell ⟨w2.heap.size, 2, none⟩ (.slice sB0 0 cB0)).setCell ⟨w2.heap.size, 3, none⟩ (.slice sB1 0 cB1)).setCell ⟨w2.heap.size, 4, none⟩ (.int .i64 u1)) = WS at hT' hB' ⊢
                have hzS := hT'.size
                obtain ⟨h51, h52, h53⟩ := hz50.out
                have hBl := B8.out.trans (hT'.toBelow B8.out.size (fun z hz => by omega))
                have hk1 : ((k + 1 : Nat) : Int) = u1 := by have := Hu.out; push_cast; omega
                refine ⟨⟨k + 1, sB0, sB1, cB0, cB1, by omega, by rw [hk1, Hu.out.2], hBl, by omega, Y0.out.touch hT' (by omega), by rw [Hl1.out]; exact Y1.out.past hT' (fun z hz => by omega) (by omega), NB.out.1, NB.out.2, by rw [hk1]; exact hB'⟩, ?_⟩
                simp [intOf]
                omega
    · have hkK : k = K := by omega
      subst hkK
      obtain ⟨sa1, sc1, qa1, qc1, bb, -, -⟩ := X1.out
      rw [lkF_len] at bb
      obtain ⟨q0, q1, q2, q3, q4⟩ := blk_cells5 bb
      obtain ⟨j0, j1, j2, j3, j4⟩ := blk_cells5 X2.out
      clear bb X1 X2 HM HX
      go_wp2_with fail
      go_ret
      exact ⟨rfl, B4.out⟩
end Go.Proofs.YtkhacogeffidoaaDoor
