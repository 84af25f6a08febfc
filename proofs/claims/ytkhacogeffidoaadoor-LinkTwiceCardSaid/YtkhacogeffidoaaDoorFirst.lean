/- The first texts of this claim, one behind the other. -/
import Derived.Test.YtkhacogeffidoaaDoorLinkOff
import Derived.Test.YtkhacogeffidoaaDoorPkOkW
import Derived.Test.YtkhacogeffidoaaDoorOwn
import Derived.BigQuiet
import Derived.Test.YtkhacogeffidoaaDoorUp
import Derived.Test.YtkhacogeffidoaaDoorPacketMake
import Derived.Test.YtkhacogeffidoaaDoorPick
set_option linter.unusedVariables false
set_option linter.unusedSimpArgs false
namespace Go.Proofs.YtkhacogeffidoaaDoor
open Go.RowKit

/-- what an empty slice needs -/
def NilS (a : Option Addr) (c : Nat) : Prop := c ≤ maxLen ∧ (a = none → c = 0)
theorem NilS.rd {A : Nat → Prop} {w : World} {a : Option Addr} {c : Nat} (h : NilS a c) : RdS A w ([] : List Fr) a 0 c := RdS.nil' A w a c h.1 h.2
theorem NilS.of {A : Nat → Prop} {w : World} {a : Option Addr} {c : Nat} (h : RdS A w ([] : List Fr) a 0 c) : NilS a c := ⟨h.2.2.1, h.2.2.2.1⟩
theorem blk_types {g g' t t' : Nat} {cs cs' : Array Value} {w : World} (h : Blk g (.cells cs t (0, 0)) w) (h' : Blk g' (.cells cs' t' (0, 0)) w) (ht : t ≠ t') : g ≠ g' := by
  rintro rfl
  have e := Option.some.inj (h.symm.trans h')
  injection e with e1 e2
  exact ht e2
theorem hearG {f : Fr} (hf : f.check = 0) (hff : f.fits) (h j hn : Nat) (tb : Bool) (hh : h < 1048576) (h1 : 1 ≤ j) (h2 : j ≤ 1048576) (e1 : (if j = h + 1 then h + 1 else h) = hn) (e2 : decide (j = h + 1) = tb) (B : Nat) (a b : Option Addr) (c d : Nat) (vp : Value) (w : World) (hg : Good w) (na : NilS a c) (nb : NilS b d) (hv : PkVal B (pkF f j) vp w) :
    Calls Tryd.prog 19 #[.agg #[.int .i64 2, .int .i64 1, .slice a 0 c, .slice b 0 d, .int .i64 (h : Int)], vp] w fun e w' => ∃ e0 e1 e2 e3 f0 f1 f2 f3 f4 f5 f6 z, e = .returned (.tuple #[.agg #[.int .i64 2, .int .i64 1, .slice e0 0 e1, .slice e2 0 e3, .int .i64 (hn : Int)], .agg #[.int .i64 f0, .int .i64 f1, .int .i64 f2, .slice f3 f4 f5, .string f6], .bool tb, z, .int .i64 0]) ∧ NilS e0 e1 ∧ NilS e2 e3 ∧ Below w.heap.size w w' := by
  have hc := hear_val (lkH h) (pkF f j) (.agg #[.int .i64 2, .int .i64 1, .slice a 0 c, .slice b 0 d, .int .i64 (h : Int)]) vp B w hg ⟨a, c, b, d, rfl, na.rd, nb.rd⟩ hv (lkH_fits (by omega)) (pkF_fits hff h2) (by simp [lkH])
  obtain ⟨q1, q2, q3, q4⟩ := lkH_hear hf hh h1 h2
  rw [q1, q2, q3, e1, e2] at hc
  refine hc.mono ?_
  rintro e w' ⟨ul, uf, up', rfl, ⟨sa, sc, qa, qc, rfl, r1, r2⟩, ⟨fa, fc, rfl, -⟩, -, hb⟩
  exact ⟨sa, sc, qa, qc, _, _, _, fa, _, fc, _, up', rfl, NilS.of r1, NilS.of r2, hb⟩
/-- a link that lies in a box -/
def LkBox (B g : Nat) (l : Lk) (w : World) : Prop := ∃ sa sc qa qc, Blk g (.cells #[.int .i64 l.epoch, .int .i64 l.next, .slice sa l.sent.length sc, .slice qa l.queue.length qc, .int .i64 l.heard] 33 (0, 0)) w ∧ RdS (Fresh B w) w l.sent sa l.sent.length sc ∧ RdS (Fresh B w) w l.queue qa l.queue.length qc
theorem LkBox.go {B g : Nat} {l : Lk} {w w' : World} (h : LkBox B g l w) (hb : Below w.heap.size w w') : LkBox B g l w' := by obtain ⟨a, c, a', c', e, h, h'⟩ := h; exact ⟨a, c, a', c', e.go hb, h.up hb, h'.up hb⟩
theorem LkBox.past {B g : Nat} {S : Nat → Prop} {l : Lk} {w w' : World} (h : LkBox B g l w) (ht : Touch S w w') (hs : ∀ z, S z → z < B) (hg : ¬ S g) : LkBox B g l w' := by obtain ⟨a, c, a', c', e, h, h'⟩ := h; exact ⟨a, c, a', c', e.touch ht hg, h.past ht hs, h'.past ht hs⟩
set_option maxRecDepth 100000 in
set_option maxHeartbeats 6000000 in
theorem linkGap_walk (w : World) (hg : Good w) (r : Raw) (hk : r.ok) (a1 : Option Addr) (n1 c1 : Nat) (l1 : List Raw) (r1 : RdS (· < w.heap.size) w l1 a1 n1 c1) :
    Calls Tryd.prog 6 #[rawV r, .slice a1 n1 c1] w fun e w' => e = .returned (.bool true) ∧ Below w.heap.size w w' := by
  have HX := Lib.hid (fun W (hb : Below w.heap.size w W) => frame_go r l1 a1 n1 c1 W (r1.go hb) hk)
  obtain ⟨fo, ff1, ff2, ff3, ff4, ff5⟩ := frame_ok r l1
  generalize frameOf r l1 = f at *
  have hfo : f.check = 0 := fo
  have hff : f.fits := ⟨ff1, ff2, ff3, ff4⟩
  have HO := Lib.hid (fun W => open_any 2 W (by unfold I64; omega))
  rw [show openLk 2 = ⟨2, 1, [], [], 0⟩ from rfl, show openE 2 = 0 from rfl] at HO
  have HS1 := Lib.hid (fun vl vf B W hg h1 h2 => send_val (lkF f 0) f vl vf B W hg h1 h2 (lkF_fits (by omega)) hff (by simp [lkF]))
  rw [(lkF_send hfo (k := 0) (by omega)).1, (lkF_send hfo (k := 0) (by omega)).2.1, (lkF_send hfo (k := 0) (by omega)).2.2] at HS1
  have HS2 := Lib.hid (fun vl vf B W hg h1 h2 => send_val (lkF f 1) f vl vf B W hg h1 h2 (lkF_fits (by omega)) hff (by simp [lkF]))
  rw [(lkF_send hfo (k := 1) (by omega)).1, (lkF_send hfo (k := 1) (by omega)).2.1, (lkF_send hfo (k := 1) (by omega)).2.2] at HS2
  have L0 : Hid (∀ g w, Blk g (.cells #[.int .i64 2, .int .i64 1, .slice none 0 0, .slice none 0 0, .int .i64 0] 33 (0, 0)) w → ∀ B, LkBox B g (lkF f 0) w) := fun g w hb B => ⟨none, 0, none, 0, hb, RdS.nil _ _, RdS.nil _ _⟩
  have Hg := Lib.hid hg
  clear hg fo ff1 ff2 ff3 ff4 ff5 hk r1
  obtain ⟨rk, xa, xb, xc, xt⟩ := r
  unfold rawV at HX ⊢
  simp only at HX ⊢
  have Hfo := Lib.hid hfo
  have Hff := Lib.hid hff
  clear hfo hff
  generalize hl0 : lkF f 0 = l0 at *
  generalize hl1 : lkF f 1 = l1' at *
  generalize hl2 : lkF f 2 = l2 at *
  generalize hp1 : pkF f 1 = p1 at *
  generalize hp2 : pkF f 2 = p2 at *
  go_enter Tryd.func6, Tryd.ntmps6
  go_wp2_with fail
  refine (HO.out _).mono ?_
  rintro e w1 ⟨rfl, b1⟩
  have bx0 := Lib.hid ((Blk.new w (.cells #[.int .i64 rk, .int .i64 xa, .int .i64 xb, .int .i64 xc, .string xt] 42)).go b1)
  have B1 := Lib.hid (up ((Below.refl w.heap.size w).alloc (Nat.le_refl _) _) b1)
  have hz1 := bx0.out.lt
  clear b1
  go_wp2_with fail
  refine (HO.out _).mono ?_
  rintro e w2 ⟨rfl, b2⟩
  have bx1 := Lib.hid ((Blk.new w1 (.cells #[.int .i64 2, .int .i64 1, .slice none 0 0, .slice none 0 0, .int .i64 0] 33)).go b2)
  have hb12 : Below w1.heap.size w1 w2 := up ((Below.refl w1.heap.size w1).alloc (Nat.le_refl _) _) b2
  have bx0 := Lib.hid (bx0.out.go hb12)
  have B2 := Lib.hid (up B1.out hb12)
  have hz2 := bx1.out.lt
  clear b2 hb12 B1 HO
  go_wp2_with fail
  refine abs_w (fun W => Below w2.heap.size w2 W ∧ Blk w2.heap.size (.cells #[.int .i64 2, .int .i64 1, .slice none 0 0, .slice none 0 0, .int .i64 0] 33 (0, 0)) W) ⟨(Below.refl _ _).alloc (Nat.le_refl _) _, Blk.new w2 _⟩ ?_
  rintro w3 ⟨b3, x3⟩
  have hz3 := x3.lt
  have X0 := Lib.hid (bx0.out.go b3)
  have X1 := Lib.hid (L0.out _ _ (bx1.out.go b3) w3.heap.size)
  have X2 := Lib.hid x3
  have B3 := Lib.hid (up B2.out b3)
  clear b3 x3 bx0 bx1 B2
  obtain ⟨Vp, HV⟩ : ∃ Vp : Nat → Value → World → Prop, Hid (Vp = fun i v W => match i with
      | 0 => ∃ y, v = y ∧ LkVal w3.heap.size l0 y W
      | 1 => v = .agg #[.int .i64 rk, .int .i64 xa, .int .i64 xb, .int .i64 xc, .string xt]
      | 2 => v = .slice a1 n1 c1
      | 3 => ∃ y, v = y ∧ FrV w3.heap.size f y W
      | 4 => ∃ y z, v = .tuple #[y, z, .int .i64 0] ∧ LkVal w3.heap.size l1' y W ∧ PsVal w3.heap.size [p1] z W
      | 5 => ∃ y z, v = .tuple #[y, z, .int .i64 0] ∧ LkVal w3.heap.size l1' y W ∧ PsVal w3.heap.size [p1] z W
      | 6 => ∃ y, v = y ∧ LkVal w3.heap.size l1' y W
      | 7 => ∃ y, v = y ∧ PsVal w3.heap.size [p1] y W
      | 8 => v = .int .i64 0
      | 9 => v = undef
      | 10 => ∃ y, v = y ∧ PsVal w3.heap.size [p1] y W
      | _ => v = .int .i64 0) := ⟨_, rfl⟩
  obtain ⟨Ip, HIp⟩ : ∃ Ip : (Nat → Bool) → (Nat → Value) → World → Prop, Hid (Ip = fun L x W => (Touch (fun z => z = w1.heap.size) w3 W ∧ (L 9 = false → LkBox w3.heap.size w1.heap.size l0 W) ∧ (L 9 = true → LkBox w3.heap.size w1.heap.size l1' W))) := ⟨_, rfl⟩
  refine region_lit3 (by kernel_rfl) (by kernel_rfl) (by kernel_rfl) [[], [], [], [1, 2], [0, 1, 2, 3], [0, 1, 2, 3, 4], [0, 1, 2, 3, 4, 5], [0, 1, 2, 3, 4, 5], [0, 1, 2, 3, 4, 5], [0, 1, 2, 3, 4, 5, 6], [0, 1, 2, 3, 4, 5, 7], [0, 1, 2, 3, 4, 5, 8]] (by kernel_rfl) [some 38, some 39, some 40, some 41, some 42, some 37, some 43, some 44, some 45, none, some 9, some 10] (by kernel_rfl) [[0, 4, 5, 6, 7, 8, 9, 10, 11], [1, 3, 4, 5, 6, 7, 8, 9, 10, 11], [2, 3, 4, 5, 6, 7, 8, 9, 10, 11], [3, 4, 5, 6, 7, 8, 9, 10, 11], [4, 5, 6, 7, 8, 9, 10, 11], [5, 6, 7, 8, 9, 10, 11], [6, 9], [7, 10], [8, 11], [9], [10], [11]] (by kernel_rfl) [[], [], [], [], [], [], [], [], [], [], [], []] [[], [], [], [1, 2], [0, 3], [4], [5], [5], [5], [6], [7], [8]] (by kernel_rfl)
    Ip
    Vp
    (fun j W W' => match j with
      | 9 => Touch (fun z => z = w1.heap.size) W W'
      | _ => Below W.heap.size W W')
    [fun x => ⟨#[undef, undef, undef, undef, undef, .pointer (some ⟨w1.heap.size, 0, none⟩), undef, undef, undef, undef, undef, undef, undef, undef, undef, undef, undef, undef, undef, undef, undef, undef, undef, undef, undef, undef, undef, undef, undef, undef, undef, undef, undef, undef, undef, undef, undef, undef, undef], []⟩,
   fun x => ⟨#[undef, undef, .pointer (some ⟨w.heap.size, 0, none⟩), undef, undef, undef, undef, undef, undef, undef, undef, undef, undef, undef, undef, undef, undef, undef, undef, undef, undef, undef, undef, undef, undef, undef, undef, undef, undef, undef, undef, undef, undef, undef, undef, undef, undef, undef, undef, undef], []⟩,
   fun x => ⟨#[undef, .slice a1 n1 c1, undef, undef, undef, undef, undef, undef, undef, undef, undef, undef, undef, undef, undef, undef, undef, undef, undef, undef, undef, undef, undef, undef, undef, undef, undef, undef, undef, undef, undef, undef, undef, undef, undef, undef, undef, undef, undef, undef, undef], []⟩,
   fun x => ⟨#[undef, undef, undef, undef, undef, undef, undef, undef, undef, undef, undef, undef, undef, undef, undef, undef, undef, undef, undef, undef, undef, undef, undef, undef, undef, undef, undef, undef, undef, undef, undef, undef, undef, undef, undef, undef, undef, undef, undef, x 1, x 2, undef], []⟩,
   fun x => ⟨#[undef, undef, undef, undef, undef, undef, undef, undef, undef, undef, undef, undef, undef, undef, undef, undef, undef, undef, undef, undef, undef, undef, undef, undef, undef, undef, undef, undef, undef, undef, undef, undef, undef, undef, undef, undef, undef, undef, x 0, undef, undef, x 3, undef], []⟩,
   fun x => ⟨#[undef, undef, undef, undef, undef, undef, undef, undef, undef, undef, undef, undef, undef, undef, undef, undef, undef, undef, undef, undef, undef, undef, undef, undef, undef, undef, undef, undef, undef, undef, undef, undef, undef, undef, undef, undef, undef, undef, undef, undef, undef, undef, x 4], []⟩,
   fun x => ⟨#[undef, undef, undef, undef, undef, undef, undef, undef, undef, undef, undef, undef, undef, undef, undef, undef, undef, undef, undef, undef, undef, undef, undef, undef, undef, undef, undef, undef, undef, undef, undef, undef, undef, undef, undef, undef, undef, x 5, undef, undef, undef, undef, undef, undef], []⟩,
   fun x => ⟨#[undef, undef, undef, undef, undef, undef, undef, undef, undef, undef, undef, undef, undef, undef, undef, undef, undef, undef, undef, undef, undef, undef, undef, undef, undef, undef, undef, undef, undef, undef, undef, undef, undef, undef, undef, undef, undef, x 5, undef, undef, undef, undef, undef, undef, undef], []⟩,
   fun x => ⟨#[undef, undef, undef, undef, undef, undef, undef, undef, undef, undef, undef, undef, undef, undef, undef, undef, undef, undef, undef, undef, undef, undef, undef, undef, undef, undef, undef, undef, undef, undef, undef, undef, undef, undef, undef, undef, undef, x 5, undef, undef, undef, undef, undef, undef, undef, undef], []⟩,
   fun x => ⟨#[undef, undef, undef, undef, undef, .pointer (some ⟨w1.heap.size, 0, none⟩), undef, undef, undef, undef, undef, undef, undef, undef, undef, undef, undef, undef, undef, undef, undef, undef, undef, undef, undef, undef, undef, undef, undef, undef, undef, undef, undef, undef, undef, undef, undef, undef, undef, undef, undef, undef, undef, x 6], []⟩,
   fun x => ⟨#[undef, undef, undef, undef, undef, undef, undef, undef, undef, undef, undef, undef, undef, undef, undef, undef, undef, undef, undef, undef, undef, undef, undef, undef, undef, undef, undef, undef, undef, undef, undef, undef, undef, undef, undef, undef, undef, undef, undef, undef, undef, undef, undef, undef, x 7], []⟩,
   fun x => ⟨#[undef, undef, undef, undef, undef, undef, undef, undef, undef, undef, undef, undef, undef, undef, undef, undef, undef, undef, undef, undef, undef, undef, undef, undef, undef, undef, undef, undef, undef, undef, undef, undef, undef, undef, undef, undef, undef, undef, undef, undef, undef, undef, undef, undef, undef, x 8], []⟩]
    ?hF ?mono ?h0 ?step [0, 1, 2, 3, 4, 5, 6, 7, 8, 9, 10, 11] (by kernel_rfl) ?fin
  case hF =>
    exact ⟨fun x => ⟨by kernel_rfl, by kernel_rfl⟩, fun x => ⟨by kernel_rfl, by kernel_rfl⟩, fun x => ⟨by kernel_rfl, by kernel_rfl⟩, fun x => ⟨by kernel_rfl, by kernel_rfl⟩, fun x => ⟨by kernel_rfl, by kernel_rfl⟩, fun x => ⟨by kernel_rfl, by kernel_rfl⟩, fun x => ⟨by kernel_rfl, by kernel_rfl⟩, fun x => ⟨by kernel_rfl, by kernel_rfl⟩, fun x => ⟨by kernel_rfl, by kernel_rfl⟩, fun x => ⟨by kernel_rfl, by kernel_rfl⟩, fun x => ⟨by kernel_rfl, by kernel_rfl⟩, fun x => ⟨by kernel_rfl, by kernel_rfl⟩, trivial⟩
  case mono =>
    intro i j hi hj hne hna hnk v W W' hE hv
    rw [HV.out] at hv ⊢
    simp only [List.length_cons, List.length_nil] at hi hj
    match i, hi with
    | 1, _ | 2, _ | 8, _ | 9, _ | 11, _ => exact hv
    | 0, _ =>
      match j, hj with
      | 0, _ => exact absurd rfl hne
      | 1, _ => exact (by obtain ⟨y, e, h⟩ := hv; exact ⟨y, e, h.go hE⟩)
      | 2, _ => exact (by obtain ⟨y, e, h⟩ := hv; exact ⟨y, e, h.go hE⟩)
      | 3, _ => exact (by obtain ⟨y, e, h⟩ := hv; exact ⟨y, e, h.go hE⟩)
      | 4, _ => exact (by obtain ⟨y, e, h⟩ := hv; exact ⟨y, e, h.go hE⟩)
      | 5, _ => exact (by obtain ⟨y, e, h⟩ := hv; exact ⟨y, e, h.go hE⟩)
      | 6, _ => exact (by obtain ⟨y, e, h⟩ := hv; exact ⟨y, e, h.go hE⟩)
      | 7, _ => exact (by obtain ⟨y, e, h⟩ := hv; exact ⟨y, e, h.go hE⟩)
      | 8, _ => exact (by obtain ⟨y, e, h⟩ := hv; exact ⟨y, e, h.go hE⟩)
      | 9, _ => exact (by obtain ⟨y, e, h⟩ := hv; exact ⟨y, e, h.past hE (fun z hz => by omega)⟩)
      | 10, _ => exact (by obtain ⟨y, e, h⟩ := hv; exact ⟨y, e, h.go hE⟩)
      | 11, _ => exact (by obtain ⟨y, e, h⟩ := hv; exact ⟨y, e, h.go hE⟩)
      | m + 12, h => exact absurd h (by omega)
    | 3, _ =>
      match j, hj with
      | 3, _ => exact absurd rfl hne
      | 1, _ => exact absurd (by simp) hna
      | 2, _ => exact absurd (by simp) hna
      | 0, _ => exact (by obtain ⟨y, e, h⟩ := hv; exact ⟨y, e, h.go hE⟩)
      | 4, _ => exact (by obtain ⟨y, e, h⟩ := hv; exact ⟨y, e, h.go hE⟩)
      | 5, _ => exact (by obtain ⟨y, e, h⟩ := hv; exact ⟨y, e, h.go hE⟩)
      | 6, _ => exact (by obtain ⟨y, e, h⟩ := hv; exact ⟨y, e, h.go hE⟩)
      | 7, _ => exact (by obtain ⟨y, e, h⟩ := hv; exact ⟨y, e, h.go hE⟩)
      | 8, _ => exact (by obtain ⟨y, e, h⟩ := hv; exact ⟨y, e, h.go hE⟩)
      | 9, _ => exact (by obtain ⟨y, e, h⟩ := hv; exact ⟨y, e, h.past hE (fun z hz => by omega)⟩)
      | 10, _ => exact (by obtain ⟨y, e, h⟩ := hv; exact ⟨y, e, h.go hE⟩)
      | 11, _ => exact (by obtain ⟨y, e, h⟩ := hv; exact ⟨y, e, h.go hE⟩)
      | m + 12, h => exact absurd h (by omega)
    | 4, _ =>
      match j, hj with
      | 4, _ => exact absurd rfl hne
      | 0, _ => exact absurd (by simp) hna
      | 1, _ => exact absurd (by simp) hna
      | 2, _ => exact absurd (by simp) hna
      | 3, _ => exact absurd (by simp) hna
      | 5, _ => exact (by obtain ⟨y, z, e, h, k⟩ := hv; exact ⟨y, z, e, h.go hE, k.go hE⟩)
      | 6, _ => exact (by obtain ⟨y, z, e, h, k⟩ := hv; exact ⟨y, z, e, h.go hE, k.go hE⟩)
      | 7, _ => exact (by obtain ⟨y, z, e, h, k⟩ := hv; exact ⟨y, z, e, h.go hE, k.go hE⟩)
      | 8, _ => exact (by obtain ⟨y, z, e, h, k⟩ := hv; exact ⟨y, z, e, h.go hE, k.go hE⟩)
      | 9, _ => exact (by obtain ⟨y, z, e, h, k⟩ := hv; exact ⟨y, z, e, h.past hE (fun z hz => by omega), k.past hE (fun z hz => by omega)⟩)
      | 10, _ => exact (by obtain ⟨y, z, e, h, k⟩ := hv; exact ⟨y, z, e, h.go hE, k.go hE⟩)
      | 11, _ => exact (by obtain ⟨y, z, e, h, k⟩ := hv; exact ⟨y, z, e, h.go hE, k.go hE⟩)
      | m + 12, h => exact absurd h (by omega)
    | 5, _ =>
      match j, hj with
      | 5, _ => exact absurd rfl hne
      | 0, _ => exact absurd (by simp) hna
      | 1, _ => exact absurd (by simp) hna
      | 2, _ => exact absurd (by simp) hna
      | 3, _ => exact absurd (by simp) hna
      | 4, _ => exact absurd (by simp) hna
      | 6, _ => exact (by obtain ⟨y, z, e, h, k⟩ := hv; exact ⟨y, z, e, h.go hE, k.go hE⟩)
      | 7, _ => exact (by obtain ⟨y, z, e, h, k⟩ := hv; exact ⟨y, z, e, h.go hE, k.go hE⟩)
      | 8, _ => exact (by obtain ⟨y, z, e, h, k⟩ := hv; exact ⟨y, z, e, h.go hE, k.go hE⟩)
      | 9, _ => exact (by obtain ⟨y, z, e, h, k⟩ := hv; exact ⟨y, z, e, h.past hE (fun z hz => by omega), k.past hE (fun z hz => by omega)⟩)
      | 10, _ => exact (by obtain ⟨y, z, e, h, k⟩ := hv; exact ⟨y, z, e, h.go hE, k.go hE⟩)
      | 11, _ => exact (by obtain ⟨y, z, e, h, k⟩ := hv; exact ⟨y, z, e, h.go hE, k.go hE⟩)
      | m + 12, h => exact absurd h (by omega)
    | 6, _ =>
      match j, hj with
      | 6, _ => exact absurd rfl hne
      | 0, _ => exact absurd (by simp) hna
      | 1, _ => exact absurd (by simp) hna
      | 2, _ => exact absurd (by simp) hna
      | 3, _ => exact absurd (by simp) hna
      | 4, _ => exact absurd (by simp) hna
      | 5, _ => exact absurd (by simp) hna
      | 7, _ => exact (by obtain ⟨y, e, h⟩ := hv; exact ⟨y, e, h.go hE⟩)
      | 8, _ => exact (by obtain ⟨y, e, h⟩ := hv; exact ⟨y, e, h.go hE⟩)
      | 9, _ => exact (by obtain ⟨y, e, h⟩ := hv; exact ⟨y, e, h.past hE (fun z hz => by omega)⟩)
      | 10, _ => exact (by obtain ⟨y, e, h⟩ := hv; exact ⟨y, e, h.go hE⟩)
      | 11, _ => exact (by obtain ⟨y, e, h⟩ := hv; exact ⟨y, e, h.go hE⟩)
      | m + 12, h => exact absurd h (by omega)
    | 7, _ =>
      match j, hj with
      | 7, _ => exact absurd rfl hne
      | 0, _ => exact absurd (by simp) hna
      | 1, _ => exact absurd (by simp) hna
      | 2, _ => exact absurd (by simp) hna
      | 3, _ => exact absurd (by simp) hna
      | 4, _ => exact absurd (by simp) hna
      | 5, _ => exact absurd (by simp) hna
      | 6, _ => exact (by obtain ⟨y, e, h⟩ := hv; exact ⟨y, e, h.go hE⟩)
      | 8, _ => exact (by obtain ⟨y, e, h⟩ := hv; exact ⟨y, e, h.go hE⟩)
      | 9, _ => exact (by obtain ⟨y, e, h⟩ := hv; exact ⟨y, e, h.past hE (fun z hz => by omega)⟩)
      | 10, _ => exact (by obtain ⟨y, e, h⟩ := hv; exact ⟨y, e, h.go hE⟩)
      | 11, _ => exact (by obtain ⟨y, e, h⟩ := hv; exact ⟨y, e, h.go hE⟩)
      | m + 12, h => exact absurd h (by omega)
    | 10, _ =>
      match j, hj with
      | 10, _ => exact absurd rfl hne
      | 0, _ => exact absurd (by simp) hna
      | 1, _ => exact absurd (by simp) hna
      | 2, _ => exact absurd (by simp) hna
      | 3, _ => exact absurd (by simp) hna
      | 4, _ => exact absurd (by simp) hna
      | 5, _ => exact absurd (by simp) hna
      | 7, _ => exact absurd (by simp) hna
      | 6, _ => exact (by obtain ⟨y, e, h⟩ := hv; exact ⟨y, e, h.go hE⟩)
      | 8, _ => exact (by obtain ⟨y, e, h⟩ := hv; exact ⟨y, e, h.go hE⟩)
      | 9, _ => exact (by obtain ⟨y, e, h⟩ := hv; exact ⟨y, e, h.past hE (fun z hz => by omega)⟩)
      | 11, _ => exact (by obtain ⟨y, e, h⟩ := hv; exact ⟨y, e, h.go hE⟩)
      | m + 12, h => exact absurd h (by omega)
    | m + 12, h => exact absurd h (by omega)
  case h0 => intro x; exact toI HIp ⟨(Touch.refl _ _).drew, fun _ => X1.out, fun h => by cases h⟩
  case step =>
    refine ⟨?_, ?_, ?_, ?_, ?_, ?_, ?_, ?_, ?_, ?_, ?_, ?_, trivial⟩
    all_goals
      intro x W L hI hL hV
      replace hI : (Touch (fun z => z = w1.heap.size) w3 W ∧ (L 9 = false → LkBox w3.heap.size w1.heap.size l0 W) ∧ (L 9 = true → LkBox w3.heap.size w1.heap.size l1' W)) := ofI HIp hI
      rw [HV.out] at hV
      simp only [AllV, and_true] at hV
    · clear hV
      (try dsimp only)
      obtain ⟨sa, sc, qa, qc, bb, ra, rb⟩ := hI.2.1 (hL.2 9 (by simp))
      obtain ⟨q0, q1, q2, q3, q4⟩ := blk_cells5 bb
      have HI := Lib.hid hI
      have RR := Lib.hid (And.intro ra rb)
      clear hI bb ra rb
      go_wp2_with fail
      refine step3_done rfl ?_ ?_ ?_
      · exact (toI HIp HI.out)
      · exact (Below.refl _ _)
      · exact (toV HV ⟨_, rfl, sa, sc, qa, qc, rfl, RR.out.1, RR.out.2⟩)
    · clear hV
      (try dsimp only)
      have bb := X0.out.touch hI.1 (by omega)
      obtain ⟨q0, q1, q2, q3, q4⟩ := blk_cells5 bb
      have HI := Lib.hid hI
      clear hI bb
      go_wp2_with fail
      refine step3_done rfl ?_ ?_ ?_
      · exact (toI HIp HI.out)
      · exact (Below.refl _ _)
      · exact (toV HV rfl)
    · clear hV
      (try dsimp only)
      have HI := Lib.hid hI
      clear hI
      go_wp2_with fail
      refine step3_done rfl ?_ ?_ ?_
      · exact (toI HIp HI.out)
      · exact (Below.refl _ _)
      · exact (toV HV rfl)
    · obtain ⟨u1, u2⟩ := hV
      simp only [u1, u2]
      clear u1 u2
      have HL := Lib.hid hL
      have HI := Lib.hid hI
      have hbW := B3.out.trans (hI.1.toBelow (B := w.heap.size) (by omega) (fun k hk => by omega))
      have hzW := hI.1.size
      clear hI hL
      go_wp2_with fail
      refine (HX.out _ hbW).mono ?_
      rintro e W' ⟨fa, fc, rfl, rx, hb⟩
      go_wp2_with fail
      refine step3_done rfl ?_ ?_ ?_
      · exact (toI HIp ⟨HI.out.1.then_ (Touch.of_below (S := fun _ => False) hb) (fun _ _ h => h.elim), (fun h => (HI.out.2.1 h).go hb), (fun h => (HI.out.2.2 h).go hb)⟩)
      · exact hb
      · exact (toV HV ⟨_, rfl, fa, fc, rfl, rx.deep hzW⟩)
    · obtain ⟨⟨y0, u0, h0⟩, ⟨y3, u3, h3⟩⟩ := hV
      simp only [u0, u3]
      have U0 := Lib.hid u0
      have U3 := Lib.hid u3
      clear u0 u3
      have HL := Lib.hid hL
      have HI := Lib.hid hI
      have hbW := B3.out.trans (hI.1.toBelow (B := w.heap.size) (by omega) (fun k hk => by omega))
      have hzW := hI.1.size
      clear hI hL
      go_wp2_with fail
      refine (HS1.out _ _ _ _ (Hg.out.go hbW) h0 h3).mono ?_
      rintro e W' ⟨ul, up', rfl, rl, rp, hb⟩
      go_wp2_with fail
      refine step3_done rfl ?_ ?_ ?_
      · exact (toI HIp ⟨HI.out.1.then_ (Touch.of_below (S := fun _ => False) hb) (fun _ _ h => h.elim), (fun h => (HI.out.2.1 h).go hb), (fun h => (HI.out.2.2 h).go hb)⟩)
      · exact hb
      · exact (toV HV ⟨_, _, rfl, rl.deep hzW, rp.deep hzW⟩)
    · obtain ⟨y4, z4, u4, h4, k4⟩ := hV
      simp only [u4]
      have U4 := Lib.hid u4
      clear u4
      have HI := Lib.hid hI
      clear hI
      go_wp2_with fail
      refine step3_done rfl ?_ ?_ ?_
      · exact (toI HIp HI.out)
      · exact (Below.refl _ _)
      · exact (toV HV ⟨_, _, rfl, h4, k4⟩)
    · obtain ⟨y5, z5, u5, h5, k5⟩ := hV
      simp only [u5]
      have U5 := Lib.hid u5
      clear u5
      have HI := Lib.hid hI
      clear hI
      go_wp2_with fail
      refine step3_done rfl ?_ ?_ ?_
      · exact (toI HIp HI.out)
      · exact (Below.refl _ _)
      · exact (toV HV ⟨_, rfl, h5⟩)
    · obtain ⟨y5, z5, u5, h5, k5⟩ := hV
      simp only [u5]
      have U5 := Lib.hid u5
      clear u5
      have HI := Lib.hid hI
      clear hI
      go_wp2_with fail
      refine step3_done rfl ?_ ?_ ?_
      · exact (toI HIp HI.out)
      · exact (Below.refl _ _)
      · exact (toV HV ⟨_, rfl, k5⟩)
    · obtain ⟨y5, z5, u5, h5, k5⟩ := hV
      simp only [u5]
      have U5 := Lib.hid u5
      clear u5
      have HI := Lib.hid hI
      clear hI
      go_wp2_with fail
      refine step3_done rfl ?_ ?_ ?_
      · exact (toI HIp HI.out)
      · exact (Below.refl _ _)
      · exact (toV HV rfl)
    · obtain ⟨y6, u6, h6⟩ := hV
      simp only [u6]
      have U6 := Lib.hid u6
      clear u6
      obtain ⟨sa, sc, qa, qc, bb, ra, rb⟩ := hI.2.1 (hL.2 9 (by simp))
      obtain ⟨sb, sd, qb, qd, rfl, rs, rq⟩ := h6
      obtain ⟨q0, q1, q2, q3, q4⟩ := blk_cells5 bb
      have fW := bb.frozen
      have B7 := Lib.hid (blk_set5 bb (.int .i64 l1'.epoch) (.int .i64 l1'.next) (.slice sb l1'.sent.length sd) (.slice qb l1'.queue.length qd) (.int .i64 l1'.heard))
      have HT := Lib.hid (touch5 W w1.heap.size (.int .i64 l1'.epoch) (.int .i64 l1'.next) (.slice sb l1'.sent.length sd) (.slice qb l1'.queue.length qd) (.int .i64 l1'.heard))
      have HI := Lib.hid hI
      have RR := Lib.hid (And.intro rs rq)
      clear hI bb ra rb rs rq
      go_wp2_with fail
      refine step3_done (v := undef) rfl ?_ ?_ ?_
      · exact (toI HIp ⟨HI.out.1.then_ HT.out (fun k _ hk => hk), (fun h => absurd h (by simp [setB])), fun _ => ⟨sb, sd, qb, qd, B7.out, RR.out.1.past HT.out (fun z hz => by omega), RR.out.2.past HT.out (fun z hz => by omega)⟩⟩)
      · exact HT.out
      · exact (toV HV rfl)
    · obtain ⟨y7, u7, h7⟩ := hV
      simp only [u7]
      have U7 := Lib.hid u7
      clear u7
      have HI := Lib.hid hI
      clear hI
      go_wp2_with fail
      refine step3_done rfl ?_ ?_ ?_
      · exact (toI HIp HI.out)
      · exact (Below.refl _ _)
      · exact (toV HV ⟨_, rfl, h7⟩)
    · have u8 := hV
      clear hV
      simp only [u8]
      clear u8
      have HI := Lib.hid hI
      clear hI
      go_wp2_with fail
      refine step3_done rfl ?_ ?_ ?_
      · exact (toI HIp HI.out)
      · exact (Below.refl _ _)
      · exact (toV HV rfl)
  case fin =>
    intro x W L hL hI hV
    replace hI : (Touch (fun z => z = w1.heap.size) w3 W ∧ (L 9 = false → LkBox w3.heap.size w1.heap.size l0 W) ∧ (L 9 = true → LkBox w3.heap.size w1.heap.size l1' W)) := ofI HIp hI
    rw [HV.out] at hV
    simp only [AllV, and_true] at hV
    obtain ⟨⟨y0, u0, h0⟩, u1, u2, ⟨y3, u3, h3⟩, ⟨y4, z4, u4, h4, k4⟩, ⟨y5, z5, u5, h5, k5⟩, ⟨y6, u6, h6⟩, ⟨y7, u7, h7⟩, u8, u9, ⟨y10, u10, h10⟩, u11⟩ := hV
    simp only [getsD, List.getD_cons_succ, List.getD_cons_zero, List.length_cons, List.length_nil, List.range, List.range.loop, u0, u1, u2, u3, u4, u5, u6, u7, u8, u9, u10, u11, Act.put, List.setIfInBounds_toArray, List.set_cons_succ, List.set_cons_zero]
    clear u0 u1 u2 u3 u4 u5 u6 u7 u8 u9 u10 u11
    have hb3 := hI.1
    have hx1 := hI.2.2 (hL 9 (by simp))
    clear hL hI
    have hbW := B3.out.trans (hb3.toBelow (B := w.heap.size) (by omega) (fun k hk => by omega))
    have B4 := Lib.hid hbW
    have X1' := Lib.hid hx1
    have X0' := Lib.hid (X0.out.touch hb3 (by omega))
    have X2' := Lib.hid (X2.out.touch hb3 (by omega))
    have hz4 := hb3.size
    have K10 := Lib.hid h10
    obtain ⟨w4, rfl⟩ : ∃ x : World, x = W := ⟨_, rfl⟩
    clear hb3 hx1 hbW X0 X1 X2 B3 h10 HS1
    go_wp2_with fail
    obtain ⟨Vp, HV⟩ : ∃ Vp : Nat → Value → World → Prop, Hid (Vp = fun i v W => match i with
        | 0 => ∃ y, v = y ∧ LkVal w3.heap.size l1' y W
        | 1 => v = .agg #[.int .i64 rk, .int .i64 xa, .int .i64 xb, .int .i64 xc, .string xt]
        | 2 => v = .slice a1 n1 c1
        | 3 => ∃ y, v = y ∧ FrV w3.heap.size f y W
        | 4 => ∃ d0 d1 d2 d3 z, v = .tuple #[.agg #[.int .i64 l2.epoch, .int .i64 l2.next, .slice d0 l2.sent.length d1, .slice d2 l2.queue.length d3, .int .i64 l2.heard], z, .int .i64 0] ∧ PsVal w3.heap.size [p2] z W
        | 5 => ∃ d0 d1 d2 d3 z, v = .tuple #[.agg #[.int .i64 l2.epoch, .int .i64 l2.next, .slice d0 l2.sent.length d1, .slice d2 l2.queue.length d3, .int .i64 l2.heard], z, .int .i64 0] ∧ PsVal w3.heap.size [p2] z W
        | 6 => ∃ d0 d1 d2 d3, v = .agg #[.int .i64 l2.epoch, .int .i64 l2.next, .slice d0 l2.sent.length d1, .slice d2 l2.queue.length d3, .int .i64 l2.heard]
        | 7 => ∃ y, v = y ∧ PsVal w3.heap.size [p2] y W
        | 8 => v = .int .i64 0
        | 9 => ∃ g, v = .pointer (some ⟨g, 0, none⟩) ∧ w4.heap.size ≤ g ∧ Blk g (.cells #[.int .i64 0, .int .i64 0, .slice none 0 0, .slice none 0 0, .int .i64 0] 33 (0, 0)) W
        | 10 => v = undef
        | 11 => ∃ y, v = y ∧ PsVal w3.heap.size [p2] y W
        | _ => v = .int .i64 0) := ⟨_, rfl⟩
    obtain ⟨Ip, HIp⟩ : ∃ Ip : (Nat → Bool) → (Nat → Value) → World → Prop, Hid (Ip = fun L x W => (Below w4.heap.size w4 W)) := ⟨_, rfl⟩
    refine region_lit3 (by kernel_rfl) (by kernel_rfl) (by kernel_rfl) [[], [], [], [1, 2], [0, 1, 2, 3], [0, 1, 2, 3, 4], [0, 1, 2, 3, 4, 5], [0, 1, 2, 3, 4, 5], [0, 1, 2, 3, 4, 5], [], [0, 1, 2, 3, 4, 5, 6, 9], [0, 1, 2, 3, 4, 5, 7], [0, 1, 2, 3, 4, 5, 8]] (by kernel_rfl) [some 47, some 48, some 49, some 50, some 51, some 46, some 52, some 53, some 54, some 11, none, some 12, some 13] (by kernel_rfl) [[0, 4, 5, 6, 7, 8, 10, 11, 12], [1, 3, 4, 5, 6, 7, 8, 10, 11, 12], [2, 3, 4, 5, 6, 7, 8, 10, 11, 12], [3, 4, 5, 6, 7, 8, 10, 11, 12], [4, 5, 6, 7, 8, 10, 11, 12], [5, 6, 7, 8, 10, 11, 12], [6, 10], [7, 11], [8, 12], [9, 10], [10], [11], [12]] (by kernel_rfl) [[10], [], [], [10], [], [], [], [], [], [10], [], [], []] [[], [], [], [1, 2], [0, 3], [4], [5], [5], [5], [], [6, 9], [7], [8]] (by kernel_rfl)
      Ip
      Vp
      (fun j W W' => match j with
        | 10 => ∃ g, Blk g (.cells #[.int .i64 0, .int .i64 0, .slice none 0 0, .slice none 0 0, .int .i64 0] 33 (0, 0)) W ∧ Touch (fun z => z = g) W W' ∧ w4.heap.size ≤ g
        | _ => Below W.heap.size W W')
      [fun x => ⟨#[undef, undef, undef, undef, undef, .pointer (some ⟨w1.heap.size, 0, none⟩), undef, undef, undef, undef, undef, undef, undef, undef, undef, undef, undef, undef, undef, undef, undef, undef, undef, undef, undef, undef, undef, undef, undef, undef, undef, undef, undef, undef, undef, undef, undef, undef, undef, undef, undef, undef, undef, undef, undef, undef, undef, undef], []⟩,
   fun x => ⟨#[undef, undef, .pointer (some ⟨w.heap.size, 0, none⟩), undef, undef, undef, undef, undef, undef, undef, undef, undef, undef, undef, undef, undef, undef, undef, undef, undef, undef, undef, undef, undef, undef, undef, undef, undef, undef, undef, undef, undef, undef, undef, undef, undef, undef, undef, undef, undef, undef, undef, undef, undef, undef, undef, undef, undef, undef], []⟩,
   fun x => ⟨#[undef, .slice a1 n1 c1, undef, undef, undef, undef, undef, undef, undef, undef, undef, undef, undef, undef, undef, undef, undef, undef, undef, undef, undef, undef, undef, undef, undef, undef, undef, undef, undef, undef, undef, undef, undef, undef, undef, undef, undef, undef, undef, undef, undef, undef, undef, undef, undef, undef, undef, undef, undef, undef], []⟩,
   fun x => ⟨#[undef, undef, undef, undef, undef, undef, undef, undef, undef, undef, undef, undef, undef, undef, undef, undef, undef, undef, undef, undef, undef, undef, undef, undef, undef, undef, undef, undef, undef, undef, undef, undef, undef, undef, undef, undef, undef, undef, undef, undef, undef, undef, undef, undef, undef, undef, undef, undef, x 1, x 2, undef], []⟩,
   fun x => ⟨#[undef, undef, undef, undef, undef, undef, undef, undef, undef, undef, undef, undef, undef, undef, undef, undef, undef, undef, undef, undef, undef, undef, undef, undef, undef, undef, undef, undef, undef, undef, undef, undef, undef, undef, undef, undef, undef, undef, undef, undef, undef, undef, undef, undef, undef, undef, undef, x 0, undef, undef, x 3, undef], []⟩,
   fun x => ⟨#[undef, undef, undef, undef, undef, undef, undef, undef, undef, undef, undef, undef, undef, undef, undef, undef, undef, undef, undef, undef, undef, undef, undef, undef, undef, undef, undef, undef, undef, undef, undef, undef, undef, undef, undef, undef, undef, undef, undef, undef, undef, undef, undef, undef, undef, undef, undef, undef, undef, undef, undef, x 4], []⟩,
   fun x => ⟨#[undef, undef, undef, undef, undef, undef, undef, undef, undef, undef, undef, undef, undef, undef, undef, undef, undef, undef, undef, undef, undef, undef, undef, undef, undef, undef, undef, undef, undef, undef, undef, undef, undef, undef, undef, undef, undef, undef, undef, undef, undef, undef, undef, undef, undef, undef, x 5, undef, undef, undef, undef, undef, undef], []⟩,
   fun x => ⟨#[undef, undef, undef, undef, undef, undef, undef, undef, undef, undef, undef, undef, undef, undef, undef, undef, undef, undef, undef, undef, undef, undef, undef, undef, undef, undef, undef, undef, undef, undef, undef, undef, undef, undef, undef, undef, undef, undef, undef, undef, undef, undef, undef, undef, undef, undef, x 5, undef, undef, undef, undef, undef, undef, undef], []⟩,
   fun x => ⟨#[undef, undef, undef, undef, undef, undef, undef, undef, undef, undef, undef, undef, undef, undef, undef, undef, undef, undef, undef, undef, undef, undef, undef, undef, undef, undef, undef, undef, undef, undef, undef, undef, undef, undef, undef, undef, undef, undef, undef, undef, undef, undef, undef, undef, undef, undef, x 5, undef, undef, undef, undef, undef, undef, undef, undef], []⟩,
   fun x => ⟨#[undef, undef, undef, undef, undef, undef, undef, undef, undef, undef, undef, undef], []⟩,
   fun x => ⟨#[undef, undef, undef, undef, undef, undef, undef, undef, undef, undef, undef, x 9, undef, undef, undef, undef, undef, undef, undef, undef, undef, undef, undef, undef, undef, undef, undef, undef, undef, undef, undef, undef, undef, undef, undef, undef, undef, undef, undef, undef, undef, undef, undef, undef, undef, undef, undef, undef, undef, undef, undef, undef, x 6], []⟩,
   fun x => ⟨#[undef, undef, undef, undef, undef, undef, undef, undef, undef, undef, undef, undef, undef, undef, undef, undef, undef, undef, undef, undef, undef, undef, undef, undef, undef, undef, undef, undef, undef, undef, undef, undef, undef, undef, undef, undef, undef, undef, undef, undef, undef, undef, undef, undef, undef, undef, undef, undef, undef, undef, undef, undef, undef, x 7], []⟩,
   fun x => ⟨#[undef, undef, undef, undef, undef, undef, undef, undef, undef, undef, undef, undef, undef, undef, undef, undef, undef, undef, undef, undef, undef, undef, undef, undef, undef, undef, undef, undef, undef, undef, undef, undef, undef, undef, undef, undef, undef, undef, undef, undef, undef, undef, undef, undef, undef, undef, undef, undef, undef, undef, undef, undef, undef, undef, x 8], []⟩]
      ?hF ?mono ?h0 ?step [1, 2, 4, 5, 6, 7, 8, 10, 11, 12] (by kernel_rfl) ?fin
    case hF =>
      exact ⟨fun x => ⟨by kernel_rfl, by kernel_rfl⟩, fun x => ⟨by kernel_rfl, by kernel_rfl⟩, fun x => ⟨by kernel_rfl, by kernel_rfl⟩, fun x => ⟨by kernel_rfl, by kernel_rfl⟩, fun x => ⟨by kernel_rfl, by kernel_rfl⟩, fun x => ⟨by kernel_rfl, by kernel_rfl⟩, fun x => ⟨by kernel_rfl, by kernel_rfl⟩, fun x => ⟨by kernel_rfl, by kernel_rfl⟩, fun x => ⟨by kernel_rfl, by kernel_rfl⟩, fun x => ⟨by kernel_rfl, by kernel_rfl⟩, fun x => ⟨by kernel_rfl, by kernel_rfl⟩, fun x => ⟨by kernel_rfl, by kernel_rfl⟩, fun x => ⟨by kernel_rfl, by kernel_rfl⟩, trivial⟩
    case mono =>
      intro i j hi hj hne hna hnk v W W' hE hv
      rw [HV.out] at hv ⊢
      simp only [List.length_cons, List.length_nil] at hi hj
      match i, hi with
      | 1, _ | 2, _ | 8, _ | 10, _ | 12, _ => exact hv
      | 0, _ =>
        match j, hj with
        | 0, _ => exact absurd rfl hne
        | 10, _ => exact absurd (by simp) hnk
        | 1, _ => exact (by obtain ⟨y, e, h⟩ := hv; exact ⟨y, e, h.go hE⟩)
        | 2, _ => exact (by obtain ⟨y, e, h⟩ := hv; exact ⟨y, e, h.go hE⟩)
        | 3, _ => exact (by obtain ⟨y, e, h⟩ := hv; exact ⟨y, e, h.go hE⟩)
        | 4, _ => exact (by obtain ⟨y, e, h⟩ := hv; exact ⟨y, e, h.go hE⟩)
        | 5, _ => exact (by obtain ⟨y, e, h⟩ := hv; exact ⟨y, e, h.go hE⟩)
        | 6, _ => exact (by obtain ⟨y, e, h⟩ := hv; exact ⟨y, e, h.go hE⟩)
        | 7, _ => exact (by obtain ⟨y, e, h⟩ := hv; exact ⟨y, e, h.go hE⟩)
        | 8, _ => exact (by obtain ⟨y, e, h⟩ := hv; exact ⟨y, e, h.go hE⟩)
        | 9, _ => exact (by obtain ⟨y, e, h⟩ := hv; exact ⟨y, e, h.go hE⟩)
        | 11, _ => exact (by obtain ⟨y, e, h⟩ := hv; exact ⟨y, e, h.go hE⟩)
        | 12, _ => exact (by obtain ⟨y, e, h⟩ := hv; exact ⟨y, e, h.go hE⟩)
        | m + 13, h => exact absurd h (by omega)
      | 3, _ =>
        match j, hj with
        | 3, _ => exact absurd rfl hne
        | 1, _ => exact absurd (by simp) hna
        | 2, _ => exact absurd (by simp) hna
        | 10, _ => exact absurd (by simp) hnk
        | 0, _ => exact (by obtain ⟨y, e, h⟩ := hv; exact ⟨y, e, h.go hE⟩)
        | 4, _ => exact (by obtain ⟨y, e, h⟩ := hv; exact ⟨y, e, h.go hE⟩)
        | 5, _ => exact (by obtain ⟨y, e, h⟩ := hv; exact ⟨y, e, h.go hE⟩)
        | 6, _ => exact (by obtain ⟨y, e, h⟩ := hv; exact ⟨y, e, h.go hE⟩)
        | 7, _ => exact (by obtain ⟨y, e, h⟩ := hv; exact ⟨y, e, h.go hE⟩)
        | 8, _ => exact (by obtain ⟨y, e, h⟩ := hv; exact ⟨y, e, h.go hE⟩)
        | 9, _ => exact (by obtain ⟨y, e, h⟩ := hv; exact ⟨y, e, h.go hE⟩)
        | 11, _ => exact (by obtain ⟨y, e, h⟩ := hv; exact ⟨y, e, h.go hE⟩)
        | 12, _ => exact (by obtain ⟨y, e, h⟩ := hv; exact ⟨y, e, h.go hE⟩)
        | m + 13, h => exact absurd h (by omega)
      | 4, _ =>
        match j, hj with
        | 4, _ => exact absurd rfl hne
        | 0, _ => exact absurd (by simp) hna
        | 1, _ => exact absurd (by simp) hna
        | 2, _ => exact absurd (by simp) hna
        | 3, _ => exact absurd (by simp) hna
        | 5, _ => exact (by obtain ⟨d0, d1, d2, d3, z, e, k⟩ := hv; exact ⟨d0, d1, d2, d3, z, e, k.go hE⟩)
        | 6, _ => exact (by obtain ⟨d0, d1, d2, d3, z, e, k⟩ := hv; exact ⟨d0, d1, d2, d3, z, e, k.go hE⟩)
        | 7, _ => exact (by obtain ⟨d0, d1, d2, d3, z, e, k⟩ := hv; exact ⟨d0, d1, d2, d3, z, e, k.go hE⟩)
        | 8, _ => exact (by obtain ⟨d0, d1, d2, d3, z, e, k⟩ := hv; exact ⟨d0, d1, d2, d3, z, e, k.go hE⟩)
        | 9, _ => exact (by obtain ⟨d0, d1, d2, d3, z, e, k⟩ := hv; exact ⟨d0, d1, d2, d3, z, e, k.go hE⟩)
        | 10, _ => exact (by obtain ⟨d0, d1, d2, d3, z, e, k⟩ := hv; obtain ⟨g, hz, ht, -⟩ := hE; exact ⟨d0, d1, d2, d3, z, e, k.off hz ht⟩)
        | 11, _ => exact (by obtain ⟨d0, d1, d2, d3, z, e, k⟩ := hv; exact ⟨d0, d1, d2, d3, z, e, k.go hE⟩)
        | 12, _ => exact (by obtain ⟨d0, d1, d2, d3, z, e, k⟩ := hv; exact ⟨d0, d1, d2, d3, z, e, k.go hE⟩)
        | m + 13, h => exact absurd h (by omega)
      | 5, _ =>
        match j, hj with
        | 5, _ => exact absurd rfl hne
        | 0, _ => exact absurd (by simp) hna
        | 1, _ => exact absurd (by simp) hna
        | 2, _ => exact absurd (by simp) hna
        | 3, _ => exact absurd (by simp) hna
        | 4, _ => exact absurd (by simp) hna
        | 6, _ => exact (by obtain ⟨d0, d1, d2, d3, z, e, k⟩ := hv; exact ⟨d0, d1, d2, d3, z, e, k.go hE⟩)
        | 7, _ => exact (by obtain ⟨d0, d1, d2, d3, z, e, k⟩ := hv; exact ⟨d0, d1, d2, d3, z, e, k.go hE⟩)
        | 8, _ => exact (by obtain ⟨d0, d1, d2, d3, z, e, k⟩ := hv; exact ⟨d0, d1, d2, d3, z, e, k.go hE⟩)
        | 9, _ => exact (by obtain ⟨d0, d1, d2, d3, z, e, k⟩ := hv; exact ⟨d0, d1, d2, d3, z, e, k.go hE⟩)
        | 10, _ => exact (by obtain ⟨d0, d1, d2, d3, z, e, k⟩ := hv; obtain ⟨g, hz, ht, -⟩ := hE; exact ⟨d0, d1, d2, d3, z, e, k.off hz ht⟩)
        | 11, _ => exact (by obtain ⟨d0, d1, d2, d3, z, e, k⟩ := hv; exact ⟨d0, d1, d2, d3, z, e, k.go hE⟩)
        | 12, _ => exact (by obtain ⟨d0, d1, d2, d3, z, e, k⟩ := hv; exact ⟨d0, d1, d2, d3, z, e, k.go hE⟩)
        | m + 13, h => exact absurd h (by omega)
      | 6, _ =>
        match j, hj with
        | 6, _ => exact absurd rfl hne
        | 0, _ => exact absurd (by simp) hna
        | 1, _ => exact absurd (by simp) hna
        | 2, _ => exact absurd (by simp) hna
        | 3, _ => exact absurd (by simp) hna
        | 4, _ => exact absurd (by simp) hna
        | 5, _ => exact absurd (by simp) hna
        | 7, _ => exact (id hv)
        | 8, _ => exact (id hv)
        | 9, _ => exact (id hv)
        | 10, _ => exact hv
        | 11, _ => exact (id hv)
        | 12, _ => exact (id hv)
        | m + 13, h => exact absurd h (by omega)
      | 7, _ =>
        match j, hj with
        | 7, _ => exact absurd rfl hne
        | 0, _ => exact absurd (by simp) hna
        | 1, _ => exact absurd (by simp) hna
        | 2, _ => exact absurd (by simp) hna
        | 3, _ => exact absurd (by simp) hna
        | 4, _ => exact absurd (by simp) hna
        | 5, _ => exact absurd (by simp) hna
        | 6, _ => exact (by obtain ⟨y, e, h⟩ := hv; exact ⟨y, e, h.go hE⟩)
        | 8, _ => exact (by obtain ⟨y, e, h⟩ := hv; exact ⟨y, e, h.go hE⟩)
        | 9, _ => exact (by obtain ⟨y, e, h⟩ := hv; exact ⟨y, e, h.go hE⟩)
        | 10, _ => exact (by obtain ⟨y, e, h⟩ := hv; obtain ⟨g, hz, ht, -⟩ := hE; exact ⟨y, e, h.off hz ht⟩)
        | 11, _ => exact (by obtain ⟨y, e, h⟩ := hv; exact ⟨y, e, h.go hE⟩)
        | 12, _ => exact (by obtain ⟨y, e, h⟩ := hv; exact ⟨y, e, h.go hE⟩)
        | m + 13, h => exact absurd h (by omega)
      | 9, _ =>
        match j, hj with
        | 9, _ => exact absurd rfl hne
        | 10, _ => exact absurd (by simp) hnk
        | 0, _ => exact (by obtain ⟨g, h1, h2, h3⟩ := hv; exact ⟨g, h1, h2, h3.go hE⟩)
        | 1, _ => exact (by obtain ⟨g, h1, h2, h3⟩ := hv; exact ⟨g, h1, h2, h3.go hE⟩)
        | 2, _ => exact (by obtain ⟨g, h1, h2, h3⟩ := hv; exact ⟨g, h1, h2, h3.go hE⟩)
        | 3, _ => exact (by obtain ⟨g, h1, h2, h3⟩ := hv; exact ⟨g, h1, h2, h3.go hE⟩)
        | 4, _ => exact (by obtain ⟨g, h1, h2, h3⟩ := hv; exact ⟨g, h1, h2, h3.go hE⟩)
        | 5, _ => exact (by obtain ⟨g, h1, h2, h3⟩ := hv; exact ⟨g, h1, h2, h3.go hE⟩)
        | 6, _ => exact (by obtain ⟨g, h1, h2, h3⟩ := hv; exact ⟨g, h1, h2, h3.go hE⟩)
        | 7, _ => exact (by obtain ⟨g, h1, h2, h3⟩ := hv; exact ⟨g, h1, h2, h3.go hE⟩)
        | 8, _ => exact (by obtain ⟨g, h1, h2, h3⟩ := hv; exact ⟨g, h1, h2, h3.go hE⟩)
        | 11, _ => exact (by obtain ⟨g, h1, h2, h3⟩ := hv; exact ⟨g, h1, h2, h3.go hE⟩)
        | 12, _ => exact (by obtain ⟨g, h1, h2, h3⟩ := hv; exact ⟨g, h1, h2, h3.go hE⟩)
        | m + 13, h => exact absurd h (by omega)
      | 11, _ =>
        match j, hj with
        | 11, _ => exact absurd rfl hne
        | 0, _ => exact absurd (by simp) hna
        | 1, _ => exact absurd (by simp) hna
        | 2, _ => exact absurd (by simp) hna
        | 3, _ => exact absurd (by simp) hna
        | 4, _ => exact absurd (by simp) hna
        | 5, _ => exact absurd (by simp) hna
        | 7, _ => exact absurd (by simp) hna
        | 6, _ => exact (by obtain ⟨y, e, h⟩ := hv; exact ⟨y, e, h.go hE⟩)
        | 8, _ => exact (by obtain ⟨y, e, h⟩ := hv; exact ⟨y, e, h.go hE⟩)
        | 9, _ => exact (by obtain ⟨y, e, h⟩ := hv; exact ⟨y, e, h.go hE⟩)
        | 10, _ => exact (by obtain ⟨y, e, h⟩ := hv; obtain ⟨g, hz, ht, -⟩ := hE; exact ⟨y, e, h.off hz ht⟩)
        | 12, _ => exact (by obtain ⟨y, e, h⟩ := hv; exact ⟨y, e, h.go hE⟩)
        | m + 13, h => exact absurd h (by omega)
      | m + 13, h => exact absurd h (by omega)
    case h0 => intro x; exact toI HIp (Below.refl _ _).drew
    case step =>
      refine ⟨?_, ?_, ?_, ?_, ?_, ?_, ?_, ?_, ?_, ?_, ?_, ?_, ?_, trivial⟩
      all_goals
        intro x W L hI hL hV
        replace hI : (Below w4.heap.size w4 W) := ofI HIp hI
        rw [HV.out] at hV
        simp only [AllV, and_true] at hV
      · clear hV
        (try dsimp only)
        obtain ⟨sa, sc, qa, qc, bb, ra, rb⟩ := X1'.out.go hI
        obtain ⟨q0, q1, q2, q3, q4⟩ := blk_cells5 bb
        have HI := Lib.hid hI
        have RR := Lib.hid (And.intro ra rb)
        clear hI bb ra rb
        go_wp2_with fail
        refine step3_done rfl ?_ ?_ ?_
        · exact (toI HIp HI.out)
        · exact (Below.refl _ _)
        · exact (toV HV ⟨_, rfl, sa, sc, qa, qc, rfl, RR.out.1, RR.out.2⟩)
      · clear hV
        (try dsimp only)
        have bb := X0'.out.go hI
        obtain ⟨q0, q1, q2, q3, q4⟩ := blk_cells5 bb
        have HI := Lib.hid hI
        clear hI bb
        go_wp2_with fail
        refine step3_done rfl ?_ ?_ ?_
        · exact (toI HIp HI.out)
        · exact (Below.refl _ _)
        · exact (toV HV rfl)
      · clear hV
        (try dsimp only)
        have HI := Lib.hid hI
        clear hI
        go_wp2_with fail
        refine step3_done rfl ?_ ?_ ?_
        · exact (toI HIp HI.out)
        · exact (Below.refl _ _)
        · exact (toV HV rfl)
      · obtain ⟨u1, u2⟩ := hV
        simp only [u1, u2]
        clear u1 u2
        have HI := Lib.hid hI
        have hzW := hI.size
        clear hI
        go_wp2_with fail
        refine (HX.out _ (up B4.out HI.out)).mono ?_
        rintro e W' ⟨fa, fc, rfl, rx, hb⟩
        go_wp2_with fail
        refine step3_done rfl ?_ ?_ ?_
        · exact (toI HIp (up HI.out hb))
        · exact hb
        · exact (toV HV ⟨_, rfl, fa, fc, rfl, rx.deep (by omega)⟩)
      · obtain ⟨⟨y0, u0, h0⟩, ⟨y3, u3, h3⟩⟩ := hV
        simp only [u0, u3]
        have U0 := Lib.hid u0
        have U3 := Lib.hid u3
        clear u0 u3
        have HI := Lib.hid hI
        have hzW := hI.size
        clear hI
        go_wp2_with fail
        refine (HS2.out _ _ _ _ (Hg.out.go (up B4.out HI.out)) h0 h3).mono ?_
        rintro e W' ⟨ul, up', rfl, ⟨sa, sc, qa, qc, rfl, -, -⟩, rp, hb⟩
        go_wp2_with fail
        refine step3_done rfl ?_ ?_ ?_
        · exact (toI HIp (up HI.out hb))
        · exact hb
        · exact (toV HV ⟨_, _, _, _, _, rfl, rp.deep (by omega)⟩)
      · obtain ⟨d0, d1, d2, d3, z4, u4, k4⟩ := hV
        simp only [u4]
        have U4 := Lib.hid u4
        clear u4
        have HI := Lib.hid hI
        clear hI
        go_wp2_with fail
        refine step3_done rfl ?_ ?_ ?_
        · exact (toI HIp HI.out)
        · exact (Below.refl _ _)
        · exact (toV HV ⟨_, _, _, _, _, rfl, k4⟩)
      · obtain ⟨d0, d1, d2, d3, z5, u5, k5⟩ := hV
        simp only [u5]
        have U5 := Lib.hid u5
        clear u5
        have HI := Lib.hid hI
        clear hI
        go_wp2_with fail
        refine step3_done rfl ?_ ?_ ?_
        · exact (toI HIp HI.out)
        · exact (Below.refl _ _)
        · exact (toV HV ⟨_, _, _, _, rfl⟩)
      · obtain ⟨d0, d1, d2, d3, z5, u5, k5⟩ := hV
        simp only [u5]
        have U5 := Lib.hid u5
        clear u5
        have HI := Lib.hid hI
        clear hI
        go_wp2_with fail
        refine step3_done rfl ?_ ?_ ?_
        · exact (toI HIp HI.out)
        · exact (Below.refl _ _)
        · exact (toV HV ⟨_, rfl, k5⟩)
      · obtain ⟨d0, d1, d2, d3, z5, u5, k5⟩ := hV
        simp only [u5]
        have U5 := Lib.hid u5
        clear u5
        have HI := Lib.hid hI
        clear hI
        go_wp2_with fail
        refine step3_done rfl ?_ ?_ ?_
        · exact (toI HIp HI.out)
        · exact (Below.refl _ _)
        · exact (toV HV rfl)
      · clear hV
        (try dsimp only)
        have HI := Lib.hid hI
        have hzW := hI.size
        clear hI
        go_wp2_with fail
        have uW : ∀ o, Below W.heap.size W (W.alloc o) := fun o => (Below.refl _ _).alloc (Nat.le_refl _) o
        refine step3_done rfl ?_ ?_ ?_
        · exact (toI HIp (up HI.out (uW _)))
        · exact (uW _)
        · exact (toV HV ⟨_, rfl, hzW, Blk.new _ _⟩)
      · obtain ⟨⟨d0, d1, d2, d3, u6⟩, ⟨g9, u9, l9, b9⟩⟩ := hV
        simp only [u9, u6]
        have U6 := Lib.hid u6
        have U9 := Lib.hid u9
        clear u6 u9
        obtain ⟨q0, q1, q2, q3, q4⟩ := blk_cells5 b9
        have fW := b9.frozen
        have hg9 := b9.lt
        have HT := Lib.hid (touch5 W g9 (.int .i64 l2.epoch) (.int .i64 l2.next) (.slice d0 l2.sent.length d1) (.slice d2 l2.queue.length d3) (.int .i64 l2.heard))
        have HI := Lib.hid hI
        have HB9 := Lib.hid b9
        clear hI b9
        go_wp2_with fail
        refine step3_done (v := undef) rfl ?_ ?_ ?_
        · exact (toI HIp (HI.out.trans (HT.out.toBelow HI.out.size (fun k hk => by omega))))
        · exact ⟨g9, HB9.out, HT.out, l9⟩
        · exact (toV HV rfl)
      · obtain ⟨y7, u7, h7⟩ := hV
        simp only [u7]
        have U7 := Lib.hid u7
        clear u7
        have HI := Lib.hid hI
        clear hI
        go_wp2_with fail
        refine step3_done rfl ?_ ?_ ?_
        · exact (toI HIp HI.out)
        · exact (Below.refl _ _)
        · exact (toV HV ⟨_, rfl, h7⟩)
      · have u8 := hV
        clear hV
        simp only [u8]
        clear u8
        have HI := Lib.hid hI
        clear hI
        go_wp2_with fail
        refine step3_done rfl ?_ ?_ ?_
        · exact (toI HIp HI.out)
        · exact (Below.refl _ _)
        · exact (toV HV rfl)
    case fin =>
      intro x W L hL hI hV
      replace hI : (Below w4.heap.size w4 W) := ofI HIp hI
      rw [HV.out] at hV
      simp only [AllV, and_true] at hV
      obtain ⟨u1, u2, ⟨d0, d1, d2, d3, z4, u4, k4⟩, ⟨d0, d1, d2, d3, z5, u5, k5⟩, ⟨d0, d1, d2, d3, u6⟩, ⟨y7, u7, h7⟩, u8, u10, ⟨y11, u11, h11⟩, u12⟩ := hV
      simp only [getsD, List.getD_cons_succ, List.getD_cons_zero, List.length_cons, List.length_nil, List.range, List.range.loop, u1, u2, u4, u5, u6, u7, u8, u10, u11, u12, Act.put, List.setIfInBounds_toArray, List.set_cons_succ, List.set_cons_zero]
      clear u1 u2 u4 u5 u6 u7 u8 u10 u11 u12
      have hz5 := hI.size
      have X0'' := Lib.hid (X0'.out.go hI)
      have X2'' := Lib.hid (X2'.out.go hI)
      have K10' := Lib.hid (K10.out.go hI)
      have B5 := Lib.hid (up B4.out hI)
      have K11 := Lib.hid h11
      obtain ⟨w5, rfl⟩ : ∃ x : World, x = W := ⟨_, rfl⟩
      clear hI hL X0' X1' X2' K10 B4 h11 HS2 HX
      obtain ⟨pg, po, pc, pa, pd, rfl, pF, pR, p0, p1', p2', p3, p4, p5, p6, p7, p8⟩ := K10'.out.at 0 (by simp)
      obtain ⟨qg, qo, qc, qa, qd, rfl, qF, qR, q0, q1', q2', q3, q4, q5, q6, q7, q8⟩ := K11.out.at 0 (by simp)
      simp only [List.length_singleton]
      simp only [Nat.zero_mul, Nat.add_zero, List.getElem_cons_zero] at p0 p1' p2' p3 p4 p5 p6 p7 p8 q0 q1' q2' q3 q4 q5 q6 q7 q8 pR qR
      have XS := X2''
      have GD := Lib.hid (Hg.out.go B5.out)
      have N0 := Lib.hid (And.intro (show NilS none 0 from ⟨by unfold maxLen; omega, fun _ => rfl⟩) (show NilS none 0 from ⟨by unfold maxLen; omega, fun _ => rfl⟩))
      have HH1 := Lib.hid (fun B a b c d vp W hg na nb hv => hearG Hfo.out Hff.out 0 2 0 false (by omega) (by omega) (by omega) (by rfl) (by rfl) B a b c d vp W hg na nb hv)
      simp only [hp2] at HH1
      have HH2 := Lib.hid (fun B a b c d vp W hg na nb hv => hearG Hfo.out Hff.out 0 1 1 true (by omega) (by omega) (by omega) (by rfl) (by rfl) B a b c d vp W hg na nb hv)
      simp only [hp1] at HH2
      have HH3 := Lib.hid (fun B a b c d vp W hg na nb hv => hearG Hfo.out Hff.out 1 2 2 true (by omega) (by omega) (by omega) (by rfl) (by rfl) B a b c d vp W hg na nb hv)
      simp only [hp2] at HH3
      go_wp2_with fail
      obtain ⟨Vp, HV⟩ : ∃ Vp : Nat → Value → World → Prop, Hid (Vp = fun i v W => match i with
          | 0 => v = .agg #[.int .i64 2, .int .i64 1, .slice none 0 0, .slice none 0 0, .int .i64 0]
          | 1 => v = .slice (some ⟨qg, qo, none⟩) 1 qc
          | 2 => v = .pointer (some ⟨qg, qo, none⟩)
          | 3 => v = .agg #[.int .i64 p2.epoch, .int .i64 p2.number, .bool p2.bare, .int .i64 p2.ack, .int .i64 p2.f.kind, .int .i64 p2.f.heard, .int .i64 p2.f.epoch, .slice qa p2.f.op.length qd, .string p2.f.text]
          | 4 => ∃ e0 e1 e2 e3 f0 f1 f2 f3 f4 f5 f6 z, v = .tuple #[.agg #[.int .i64 2, .int .i64 1, .slice e0 0 e1, .slice e2 0 e3, .int .i64 0], .agg #[.int .i64 f0, .int .i64 f1, .int .i64 f2, .slice f3 f4 f5, .string f6], .bool false, z, .int .i64 0] ∧ NilS e0 e1 ∧ NilS e2 e3
          | 5 => ∃ e0 e1 e2 e3 f0 f1 f2 f3 f4 f5 f6 z, v = .tuple #[.agg #[.int .i64 2, .int .i64 1, .slice e0 0 e1, .slice e2 0 e3, .int .i64 0], .agg #[.int .i64 f0, .int .i64 f1, .int .i64 f2, .slice f3 f4 f5, .string f6], .bool false, z, .int .i64 0] ∧ NilS e0 e1 ∧ NilS e2 e3
          | 6 => ∃ e0 e1 e2 e3, v = .agg #[.int .i64 2, .int .i64 1, .slice e0 0 e1, .slice e2 0 e3, .int .i64 0] ∧ NilS e0 e1 ∧ NilS e2 e3
          | 7 => ∃ f0 f1 f2 f3 f4 f5 f6, v = .agg #[.int .i64 f0, .int .i64 f1, .int .i64 f2, .slice f3 f4 f5, .string f6]
          | 8 => v = .bool false
          | 9 => ∃ y, v = y
          | 10 => v = .int .i64 0
          | 11 => ∃ g, v = .pointer (some ⟨g, 0, none⟩) ∧ w5.heap.size ≤ g ∧ Blk g (.cells #[.int .i64 0, .int .i64 0, .slice none 0 0, .slice none 0 0, .int .i64 0] 33 (0, 0)) W
          | 12 => ∃ g, v = .pointer (some ⟨g, 0, none⟩) ∧ w5.heap.size ≤ g ∧ Blk g (.cells #[.int .i64 0, .int .i64 0, .int .i64 0, .slice none 0 0, .string ⟨#[]⟩] 30 (0, 0)) W
          | 13 => v = undef
          | 14 => v = undef
          | 15 => v = .bool false
          | 16 => ∃ y, v = y
          | _ => v = .int .i64 0) := ⟨_, rfl⟩
      obtain ⟨Ip, HIp⟩ : ∃ Ip : (Nat → Bool) → (Nat → Value) → World → Prop, Hid (Ip = fun L x W => (Below w5.heap.size w5 W ∧ (L 13 = true → ∃ g e0 e1 e2 e3, x 11 = .pointer (some ⟨g, 0, none⟩) ∧ w5.heap.size ≤ g ∧ NilS e0 e1 ∧ NilS e2 e3 ∧ Blk g (.cells #[.int .i64 2, .int .i64 1, .slice e0 0 e1, .slice e2 0 e3, .int .i64 0] 33 (0, 0)) W))) := ⟨_, rfl⟩
      refine region_lit3 (by kernel_rfl) (by kernel_rfl) (by kernel_rfl) [[], [], [1], [1, 2], [0, 1, 2, 3], [0, 1, 2, 3, 4], [0, 1, 2, 3, 4, 5], [0, 1, 2, 3, 4, 5], [0, 1, 2, 3, 4, 5], [0, 1, 2, 3, 4, 5], [0, 1, 2, 3, 4, 5], [], [], [0, 1, 2, 3, 4, 5, 6, 11], [0, 1, 2, 3, 4, 5, 7, 12], [0, 1, 2, 3, 4, 5, 8], [0, 1, 2, 3, 4, 5, 9], [0, 1, 2, 3, 4, 5, 10]] (by kernel_rfl) [some 80, some 81, some 82, some 83, some 84, some 79, some 85, some 86, some 87, some 88, some 89, some 14, some 15, none, none, some 16, some 17, some 18] (by kernel_rfl) [[0, 4, 5, 6, 7, 8, 9, 10, 13, 14, 15, 16, 17], [1, 2, 3, 4, 5, 6, 7, 8, 9, 10, 13, 14, 15, 16, 17], [2, 3, 4, 5, 6, 7, 8, 9, 10, 13, 14, 15, 16, 17], [3, 4, 5, 6, 7, 8, 9, 10, 13, 14, 15, 16, 17], [4, 5, 6, 7, 8, 9, 10, 13, 14, 15, 16, 17], [5, 6, 7, 8, 9, 10, 13, 14, 15, 16, 17], [6, 13], [7, 14], [8, 15], [9, 16], [10, 17], [11, 13], [12, 14], [13], [14], [15], [16], [17]] (by kernel_rfl) [[], [], [], [], [], [], [], [], [], [], [], [13], [14], [], [], [], [], []] [[], [], [1], [2], [0, 3], [4], [5], [5], [5], [5], [5], [], [], [6, 11], [7, 12], [8], [9], [10]] (by kernel_rfl)
        Ip
        Vp
        (fun j W W' => match j with
          | 13 => ∃ g, Blk g (.cells #[.int .i64 0, .int .i64 0, .slice none 0 0, .slice none 0 0, .int .i64 0] 33 (0, 0)) W ∧ Touch (fun z => z = g) W W' ∧ w5.heap.size ≤ g
          | 14 => ∃ g, Blk g (.cells #[.int .i64 0, .int .i64 0, .int .i64 0, .slice none 0 0, .string ⟨#[]⟩] 30 (0, 0)) W ∧ Touch (fun z => z = g) W W' ∧ w5.heap.size ≤ g
          | _ => Below W.heap.size W W')
        [fun x => ⟨#[undef, undef, undef, undef, undef, undef, undef, .pointer (some ⟨w2.heap.size, 0, none⟩), undef, undef, undef, undef, undef, undef, undef, undef, undef, undef, undef, undef, undef, undef, undef, undef, undef, undef, undef, undef, undef, undef, undef, undef, undef, undef, undef, undef, undef, undef, undef, undef, undef, undef, undef, undef, undef, undef, undef, undef, undef, undef, undef, undef, undef, undef, undef, undef, undef, undef, undef, undef, undef, undef, undef, undef, undef, undef, undef, undef, undef, undef, undef, undef, undef, undef, undef, undef, undef, undef, undef, undef, undef], []⟩,
   fun x => ⟨#[undef, undef, undef, undef, undef, undef, undef, undef, undef, undef, undef, undef, .slice (some ⟨qg, qo, none⟩) 1 qc, undef, undef, undef, undef, undef, undef, undef, undef, undef, undef, undef, undef, undef, undef, undef, undef, undef, undef, undef, undef, undef, undef, undef, undef, undef, undef, undef, undef, undef, undef, undef, undef, undef, undef, undef, undef, undef, undef, undef, undef, undef, undef, undef, undef, undef, undef, undef, undef, undef, undef, undef, undef, undef, undef, undef, undef, undef, undef, undef, undef, undef, undef, undef, undef, undef, undef, undef, undef, undef], []⟩,
   fun x => ⟨#[undef, undef, undef, undef, undef, undef, undef, undef, undef, undef, undef, undef, undef, undef, undef, undef, undef, undef, undef, undef, undef, undef, undef, undef, undef, undef, undef, undef, undef, undef, undef, undef, undef, undef, undef, undef, undef, undef, undef, undef, undef, undef, undef, undef, undef, undef, undef, undef, undef, undef, undef, undef, undef, undef, undef, undef, undef, undef, undef, undef, undef, undef, undef, undef, undef, undef, undef, undef, undef, undef, undef, undef, undef, undef, undef, undef, undef, undef, undef, undef, undef, x 1, undef], []⟩,
   fun x => ⟨#[undef, undef, undef, undef, undef, undef, undef, undef, undef, undef, undef, undef, undef, undef, undef, undef, undef, undef, undef, undef, undef, undef, undef, undef, undef, undef, undef, undef, undef, undef, undef, undef, undef, undef, undef, undef, undef, undef, undef, undef, undef, undef, undef, undef, undef, undef, undef, undef, undef, undef, undef, undef, undef, undef, undef, undef, undef, undef, undef, undef, undef, undef, undef, undef, undef, undef, undef, undef, undef, undef, undef, undef, undef, undef, undef, undef, undef, undef, undef, undef, undef, undef, x 2, undef], []⟩,
   fun x => ⟨#[undef, undef, undef, undef, undef, undef, undef, undef, undef, undef, undef, undef, undef, undef, undef, undef, undef, undef, undef, undef, undef, undef, undef, undef, undef, undef, undef, undef, undef, undef, undef, undef, undef, undef, undef, undef, undef, undef, undef, undef, undef, undef, undef, undef, undef, undef, undef, undef, undef, undef, undef, undef, undef, undef, undef, undef, undef, undef, undef, undef, undef, undef, undef, undef, undef, undef, undef, undef, undef, undef, undef, undef, undef, undef, undef, undef, undef, undef, undef, undef, x 0, undef, undef, x 3, undef], []⟩,
   fun x => ⟨#[undef, undef, undef, undef, undef, undef, undef, undef, undef, undef, undef, undef, undef, undef, undef, undef, undef, undef, undef, undef, undef, undef, undef, undef, undef, undef, undef, undef, undef, undef, undef, undef, undef, undef, undef, undef, undef, undef, undef, undef, undef, undef, undef, undef, undef, undef, undef, undef, undef, undef, undef, undef, undef, undef, undef, undef, undef, undef, undef, undef, undef, undef, undef, undef, undef, undef, undef, undef, undef, undef, undef, undef, undef, undef, undef, undef, undef, undef, undef, undef, undef, undef, undef, undef, x 4], []⟩,
   fun x => ⟨#[undef, undef, undef, undef, undef, undef, undef, undef, undef, undef, undef, undef, undef, undef, undef, undef, undef, undef, undef, undef, undef, undef, undef, undef, undef, undef, undef, undef, undef, undef, undef, undef, undef, undef, undef, undef, undef, undef, undef, undef, undef, undef, undef, undef, undef, undef, undef, undef, undef, undef, undef, undef, undef, undef, undef, undef, undef, undef, undef, undef, undef, undef, undef, undef, undef, undef, undef, undef, undef, undef, undef, undef, undef, undef, undef, undef, undef, undef, undef, x 5, undef, undef, undef, undef, undef, undef], []⟩,
   fun x => ⟨#[undef, undef, undef, undef, undef, undef, undef, undef, undef, undef, undef, undef, undef, undef, undef, undef, undef, undef, undef, undef, undef, undef, undef, undef, undef, undef, undef, undef, undef, undef, undef, undef, undef, undef, undef, undef, undef, undef, undef, undef, undef, undef, undef, undef, undef, undef, undef, undef, undef, undef, undef, undef, undef, undef, undef, undef, undef, undef, undef, undef, undef, undef, undef, undef, undef, undef, undef, undef, undef, undef, undef, undef, undef, undef, undef, undef, undef, undef, undef, x 5, undef, undef, undef, undef, undef, undef, undef], []⟩,
   fun x => ⟨#[undef, undef, undef, undef, undef, undef, undef, undef, undef, undef, undef, undef, undef, undef, undef, undef, undef, undef, undef, undef, undef, undef, undef, undef, undef, undef, undef, undef, undef, undef, undef, undef, undef, undef, undef, undef, undef, undef, undef, undef, undef, undef, undef, undef, undef, undef, undef, undef, undef, undef, undef, undef, undef, undef, undef, undef, undef, undef, undef, undef, undef, undef, undef, undef, undef, undef, undef, undef, undef, undef, undef, undef, undef, undef, undef, undef, undef, undef, undef, x 5, undef, undef, undef, undef, undef, undef, undef, undef], []⟩,
   fun x => ⟨#[undef, undef, undef, undef, undef, undef, undef, undef, undef, undef, undef, undef, undef, undef, undef, undef, undef, undef, undef, undef, undef, undef, undef, undef, undef, undef, undef, undef, undef, undef, undef, undef, undef, undef, undef, undef, undef, undef, undef, undef, undef, undef, undef, undef, undef, undef, undef, undef, undef, undef, undef, undef, undef, undef, undef, undef, undef, undef, undef, undef, undef, undef, undef, undef, undef, undef, undef, undef, undef, undef, undef, undef, undef, undef, undef, undef, undef, undef, undef, x 5, undef, undef, undef, undef, undef, undef, undef, undef, undef], []⟩,
   fun x => ⟨#[undef, undef, undef, undef, undef, undef, undef, undef, undef, undef, undef, undef, undef, undef, undef, undef, undef, undef, undef, undef, undef, undef, undef, undef, undef, undef, undef, undef, undef, undef, undef, undef, undef, undef, undef, undef, undef, undef, undef, undef, undef, undef, undef, undef, undef, undef, undef, undef, undef, undef, undef, undef, undef, undef, undef, undef, undef, undef, undef, undef, undef, undef, undef, undef, undef, undef, undef, undef, undef, undef, undef, undef, undef, undef, undef, undef, undef, undef, undef, x 5, undef, undef, undef, undef, undef, undef, undef, undef, undef, undef], []⟩,
   fun x => ⟨#[undef, undef, undef, undef, undef, undef, undef, undef, undef, undef, undef, undef, undef, undef, undef], []⟩,
   fun x => ⟨#[undef, undef, undef, undef, undef, undef, undef, undef, undef, undef, undef, undef, undef, undef, undef, undef], []⟩,
   fun x => ⟨#[undef, undef, undef, undef, undef, undef, undef, undef, undef, undef, undef, undef, undef, undef, x 11, undef, undef, undef, undef, undef, undef, undef, undef, undef, undef, undef, undef, undef, undef, undef, undef, undef, undef, undef, undef, undef, undef, undef, undef, undef, undef, undef, undef, undef, undef, undef, undef, undef, undef, undef, undef, undef, undef, undef, undef, undef, undef, undef, undef, undef, undef, undef, undef, undef, undef, undef, undef, undef, undef, undef, undef, undef, undef, undef, undef, undef, undef, undef, undef, undef, undef, undef, undef, undef, undef, x 6], []⟩,
   fun x => ⟨#[undef, undef, undef, undef, undef, undef, undef, undef, undef, undef, undef, undef, undef, undef, undef, x 12, undef, undef, undef, undef, undef, undef, undef, undef, undef, undef, undef, undef, undef, undef, undef, undef, undef, undef, undef, undef, undef, undef, undef, undef, undef, undef, undef, undef, undef, undef, undef, undef, undef, undef, undef, undef, undef, undef, undef, undef, undef, undef, undef, undef, undef, undef, undef, undef, undef, undef, undef, undef, undef, undef, undef, undef, undef, undef, undef, undef, undef, undef, undef, undef, undef, undef, undef, undef, undef, undef, x 7], []⟩,
   fun x => ⟨#[undef, undef, undef, undef, undef, undef, undef, undef, undef, undef, undef, undef, undef, undef, undef, undef, undef, undef, undef, undef, undef, undef, undef, undef, undef, undef, undef, undef, undef, undef, undef, undef, undef, undef, undef, undef, undef, undef, undef, undef, undef, undef, undef, undef, undef, undef, undef, undef, undef, undef, undef, undef, undef, undef, undef, undef, undef, undef, undef, undef, undef, undef, undef, undef, undef, undef, undef, undef, undef, undef, undef, undef, undef, undef, undef, undef, undef, undef, undef, undef, undef, undef, undef, undef, undef, undef, undef, x 8], []⟩,
   fun x => ⟨#[undef, undef, undef, undef, undef, undef, undef, undef, undef, undef, undef, undef, undef, undef, undef, undef, undef, undef, undef, undef, undef, undef, undef, undef, undef, undef, undef, undef, undef, undef, undef, undef, undef, undef, undef, undef, undef, undef, undef, undef, undef, undef, undef, undef, undef, undef, undef, undef, undef, undef, undef, undef, undef, undef, undef, undef, undef, undef, undef, undef, undef, undef, undef, undef, undef, undef, undef, undef, undef, undef, undef, undef, undef, undef, undef, undef, undef, undef, undef, undef, undef, undef, undef, undef, undef, undef, undef, undef, x 9], []⟩,
   fun x => ⟨#[undef, undef, undef, undef, undef, undef, undef, undef, undef, undef, undef, undef, undef, undef, undef, undef, undef, undef, undef, undef, undef, undef, undef, undef, undef, undef, undef, undef, undef, undef, undef, undef, undef, undef, undef, undef, undef, undef, undef, undef, undef, undef, undef, undef, undef, undef, undef, undef, undef, undef, undef, undef, undef, undef, undef, undef, undef, undef, undef, undef, undef, undef, undef, undef, undef, undef, undef, undef, undef, undef, undef, undef, undef, undef, undef, undef, undef, undef, undef, undef, undef, undef, undef, undef, undef, undef, undef, undef, undef, x 10], []⟩]
        ?hF ?mono ?h0 ?step [0, 1, 2, 3, 4, 5, 6, 7, 8, 9, 10, 13, 14, 15, 16, 17] (by kernel_rfl) ?fin
      case hF =>
        exact ⟨fun x => ⟨by kernel_rfl, by kernel_rfl⟩, fun x => ⟨by kernel_rfl, by kernel_rfl⟩, fun x => ⟨by kernel_rfl, by kernel_rfl⟩, fun x => ⟨by kernel_rfl, by kernel_rfl⟩, fun x => ⟨by kernel_rfl, by kernel_rfl⟩, fun x => ⟨by kernel_rfl, by kernel_rfl⟩, fun x => ⟨by kernel_rfl, by kernel_rfl⟩, fun x => ⟨by kernel_rfl, by kernel_rfl⟩, fun x => ⟨by kernel_rfl, by kernel_rfl⟩, fun x => ⟨by kernel_rfl, by kernel_rfl⟩, fun x => ⟨by kernel_rfl, by kernel_rfl⟩, fun x => ⟨by kernel_rfl, by kernel_rfl⟩, fun x => ⟨by kernel_rfl, by kernel_rfl⟩, fun x => ⟨by kernel_rfl, by kernel_rfl⟩, fun x => ⟨by kernel_rfl, by kernel_rfl⟩, fun x => ⟨by kernel_rfl, by kernel_rfl⟩, fun x => ⟨by kernel_rfl, by kernel_rfl⟩, fun x => ⟨by kernel_rfl, by kernel_rfl⟩, trivial⟩
      case mono =>
        intro i j hi hj hne hna hnk v W W' hE hv
        rw [HV.out] at hv ⊢
        simp only [List.length_cons, List.length_nil] at hi hj
        match i, hi with
        | 0, _ | 1, _ | 2, _ | 3, _ | 8, _ | 10, _ | 13, _ | 14, _ | 15, _ | 17, _ => exact hv
        | 4, _ =>
          match j, hj with
          | 4, _ => exact absurd rfl hne
          | 0, _ => exact absurd (by simp) hna
          | 1, _ => exact absurd (by simp) hna
          | 2, _ => exact absurd (by simp) hna
          | 3, _ => exact absurd (by simp) hna
          | 5, _ => exact (id hv)
          | 6, _ => exact (id hv)
          | 7, _ => exact (id hv)
          | 8, _ => exact (id hv)
          | 9, _ => exact (id hv)
          | 10, _ => exact (id hv)
          | 11, _ => exact (id hv)
          | 12, _ => exact (id hv)
          | 13, _ => exact (id hv)
          | 14, _ => exact (id hv)
          | 15, _ => exact (id hv)
          | 16, _ => exact (id hv)
          | 17, _ => exact (id hv)
          | m + 18, h => exact absurd h (by omega)
        | 5, _ =>
          match j, hj with
          | 5, _ => exact absurd rfl hne
          | 0, _ => exact absurd (by simp) hna
          | 1, _ => exact absurd (by simp) hna
          | 2, _ => exact absurd (by simp) hna
          | 3, _ => exact absurd (by simp) hna
          | 4, _ => exact absurd (by simp) hna
          | 6, _ => exact (id hv)
          | 7, _ => exact (id hv)
          | 8, _ => exact (id hv)
          | 9, _ => exact (id hv)
          | 10, _ => exact (id hv)
          | 11, _ => exact (id hv)
          | 12, _ => exact (id hv)
          | 13, _ => exact (id hv)
          | 14, _ => exact (id hv)
          | 15, _ => exact (id hv)
          | 16, _ => exact (id hv)
          | 17, _ => exact (id hv)
          | m + 18, h => exact absurd h (by omega)
        | 6, _ =>
          match j, hj with
          | 6, _ => exact absurd rfl hne
          | 0, _ => exact absurd (by simp) hna
          | 1, _ => exact absurd (by simp) hna
          | 2, _ => exact absurd (by simp) hna
          | 3, _ => exact absurd (by simp) hna
          | 4, _ => exact absurd (by simp) hna
          | 5, _ => exact absurd (by simp) hna
          | 7, _ => exact (id hv)
          | 8, _ => exact (id hv)
          | 9, _ => exact (id hv)
          | 10, _ => exact (id hv)
          | 11, _ => exact (id hv)
          | 12, _ => exact (id hv)
          | 13, _ => exact (id hv)
          | 14, _ => exact (id hv)
          | 15, _ => exact (id hv)
          | 16, _ => exact (id hv)
          | 17, _ => exact (id hv)
          | m + 18, h => exact absurd h (by omega)
        | 7, _ =>
          match j, hj with
          | 7, _ => exact absurd rfl hne
          | 0, _ => exact absurd (by simp) hna
          | 1, _ => exact absurd (by simp) hna
          | 2, _ => exact absurd (by simp) hna
          | 3, _ => exact absurd (by simp) hna
          | 4, _ => exact absurd (by simp) hna
          | 5, _ => exact absurd (by simp) hna
          | 6, _ => exact (id hv)
          | 8, _ => exact (id hv)
          | 9, _ => exact (id hv)
          | 10, _ => exact (id hv)
          | 11, _ => exact (id hv)
          | 12, _ => exact (id hv)
          | 13, _ => exact (id hv)
          | 14, _ => exact (id hv)
          | 15, _ => exact (id hv)
          | 16, _ => exact (id hv)
          | 17, _ => exact (id hv)
          | m + 18, h => exact absurd h (by omega)
        | 9, _ =>
          match j, hj with
          | 9, _ => exact absurd rfl hne
          | 0, _ => exact absurd (by simp) hna
          | 1, _ => exact absurd (by simp) hna
          | 2, _ => exact absurd (by simp) hna
          | 3, _ => exact absurd (by simp) hna
          | 4, _ => exact absurd (by simp) hna
          | 5, _ => exact absurd (by simp) hna
          | 6, _ => exact (id hv)
          | 7, _ => exact (id hv)
          | 8, _ => exact (id hv)
          | 10, _ => exact (id hv)
          | 11, _ => exact (id hv)
          | 12, _ => exact (id hv)
          | 13, _ => exact (id hv)
          | 14, _ => exact (id hv)
          | 15, _ => exact (id hv)
          | 16, _ => exact (id hv)
          | 17, _ => exact (id hv)
          | m + 18, h => exact absurd h (by omega)
        | 11, _ =>
          match j, hj with
          | 11, _ => exact absurd rfl hne
          | 13, _ => exact absurd (by simp) hnk
          | 0, _ => exact (by obtain ⟨g, h1, h2, h3⟩ := hv; exact ⟨g, h1, h2, h3.go hE⟩)
          | 1, _ => exact (by obtain ⟨g, h1, h2, h3⟩ := hv; exact ⟨g, h1, h2, h3.go hE⟩)
          | 2, _ => exact (by obtain ⟨g, h1, h2, h3⟩ := hv; exact ⟨g, h1, h2, h3.go hE⟩)
          | 3, _ => exact (by obtain ⟨g, h1, h2, h3⟩ := hv; exact ⟨g, h1, h2, h3.go hE⟩)
          | 4, _ => exact (by obtain ⟨g, h1, h2, h3⟩ := hv; exact ⟨g, h1, h2, h3.go hE⟩)
          | 5, _ => exact (by obtain ⟨g, h1, h2, h3⟩ := hv; exact ⟨g, h1, h2, h3.go hE⟩)
          | 6, _ => exact (by obtain ⟨g, h1, h2, h3⟩ := hv; exact ⟨g, h1, h2, h3.go hE⟩)
          | 7, _ => exact (by obtain ⟨g, h1, h2, h3⟩ := hv; exact ⟨g, h1, h2, h3.go hE⟩)
          | 8, _ => exact (by obtain ⟨g, h1, h2, h3⟩ := hv; exact ⟨g, h1, h2, h3.go hE⟩)
          | 9, _ => exact (by obtain ⟨g, h1, h2, h3⟩ := hv; exact ⟨g, h1, h2, h3.go hE⟩)
          | 10, _ => exact (by obtain ⟨g, h1, h2, h3⟩ := hv; exact ⟨g, h1, h2, h3.go hE⟩)
          | 12, _ => exact (by obtain ⟨g, h1, h2, h3⟩ := hv; exact ⟨g, h1, h2, h3.go hE⟩)
          | 14, _ => exact (by obtain ⟨g, h1, h2, h3⟩ := hv; obtain ⟨g', hz, ht, -⟩ := hE; exact ⟨g, h1, h2, h3.touch ht (fun e => blk_types h3 hz (by decide) e)⟩)
          | 15, _ => exact (by obtain ⟨g, h1, h2, h3⟩ := hv; exact ⟨g, h1, h2, h3.go hE⟩)
          | 16, _ => exact (by obtain ⟨g, h1, h2, h3⟩ := hv; exact ⟨g, h1, h2, h3.go hE⟩)
          | 17, _ => exact (by obtain ⟨g, h1, h2, h3⟩ := hv; exact ⟨g, h1, h2, h3.go hE⟩)
          | m + 18, h => exact absurd h (by omega)
        | 12, _ =>
          match j, hj with
          | 12, _ => exact absurd rfl hne
          | 14, _ => exact absurd (by simp) hnk
          | 0, _ => exact (by obtain ⟨g, h1, h2, h3⟩ := hv; exact ⟨g, h1, h2, h3.go hE⟩)
          | 1, _ => exact (by obtain ⟨g, h1, h2, h3⟩ := hv; exact ⟨g, h1, h2, h3.go hE⟩)
          | 2, _ => exact (by obtain ⟨g, h1, h2, h3⟩ := hv; exact ⟨g, h1, h2, h3.go hE⟩)
          | 3, _ => exact (by obtain ⟨g, h1, h2, h3⟩ := hv; exact ⟨g, h1, h2, h3.go hE⟩)
          | 4, _ => exact (by obtain ⟨g, h1, h2, h3⟩ := hv; exact ⟨g, h1, h2, h3.go hE⟩)
          | 5, _ => exact (by obtain ⟨g, h1, h2, h3⟩ := hv; exact ⟨g, h1, h2, h3.go hE⟩)
          | 6, _ => exact (by obtain ⟨g, h1, h2, h3⟩ := hv; exact ⟨g, h1, h2, h3.go hE⟩)
          | 7, _ => exact (by obtain ⟨g, h1, h2, h3⟩ := hv; exact ⟨g, h1, h2, h3.go hE⟩)
          | 8, _ => exact (by obtain ⟨g, h1, h2, h3⟩ := hv; exact ⟨g, h1, h2, h3.go hE⟩)
          | 9, _ => exact (by obtain ⟨g, h1, h2, h3⟩ := hv; exact ⟨g, h1, h2, h3.go hE⟩)
          | 10, _ => exact (by obtain ⟨g, h1, h2, h3⟩ := hv; exact ⟨g, h1, h2, h3.go hE⟩)
          | 11, _ => exact (by obtain ⟨g, h1, h2, h3⟩ := hv; exact ⟨g, h1, h2, h3.go hE⟩)
          | 13, _ => exact (by obtain ⟨g, h1, h2, h3⟩ := hv; obtain ⟨g', hz, ht, -⟩ := hE; exact ⟨g, h1, h2, h3.touch ht (fun e => blk_types h3 hz (by decide) e)⟩)
          | 15, _ => exact (by obtain ⟨g, h1, h2, h3⟩ := hv; exact ⟨g, h1, h2, h3.go hE⟩)
          | 16, _ => exact (by obtain ⟨g, h1, h2, h3⟩ := hv; exact ⟨g, h1, h2, h3.go hE⟩)
          | 17, _ => exact (by obtain ⟨g, h1, h2, h3⟩ := hv; exact ⟨g, h1, h2, h3.go hE⟩)
          | m + 18, h => exact absurd h (by omega)
        | 16, _ =>
          match j, hj with
          | 16, _ => exact absurd rfl hne
          | 0, _ => exact absurd (by simp) hna
          | 1, _ => exact absurd (by simp) hna
          | 2, _ => exact absurd (by simp) hna
          | 3, _ => exact absurd (by simp) hna
          | 4, _ => exact absurd (by simp) hna
          | 5, _ => exact absurd (by simp) hna
          | 9, _ => exact absurd (by simp) hna
          | 6, _ => exact (id hv)
          | 7, _ => exact (id hv)
          | 8, _ => exact (id hv)
          | 10, _ => exact (id hv)
          | 11, _ => exact (id hv)
          | 12, _ => exact (id hv)
          | 13, _ => exact (id hv)
          | 14, _ => exact (id hv)
          | 15, _ => exact (id hv)
          | 17, _ => exact (id hv)
          | m + 18, h => exact absurd h (by omega)
        | m + 18, h => exact absurd h (by omega)
      case h0 => intro x; exact toI HIp ⟨(Below.refl _ _).drew, fun h => by cases h⟩
      case step =>
        refine ⟨?_, ?_, ?_, ?_, ?_, ?_, ?_, ?_, ?_, ?_, ?_, ?_, ?_, ?_, ?_, ?_, ?_, ?_, trivial⟩
        all_goals
          intro x W L hI hL hV
          replace hI : (Below w5.heap.size w5 W ∧ (L 13 = true → ∃ g e0 e1 e2 e3, x 11 = .pointer (some ⟨g, 0, none⟩) ∧ w5.heap.size ≤ g ∧ NilS e0 e1 ∧ NilS e2 e3 ∧ Blk g (.cells #[.int .i64 2, .int .i64 1, .slice e0 0 e1, .slice e2 0 e3, .int .i64 0] 33 (0, 0)) W)) := ofI HIp hI
          rw [HV.out] at hV
          simp only [AllV, and_true] at hV
        · clear hV
          (try dsimp only)
          obtain ⟨q0', q1', q2', q3', q4'⟩ := blk_cells5 (XS.out.go hI.1)
          have HI := Lib.hid hI
          clear hI
          go_wp2_with fail
          refine step3_done rfl ?_ ?_ ?_
          · exact (toI HIp HI.out)
          · exact (Below.refl _ _)
          · exact (toV HV rfl)
        · clear hV
          (try dsimp only)
          have HI := Lib.hid hI
          clear hI
          go_wp2_with fail
          refine step3_done rfl ?_ ?_ ?_
          · exact (toI HIp HI.out)
          · exact (Below.refl _ _)
          · exact (toV HV rfl)
        · have u1 := hV
          clear hV
          simp only [u1]
          clear u1
          have HI := Lib.hid hI
          clear hI
          go_wp2_with fail
          refine step3_done rfl ?_ ?_ ?_
          · exact (toI HIp HI.out)
          · exact (Below.refl _ _)
          · exact (toV HV rfl)
        · have u2 := hV
          clear hV
          simp only [u2]
          clear u2
          have y0 := (hI.1.cell (p := ⟨qg, qo, none⟩) qF.2).trans q0
          have y1 := (hI.1.cell (p := ⟨qg, qo + 1, none⟩) qF.2).trans q1'
          have y2 := (hI.1.cell (p := ⟨qg, qo + 1 + 1, none⟩) qF.2).trans q2'
          have y3 := (hI.1.cell (p := ⟨qg, qo + 1 + 1 + 1, none⟩) qF.2).trans q3
          have y4 := (hI.1.cell (p := ⟨qg, qo + 1 + 1 + 1 + 1, none⟩) qF.2).trans q4
          have y5 := (hI.1.cell (p := ⟨qg, qo + 1 + 1 + 1 + 1 + 1, none⟩) qF.2).trans q5
          have y6 := (hI.1.cell (p := ⟨qg, qo + 1 + 1 + 1 + 1 + 1 + 1, none⟩) qF.2).trans q6
          have y7 := (hI.1.cell (p := ⟨qg, qo + 1 + 1 + 1 + 1 + 1 + 1 + 1, none⟩) qF.2).trans q7
          have y8 := (hI.1.cell (p := ⟨qg, qo + 1 + 1 + 1 + 1 + 1 + 1 + 1 + 1, none⟩) qF.2).trans q8
          have HI := Lib.hid hI
          clear hI
          go_wp2_with fail
          refine step3_done rfl ?_ ?_ ?_
          · exact (toI HIp HI.out)
          · exact (Below.refl _ _)
          · exact (toV HV rfl)
        · obtain ⟨u0, u3⟩ := hV
          simp only [u0, u3]
          clear u0 u3
          have HI := Lib.hid hI
          have hzW := hI.1.size
          clear hI
          go_wp2_with fail
          refine (HH1.out _ _ _ _ _ _ _ (GD.out.go HI.out.1) N0.out.1 N0.out.2 ⟨_, _, rfl, qR.up HI.out.1⟩).mono ?_
          rintro e W' ⟨e0, e1, e2, e3, f0, f1, f2, f3, f4, f5, f6, z, rfl, kn, mn, hb⟩
          go_wp2_with fail
          refine step3_done rfl ?_ ?_ ?_
          · exact (toI HIp ⟨up HI.out.1 hb, fun h => by obtain ⟨g, e0, e1, e2, e3, h1, h2, n1', n2', h5⟩ := HI.out.2 h; exact ⟨g, e0, e1, e2, e3, h1, h2, n1', n2', h5.go hb⟩⟩)
          · exact hb
          · exact (toV HV ⟨_, _, _, _, _, _, _, _, _, _, _, _, rfl, kn, mn⟩)
        · obtain ⟨e0, e1, e2, e3, f0, f1, f2, f3, f4, f5, f6, z4, u4, k4, m4⟩ := hV
          simp only [u4]
          have U4 := Lib.hid u4
          clear u4
          have HI := Lib.hid hI
          clear hI
          go_wp2_with fail
          refine step3_done rfl ?_ ?_ ?_
          · exact (toI HIp HI.out)
          · exact (Below.refl _ _)
          · exact (toV HV ⟨_, _, _, _, _, _, _, _, _, _, _, _, rfl, k4, m4⟩)
        · obtain ⟨e0, e1, e2, e3, f0, f1, f2, f3, f4, f5, f6, z5, u5, k5, m5⟩ := hV
          simp only [u5]
          have U5 := Lib.hid u5
          clear u5
          have HI := Lib.hid hI
          clear hI
          go_wp2_with fail
          refine step3_done rfl ?_ ?_ ?_
          · exact (toI HIp HI.out)
          · exact (Below.refl _ _)
          · exact (toV HV ⟨_, _, _, _, rfl, k5, m5⟩)
        · obtain ⟨e0, e1, e2, e3, f0, f1, f2, f3, f4, f5, f6, z5, u5, k5, m5⟩ := hV
          simp only [u5]
          have U5 := Lib.hid u5
          clear u5
          have HI := Lib.hid hI
          clear hI
          go_wp2_with fail
          refine step3_done rfl ?_ ?_ ?_
          · exact (toI HIp HI.out)
          · exact (Below.refl _ _)
          · exact (toV HV ⟨_, _, _, _, _, _, _, rfl⟩)
        · obtain ⟨e0, e1, e2, e3, f0, f1, f2, f3, f4, f5, f6, z5, u5, k5, m5⟩ := hV
          simp only [u5]
          have U5 := Lib.hid u5
          clear u5
          have HI := Lib.hid hI
          clear hI
          go_wp2_with fail
          refine step3_done rfl ?_ ?_ ?_
          · exact (toI HIp HI.out)
          · exact (Below.refl _ _)
          · exact (toV HV rfl)
        · obtain ⟨e0, e1, e2, e3, f0, f1, f2, f3, f4, f5, f6, z5, u5, k5, m5⟩ := hV
          simp only [u5]
          have U5 := Lib.hid u5
          clear u5
          have HI := Lib.hid hI
          clear hI
          go_wp2_with fail
          refine step3_done rfl ?_ ?_ ?_
          · exact (toI HIp HI.out)
          · exact (Below.refl _ _)
          · exact (toV HV ⟨_, rfl⟩)
        · obtain ⟨e0, e1, e2, e3, f0, f1, f2, f3, f4, f5, f6, z5, u5, k5, m5⟩ := hV
          simp only [u5]
          have U5 := Lib.hid u5
          clear u5
          have HI := Lib.hid hI
          clear hI
          go_wp2_with fail
          refine step3_done rfl ?_ ?_ ?_
          · exact (toI HIp HI.out)
          · exact (Below.refl _ _)
          · exact (toV HV rfl)
        · clear hV
          (try dsimp only)
          have HL := Lib.hid hL
          have HI := Lib.hid hI
          have hzW := hI.1.size
          clear hI hL
          go_wp2_with fail
          have uW : ∀ o, Below W.heap.size W (W.alloc o) := fun o => (Below.refl _ _).alloc (Nat.le_refl _) o
          refine step3_done rfl ?_ ?_ ?_
          · exact (toI HIp ⟨up HI.out.1 (uW _), fun h => absurd ((HL.out.2 13 (by simp)).symm.trans h) (by simp)⟩)
          · exact (uW _)
          · exact (toV HV ⟨_, rfl, hzW, Blk.new _ _⟩)
        · clear hV
          (try dsimp only)
          have HI := Lib.hid hI
          have hzW := hI.1.size
          clear hI
          go_wp2_with fail
          have uW : ∀ o, Below W.heap.size W (W.alloc o) := fun o => (Below.refl _ _).alloc (Nat.le_refl _) o
          refine step3_done rfl ?_ ?_ ?_
          · exact (toI HIp ⟨up HI.out.1 (uW _), fun h => by obtain ⟨g, e0, e1, e2, e3, h1, h2, n1', n2', h5⟩ := HI.out.2 h; exact ⟨g, e0, e1, e2, e3, h1, h2, n1', n2', h5.go (uW _)⟩⟩)
          · exact (uW _)
          · exact (toV HV ⟨_, rfl, hzW, Blk.new _ _⟩)
        · obtain ⟨⟨e0, e1, e2, e3, u6, k6, m6⟩, ⟨g11, u11, l11, b11⟩⟩ := hV
          simp only [u11, u6]
          have U6 := Lib.hid u6
          have U11 := Lib.hid u11
          clear u6 u11
          obtain ⟨q0', q1', q2', q3', q4'⟩ := blk_cells5 b11
          have fW := b11.frozen
          have hg9 := b11.lt
          have HT := Lib.hid (touch5 W g11 (.int .i64 2) (.int .i64 1) (.slice e0 0 e1) (.slice e2 0 e3) (.int .i64 0))
          have HN := Lib.hid (blk_set5 b11 (.int .i64 2) (.int .i64 1) (.slice e0 0 e1) (.slice e2 0 e3) (.int .i64 0))
          have HI := Lib.hid hI
          have HB9 := Lib.hid b11
          clear hI b11
          go_wp2_with fail
          refine step3_done (v := undef) rfl ?_ ?_ ?_
          · exact (toI HIp ⟨HI.out.1.trans (HT.out.toBelow HI.out.1.size (fun k hk => by omega)), fun _ => ⟨g11, e0, e1, e2, e3, U11.out, l11, k6, m6, HN.out⟩⟩)
          · exact ⟨g11, HB9.out, HT.out, l11⟩
          · exact (toV HV rfl)
        · obtain ⟨⟨f0, f1, f2, f3, f4, f5, f6, u7⟩, ⟨g12, u12, l12, b12⟩⟩ := hV
          simp only [u12, u7]
          have U7 := Lib.hid u7
          have U12 := Lib.hid u12
          clear u7 u12
          obtain ⟨q0', q1', q2', q3', q4'⟩ := blk_cells5 b12
          have fW := b12.frozen
          have hg9 := b12.lt
          have HT := Lib.hid (touch5 W g12 (.int .i64 f0) (.int .i64 f1) (.int .i64 f2) (.slice f3 f4 f5) (.string f6))
          have HN := Lib.hid (blk_set5 b12 (.int .i64 f0) (.int .i64 f1) (.int .i64 f2) (.slice f3 f4 f5) (.string f6))
          have HI := Lib.hid hI
          have HB9 := Lib.hid b12
          clear hI b12
          go_wp2_with fail
          refine step3_done (v := undef) rfl ?_ ?_ ?_
          · exact (toI HIp ⟨HI.out.1.trans (HT.out.toBelow HI.out.1.size (fun k hk => by omega)), fun h => by obtain ⟨g, e0, e1, e2, e3, h1, h2, n1', n2', h5⟩ := HI.out.2 h; exact ⟨g, e0, e1, e2, e3, h1, h2, n1', n2', h5.touch HT.out (fun e => blk_types h5 HB9.out (by decide) e)⟩⟩)
          · exact ⟨g12, HB9.out, HT.out, l12⟩
          · exact (toV HV rfl)
        · have u8 := hV
          clear hV
          simp only [u8]
          clear u8
          have HI := Lib.hid hI
          clear hI
          go_wp2_with fail
          refine step3_done rfl ?_ ?_ ?_
          · exact (toI HIp HI.out)
          · exact (Below.refl _ _)
          · exact (toV HV rfl)
        · obtain ⟨y9, u9⟩ := hV
          simp only [u9]
          have U9 := Lib.hid u9
          clear u9
          have HI := Lib.hid hI
          clear hI
          go_wp2_with fail
          refine step3_done rfl ?_ ?_ ?_
          · exact (toI HIp HI.out)
          · exact (Below.refl _ _)
          · exact (toV HV ⟨_, rfl⟩)
        · have u10 := hV
          clear hV
          simp only [u10]
          clear u10
          have HI := Lib.hid hI
          clear hI
          go_wp2_with fail
          refine step3_done rfl ?_ ?_ ?_
          · exact (toI HIp HI.out)
          · exact (Below.refl _ _)
          · exact (toV HV rfl)
      case fin =>
        intro x W L hL hI hV
        replace hI : (Below w5.heap.size w5 W ∧ (L 13 = true → ∃ g e0 e1 e2 e3, x 11 = .pointer (some ⟨g, 0, none⟩) ∧ w5.heap.size ≤ g ∧ NilS e0 e1 ∧ NilS e2 e3 ∧ Blk g (.cells #[.int .i64 2, .int .i64 1, .slice e0 0 e1, .slice e2 0 e3, .int .i64 0] 33 (0, 0)) W)) := ofI HIp hI
        rw [HV.out] at hV
        simp only [AllV, and_true] at hV
        obtain ⟨u0, u1, u2, u3, ⟨e0, e1, e2, e3, f0, f1, f2, f3, f4, f5, f6, z4, u4, k4, m4⟩, ⟨e0, e1, e2, e3, f0, f1, f2, f3, f4, f5, f6, z5, u5, k5, m5⟩, ⟨e0, e1, e2, e3, u6, k6, m6⟩, ⟨f0, f1, f2, f3, f4, f5, f6, u7⟩, u8, ⟨y9, u9⟩, u10, u13, u14, u15, ⟨y16, u16⟩, u17⟩ := hV
        simp only [getsD, List.getD_cons_succ, List.getD_cons_zero, List.length_cons, List.length_nil, List.range, List.range.loop, u0, u1, u2, u3, u4, u5, u6, u7, u8, u9, u10, u13, u14, u15, u16, u17, Act.put, List.setIfInBounds_toArray, List.set_cons_succ, List.set_cons_zero]
        clear u0 u1 u2 u3 u4 u5 u6 u7 u8 u9 u10 u13 u14 u15 u16 u17
        obtain ⟨gA, sA0, cA0, sA1, cA1, hxA, hlA, nA0, nA1, bA⟩ := hI.2 (hL 13 (by simp))
        have hb := hI.1
        replace p0 := (hb.cell (p := ⟨pg, po, none⟩) pF.2).trans p0
        replace p1' := (hb.cell (p := ⟨pg, po + 1, none⟩) pF.2).trans p1'
        replace p2' := (hb.cell (p := ⟨pg, po + 1 + 1, none⟩) pF.2).trans p2'
        replace p3 := (hb.cell (p := ⟨pg, po + 1 + 1 + 1, none⟩) pF.2).trans p3
        replace p4 := (hb.cell (p := ⟨pg, po + 1 + 1 + 1 + 1, none⟩) pF.2).trans p4
        replace p5 := (hb.cell (p := ⟨pg, po + 1 + 1 + 1 + 1 + 1, none⟩) pF.2).trans p5
        replace p6 := (hb.cell (p := ⟨pg, po + 1 + 1 + 1 + 1 + 1 + 1, none⟩) pF.2).trans p6
        replace p7 := (hb.cell (p := ⟨pg, po + 1 + 1 + 1 + 1 + 1 + 1 + 1, none⟩) pF.2).trans p7
        replace p8 := (hb.cell (p := ⟨pg, po + 1 + 1 + 1 + 1 + 1 + 1 + 1 + 1, none⟩) pF.2).trans p8
        replace pR := pR.up hb
        replace pF : Fresh w3.heap.size W pg := ⟨pF.1, Nat.lt_of_lt_of_le pF.2 hb.size⟩
        replace q0 := (hb.cell (p := ⟨qg, qo, none⟩) qF.2).trans q0
        replace q1' := (hb.cell (p := ⟨qg, qo + 1, none⟩) qF.2).trans q1'
        replace q2' := (hb.cell (p := ⟨qg, qo + 1 + 1, none⟩) qF.2).trans q2'
        replace q3 := (hb.cell (p := ⟨qg, qo + 1 + 1 + 1, none⟩) qF.2).trans q3
        replace q4 := (hb.cell (p := ⟨qg, qo + 1 + 1 + 1 + 1, none⟩) qF.2).trans q4
        replace q5 := (hb.cell (p := ⟨qg, qo + 1 + 1 + 1 + 1 + 1, none⟩) qF.2).trans q5
        replace q6 := (hb.cell (p := ⟨qg, qo + 1 + 1 + 1 + 1 + 1 + 1, none⟩) qF.2).trans q6
        replace q7 := (hb.cell (p := ⟨qg, qo + 1 + 1 + 1 + 1 + 1 + 1 + 1, none⟩) qF.2).trans q7
        replace q8 := (hb.cell (p := ⟨qg, qo + 1 + 1 + 1 + 1 + 1 + 1 + 1 + 1, none⟩) qF.2).trans q8
        replace qR := qR.up hb
        replace qF : Fresh w3.heap.size W qg := ⟨qF.1, Nat.lt_of_lt_of_le qF.2 hb.size⟩
        have XA := Lib.hid bA
        have XS := Lib.hid bA
        replace GD := Lib.hid (GD.out.go hb)
        have N0 := Lib.hid (And.intro nA0 nA1)
        replace B5 := Lib.hid (up B5.out hb)
        simp only [hxA]
        obtain ⟨w6, rfl⟩ : ∃ x : World, x = W := ⟨_, rfl⟩
        clear hI hL hb bA nA0 nA1
        go_wp2_with fail
        obtain ⟨Vp, HV⟩ : ∃ Vp : Nat → Value → World → Prop, Hid (Vp = fun i v W => match i with
            | 0 => v = .agg #[.int .i64 2, .int .i64 1, .slice sA0 0 cA0, .slice sA1 0 cA1, .int .i64 0]
            | 1 => v = .slice (some ⟨pg, po, none⟩) 1 pc
            | 2 => v = .pointer (some ⟨pg, po, none⟩)
            | 3 => v = .agg #[.int .i64 p1.epoch, .int .i64 p1.number, .bool p1.bare, .int .i64 p1.ack, .int .i64 p1.f.kind, .int .i64 p1.f.heard, .int .i64 p1.f.epoch, .slice pa p1.f.op.length pd, .string p1.f.text]
            | 4 => ∃ e0 e1 e2 e3 f0 f1 f2 f3 f4 f5 f6 z, v = .tuple #[.agg #[.int .i64 2, .int .i64 1, .slice e0 0 e1, .slice e2 0 e3, .int .i64 1], .agg #[.int .i64 f0, .int .i64 f1, .int .i64 f2, .slice f3 f4 f5, .string f6], .bool true, z, .int .i64 0] ∧ NilS e0 e1 ∧ NilS e2 e3
            | 5 => ∃ e0 e1 e2 e3 f0 f1 f2 f3 f4 f5 f6 z, v = .tuple #[.agg #[.int .i64 2, .int .i64 1, .slice e0 0 e1, .slice e2 0 e3, .int .i64 1], .agg #[.int .i64 f0, .int .i64 f1, .int .i64 f2, .slice f3 f4 f5, .string f6], .bool true, z, .int .i64 0] ∧ NilS e0 e1 ∧ NilS e2 e3
            | 6 => ∃ e0 e1 e2 e3, v = .agg #[.int .i64 2, .int .i64 1, .slice e0 0 e1, .slice e2 0 e3, .int .i64 1] ∧ NilS e0 e1 ∧ NilS e2 e3
            | 7 => ∃ f0 f1 f2 f3 f4 f5 f6, v = .agg #[.int .i64 f0, .int .i64 f1, .int .i64 f2, .slice f3 f4 f5, .string f6]
            | 8 => v = .bool true
            | 9 => ∃ y, v = y
            | 10 => v = .int .i64 0
            | 11 => ∃ g, v = .pointer (some ⟨g, 0, none⟩) ∧ w6.heap.size ≤ g ∧ Blk g (.cells #[.int .i64 0, .int .i64 0, .slice none 0 0, .slice none 0 0, .int .i64 0] 33 (0, 0)) W
            | 12 => ∃ g, v = .pointer (some ⟨g, 0, none⟩) ∧ w6.heap.size ≤ g ∧ Blk g (.cells #[.int .i64 0, .int .i64 0, .int .i64 0, .slice none 0 0, .string ⟨#[]⟩] 30 (0, 0)) W
            | 13 => v = undef
            | 14 => v = undef
            | 15 => v = .bool true
            | 16 => ∃ y, v = y
            | _ => v = .int .i64 0) := ⟨_, rfl⟩
        obtain ⟨Ip, HIp⟩ : ∃ Ip : (Nat → Bool) → (Nat → Value) → World → Prop, Hid (Ip = fun L x W => (Below w6.heap.size w6 W ∧ (L 13 = true → ∃ g e0 e1 e2 e3, x 11 = .pointer (some ⟨g, 0, none⟩) ∧ w6.heap.size ≤ g ∧ NilS e0 e1 ∧ NilS e2 e3 ∧ Blk g (.cells #[.int .i64 2, .int .i64 1, .slice e0 0 e1, .slice e2 0 e3, .int .i64 1] 33 (0, 0)) W))) := ⟨_, rfl⟩
        refine region_lit3 (by kernel_rfl) (by kernel_rfl) (by kernel_rfl) [[], [], [1], [1, 2], [0, 1, 2, 3], [0, 1, 2, 3, 4], [0, 1, 2, 3, 4, 5], [0, 1, 2, 3, 4, 5], [0, 1, 2, 3, 4, 5], [0, 1, 2, 3, 4, 5], [0, 1, 2, 3, 4, 5], [], [], [0, 1, 2, 3, 4, 5, 6, 11], [0, 1, 2, 3, 4, 5, 7, 12], [0, 1, 2, 3, 4, 5, 8], [0, 1, 2, 3, 4, 5, 9], [0, 1, 2, 3, 4, 5, 10]] (by kernel_rfl) [some 91, some 92, some 93, some 94, some 95, some 90, some 96, some 97, some 98, some 99, some 100, some 19, some 20, none, none, some 21, some 22, some 23] (by kernel_rfl) [[0, 4, 5, 6, 7, 8, 9, 10, 13, 14, 15, 16, 17], [1, 2, 3, 4, 5, 6, 7, 8, 9, 10, 13, 14, 15, 16, 17], [2, 3, 4, 5, 6, 7, 8, 9, 10, 13, 14, 15, 16, 17], [3, 4, 5, 6, 7, 8, 9, 10, 13, 14, 15, 16, 17], [4, 5, 6, 7, 8, 9, 10, 13, 14, 15, 16, 17], [5, 6, 7, 8, 9, 10, 13, 14, 15, 16, 17], [6, 13], [7, 14], [8, 15], [9, 16], [10, 17], [11, 13], [12, 14], [13], [14], [15], [16], [17]] (by kernel_rfl) [[], [], [], [], [], [], [], [], [], [], [], [13], [14], [], [], [], [], []] [[], [], [1], [2], [0, 3], [4], [5], [5], [5], [5], [5], [], [], [6, 11], [7, 12], [8], [9], [10]] (by kernel_rfl)
          Ip
          Vp
          (fun j W W' => match j with
            | 13 => ∃ g, Blk g (.cells #[.int .i64 0, .int .i64 0, .slice none 0 0, .slice none 0 0, .int .i64 0] 33 (0, 0)) W ∧ Touch (fun z => z = g) W W' ∧ w6.heap.size ≤ g
            | 14 => ∃ g, Blk g (.cells #[.int .i64 0, .int .i64 0, .int .i64 0, .slice none 0 0, .string ⟨#[]⟩] 30 (0, 0)) W ∧ Touch (fun z => z = g) W W' ∧ w6.heap.size ≤ g
            | _ => Below W.heap.size W W')
          [fun x => ⟨#[undef, undef, undef, undef, undef, undef, undef, undef, undef, undef, undef, undef, undef, undef, .pointer (some ⟨gA, 0, none⟩), undef, undef, undef, undef, undef, undef, undef, undef, undef, undef, undef, undef, undef, undef, undef, undef, undef, undef, undef, undef, undef, undef, undef, undef, undef, undef, undef, undef, undef, undef, undef, undef, undef, undef, undef, undef, undef, undef, undef, undef, undef, undef, undef, undef, undef, undef, undef, undef, undef, undef, undef, undef, undef, undef, undef, undef, undef, undef, undef, undef, undef, undef, undef, undef, undef, undef, undef, undef, undef, undef, undef, undef, undef, undef, undef, undef, undef], []⟩,
   fun x => ⟨#[undef, undef, undef, undef, undef, undef, undef, undef, undef, .slice (some ⟨pg, po, none⟩) 1 pc, undef, undef, undef, undef, undef, undef, undef, undef, undef, undef, undef, undef, undef, undef, undef, undef, undef, undef, undef, undef, undef, undef, undef, undef, undef, undef, undef, undef, undef, undef, undef, undef, undef, undef, undef, undef, undef, undef, undef, undef, undef, undef, undef, undef, undef, undef, undef, undef, undef, undef, undef, undef, undef, undef, undef, undef, undef, undef, undef, undef, undef, undef, undef, undef, undef, undef, undef, undef, undef, undef, undef, undef, undef, undef, undef, undef, undef, undef, undef, undef, undef, undef, undef], []⟩,
   fun x => ⟨#[undef, undef, undef, undef, undef, undef, undef, undef, undef, undef, undef, undef, undef, undef, undef, undef, undef, undef, undef, undef, undef, undef, undef, undef, undef, undef, undef, undef, undef, undef, undef, undef, undef, undef, undef, undef, undef, undef, undef, undef, undef, undef, undef, undef, undef, undef, undef, undef, undef, undef, undef, undef, undef, undef, undef, undef, undef, undef, undef, undef, undef, undef, undef, undef, undef, undef, undef, undef, undef, undef, undef, undef, undef, undef, undef, undef, undef, undef, undef, undef, undef, undef, undef, undef, undef, undef, undef, undef, undef, undef, undef, undef, x 1, undef], []⟩,
   fun x => ⟨#[undef, undef, undef, undef, undef, undef, undef, undef, undef, undef, undef, undef, undef, undef, undef, undef, undef, undef, undef, undef, undef, undef, undef, undef, undef, undef, undef, undef, undef, undef, undef, undef, undef, undef, undef, undef, undef, undef, undef, undef, undef, undef, undef, undef, undef, undef, undef, undef, undef, undef, undef, undef, undef, undef, undef, undef, undef, undef, undef, undef, undef, undef, undef, undef, undef, undef, undef, undef, undef, undef, undef, undef, undef, undef, undef, undef, undef, undef, undef, undef, undef, undef, undef, undef, undef, undef, undef, undef, undef, undef, undef, undef, undef, x 2, undef], []⟩,
   fun x => ⟨#[undef, undef, undef, undef, undef, undef, undef, undef, undef, undef, undef, undef, undef, undef, undef, undef, undef, undef, undef, undef, undef, undef, undef, undef, undef, undef, undef, undef, undef, undef, undef, undef, undef, undef, undef, undef, undef, undef, undef, undef, undef, undef, undef, undef, undef, undef, undef, undef, undef, undef, undef, undef, undef, undef, undef, undef, undef, undef, undef, undef, undef, undef, undef, undef, undef, undef, undef, undef, undef, undef, undef, undef, undef, undef, undef, undef, undef, undef, undef, undef, undef, undef, undef, undef, undef, undef, undef, undef, undef, undef, undef, x 0, undef, undef, x 3, undef], []⟩,
   fun x => ⟨#[undef, undef, undef, undef, undef, undef, undef, undef, undef, undef, undef, undef, undef, undef, undef, undef, undef, undef, undef, undef, undef, undef, undef, undef, undef, undef, undef, undef, undef, undef, undef, undef, undef, undef, undef, undef, undef, undef, undef, undef, undef, undef, undef, undef, undef, undef, undef, undef, undef, undef, undef, undef, undef, undef, undef, undef, undef, undef, undef, undef, undef, undef, undef, undef, undef, undef, undef, undef, undef, undef, undef, undef, undef, undef, undef, undef, undef, undef, undef, undef, undef, undef, undef, undef, undef, undef, undef, undef, undef, undef, undef, undef, undef, undef, undef, x 4], []⟩,
   fun x => ⟨#[undef, undef, undef, undef, undef, undef, undef, undef, undef, undef, undef, undef, undef, undef, undef, undef, undef, undef, undef, undef, undef, undef, undef, undef, undef, undef, undef, undef, undef, undef, undef, undef, undef, undef, undef, undef, undef, undef, undef, undef, undef, undef, undef, undef, undef, undef, undef, undef, undef, undef, undef, undef, undef, undef, undef, undef, undef, undef, undef, undef, undef, undef, undef, undef, undef, undef, undef, undef, undef, undef, undef, undef, undef, undef, undef, undef, undef, undef, undef, undef, undef, undef, undef, undef, undef, undef, undef, undef, undef, undef, x 5, undef, undef, undef, undef, undef, undef], []⟩,
   fun x => ⟨#[undef, undef, undef, undef, undef, undef, undef, undef, undef, undef, undef, undef, undef, undef, undef, undef, undef, undef, undef, undef, undef, undef, undef, undef, undef, undef, undef, undef, undef, undef, undef, undef, undef, undef, undef, undef, undef, undef, undef, undef, undef, undef, undef, undef, undef, undef, undef, undef, undef, undef, undef, undef, undef, undef, undef, undef, undef, undef, undef, undef, undef, undef, undef, undef, undef, undef, undef, undef, undef, undef, undef, undef, undef, undef, undef, undef, undef, undef, undef, undef, undef, undef, undef, undef, undef, undef, undef, undef, undef, undef, x 5, undef, undef, undef, undef, undef, undef, undef], []⟩,
   fun x => ⟨#[undef, undef, undef, undef, undef, undef, undef, undef, undef, undef, undef, undef, undef, undef, undef, undef, undef, undef, undef, undef, undef, undef, undef, undef, undef, undef, undef, undef, undef, undef, undef, undef, undef, undef, undef, undef, undef, undef, undef, undef, undef, undef, undef, undef, undef, undef, undef, undef, undef, undef, undef, undef, undef, undef, undef, undef, undef, undef, undef, undef, undef, undef, undef, undef, undef, undef, undef, undef, undef, undef, undef, undef, undef, undef, undef, undef, undef, undef, undef, undef, undef, undef, undef, undef, undef, undef, undef, undef, undef, undef, x 5, undef, undef, undef, undef, undef, undef, undef, undef], []⟩,
   fun x => ⟨#[undef, undef, undef, undef, undef, undef, undef, undef, undef, undef, undef, undef, undef, undef, undef, undef, undef, undef, undef, undef, undef, undef, undef, undef, undef, undef, undef, undef, undef, undef, undef, undef, undef, undef, undef, undef, undef, undef, undef, undef, undef, undef, undef, undef, undef, undef, undef, undef, undef, undef, undef, undef, undef, undef, undef, undef, undef, undef, undef, undef, undef, undef, undef, undef, undef, undef, undef, undef, undef, undef, undef, undef, undef, undef, undef, undef, undef, undef, undef, undef, undef, undef, undef, undef, undef, undef, undef, undef, undef, undef, x 5, undef, undef, undef, undef, undef, undef, undef, undef, undef], []⟩,
   fun x => ⟨#[undef, undef, undef, undef, undef, undef, undef, undef, undef, undef, undef, undef, undef, undef, undef, undef, undef, undef, undef, undef, undef, undef, undef, undef, undef, undef, undef, undef, undef, undef, undef, undef, undef, undef, undef, undef, undef, undef, undef, undef, undef, undef, undef, undef, undef, undef, undef, undef, undef, undef, undef, undef, undef, undef, undef, undef, undef, undef, undef, undef, undef, undef, undef, undef, undef, undef, undef, undef, undef, undef, undef, undef, undef, undef, undef, undef, undef, undef, undef, undef, undef, undef, undef, undef, undef, undef, undef, undef, undef, undef, x 5, undef, undef, undef, undef, undef, undef, undef, undef, undef, undef], []⟩,
   fun x => ⟨#[undef, undef, undef, undef, undef, undef, undef, undef, undef, undef, undef, undef, undef, undef, undef, undef, undef, undef, undef, undef], []⟩,
   fun x => ⟨#[undef, undef, undef, undef, undef, undef, undef, undef, undef, undef, undef, undef, undef, undef, undef, undef, undef, undef, undef, undef, undef], []⟩,
   fun x => ⟨#[undef, undef, undef, undef, undef, undef, undef, undef, undef, undef, undef, undef, undef, undef, undef, undef, undef, undef, undef, x 11, undef, undef, undef, undef, undef, undef, undef, undef, undef, undef, undef, undef, undef, undef, undef, undef, undef, undef, undef, undef, undef, undef, undef, undef, undef, undef, undef, undef, undef, undef, undef, undef, undef, undef, undef, undef, undef, undef, undef, undef, undef, undef, undef, undef, undef, undef, undef, undef, undef, undef, undef, undef, undef, undef, undef, undef, undef, undef, undef, undef, undef, undef, undef, undef, undef, undef, undef, undef, undef, undef, undef, undef, undef, undef, undef, undef, x 6], []⟩,
   fun x => ⟨#[undef, undef, undef, undef, undef, undef, undef, undef, undef, undef, undef, undef, undef, undef, undef, undef, undef, undef, undef, undef, x 12, undef, undef, undef, undef, undef, undef, undef, undef, undef, undef, undef, undef, undef, undef, undef, undef, undef, undef, undef, undef, undef, undef, undef, undef, undef, undef, undef, undef, undef, undef, undef, undef, undef, undef, undef, undef, undef, undef, undef, undef, undef, undef, undef, undef, undef, undef, undef, undef, undef, undef, undef, undef, undef, undef, undef, undef, undef, undef, undef, undef, undef, undef, undef, undef, undef, undef, undef, undef, undef, undef, undef, undef, undef, undef, undef, undef, x 7], []⟩,
   fun x => ⟨#[undef, undef, undef, undef, undef, undef, undef, undef, undef, undef, undef, undef, undef, undef, undef, undef, undef, undef, undef, undef, undef, undef, undef, undef, undef, undef, undef, undef, undef, undef, undef, undef, undef, undef, undef, undef, undef, undef, undef, undef, undef, undef, undef, undef, undef, undef, undef, undef, undef, undef, undef, undef, undef, undef, undef, undef, undef, undef, undef, undef, undef, undef, undef, undef, undef, undef, undef, undef, undef, undef, undef, undef, undef, undef, undef, undef, undef, undef, undef, undef, undef, undef, undef, undef, undef, undef, undef, undef, undef, undef, undef, undef, undef, undef, undef, undef, undef, undef, x 8], []⟩,
   fun x => ⟨#[undef, undef, undef, undef, undef, undef, undef, undef, undef, undef, undef, undef, undef, undef, undef, undef, undef, undef, undef, undef, undef, undef, undef, undef, undef, undef, undef, undef, undef, undef, undef, undef, undef, undef, undef, undef, undef, undef, undef, undef, undef, undef, undef, undef, undef, undef, undef, undef, undef, undef, undef, undef, undef, undef, undef, undef, undef, undef, undef, undef, undef, undef, undef, undef, undef, undef, undef, undef, undef, undef, undef, undef, undef, undef, undef, undef, undef, undef, undef, undef, undef, undef, undef, undef, undef, undef, undef, undef, undef, undef, undef, undef, undef, undef, undef, undef, undef, undef, undef, x 9], []⟩,
   fun x => ⟨#[undef, undef, undef, undef, undef, undef, undef, undef, undef, undef, undef, undef, undef, undef, undef, undef, undef, undef, undef, undef, undef, undef, undef, undef, undef, undef, undef, undef, undef, undef, undef, undef, undef, undef, undef, undef, undef, undef, undef, undef, undef, undef, undef, undef, undef, undef, undef, undef, undef, undef, undef, undef, undef, undef, undef, undef, undef, undef, undef, undef, undef, undef, undef, undef, undef, undef, undef, undef, undef, undef, undef, undef, undef, undef, undef, undef, undef, undef, undef, undef, undef, undef, undef, undef, undef, undef, undef, undef, undef, undef, undef, undef, undef, undef, undef, undef, undef, undef, undef, undef, x 10], []⟩]
          ?hF ?mono ?h0 ?step [0, 1, 2, 3, 4, 5, 6, 7, 8, 9, 10, 13, 14, 15, 16, 17] (by kernel_rfl) ?fin
        case hF =>
          exact ⟨fun x => ⟨by kernel_rfl, by kernel_rfl⟩, fun x => ⟨by kernel_rfl, by kernel_rfl⟩, fun x => ⟨by kernel_rfl, by kernel_rfl⟩, fun x => ⟨by kernel_rfl, by kernel_rfl⟩, fun x => ⟨by kernel_rfl, by kernel_rfl⟩, fun x => ⟨by kernel_rfl, by kernel_rfl⟩, fun x => ⟨by kernel_rfl, by kernel_rfl⟩, fun x => ⟨by kernel_rfl, by kernel_rfl⟩, fun x => ⟨by kernel_rfl, by kernel_rfl⟩, fun x => ⟨by kernel_rfl, by kernel_rfl⟩, fun x => ⟨by kernel_rfl, by kernel_rfl⟩, fun x => ⟨by kernel_rfl, by kernel_rfl⟩, fun x => ⟨by kernel_rfl, by kernel_rfl⟩, fun x => ⟨by kernel_rfl, by kernel_rfl⟩, fun x => ⟨by kernel_rfl, by kernel_rfl⟩, fun x => ⟨by kernel_rfl, by kernel_rfl⟩, fun x => ⟨by kernel_rfl, by kernel_rfl⟩, fun x => ⟨by kernel_rfl, by kernel_rfl⟩, trivial⟩
        case mono =>
          intro i j hi hj hne hna hnk v W W' hE hv
          rw [HV.out] at hv ⊢
          simp only [List.length_cons, List.length_nil] at hi hj
          match i, hi with
          | 0, _ | 1, _ | 2, _ | 3, _ | 8, _ | 10, _ | 13, _ | 14, _ | 15, _ | 17, _ => exact hv
          | 4, _ =>
            match j, hj with
            | 4, _ => exact absurd rfl hne
            | 0, _ => exact absurd (by simp) hna
            | 1, _ => exact absurd (by simp) hna
            | 2, _ => exact absurd (by simp) hna
            | 3, _ => exact absurd (by simp) hna
            | 5, _ => exact (id hv)
            | 6, _ => exact (id hv)
            | 7, _ => exact (id hv)
            | 8, _ => exact (id hv)
            | 9, _ => exact (id hv)
            | 10, _ => exact (id hv)
            | 11, _ => exact (id hv)
            | 12, _ => exact (id hv)
            | 13, _ => exact (id hv)
            | 14, _ => exact (id hv)
            | 15, _ => exact (id hv)
            | 16, _ => exact (id hv)
            | 17, _ => exact (id hv)
            | m + 18, h => exact absurd h (by omega)
          | 5, _ =>
            match j, hj with
            | 5, _ => exact absurd rfl hne
            | 0, _ => exact absurd (by simp) hna
            | 1, _ => exact absurd (by simp) hna
            | 2, _ => exact absurd (by simp) hna
            | 3, _ => exact absurd (by simp) hna
            | 4, _ => exact absurd (by simp) hna
            | 6, _ => exact (id hv)
            | 7, _ => exact (id hv)
            | 8, _ => exact (id hv)
            | 9, _ => exact (id hv)
            | 10, _ => exact (id hv)
            | 11, _ => exact (id hv)
            | 12, _ => exact (id hv)
            | 13, _ => exact (id hv)
            | 14, _ => exact (id hv)
            | 15, _ => exact (id hv)
            | 16, _ => exact (id hv)
            | 17, _ => exact (id hv)
            | m + 18, h => exact absurd h (by omega)
          | 6, _ =>
            match j, hj with
            | 6, _ => exact absurd rfl hne
            | 0, _ => exact absurd (by simp) hna
            | 1, _ => exact absurd (by simp) hna
            | 2, _ => exact absurd (by simp) hna
            | 3, _ => exact absurd (by simp) hna
            | 4, _ => exact absurd (by simp) hna
            | 5, _ => exact absurd (by simp) hna
            | 7, _ => exact (id hv)
            | 8, _ => exact (id hv)
            | 9, _ => exact (id hv)
            | 10, _ => exact (id hv)
            | 11, _ => exact (id hv)
            | 12, _ => exact (id hv)
            | 13, _ => exact (id hv)
            | 14, _ => exact (id hv)
            | 15, _ => exact (id hv)
            | 16, _ => exact (id hv)
            | 17, _ => exact (id hv)
            | m + 18, h => exact absurd h (by omega)
          | 7, _ =>
            match j, hj with
            | 7, _ => exact absurd rfl hne
            | 0, _ => exact absurd (by simp) hna
            | 1, _ => exact absurd (by simp) hna
            | 2, _ => exact absurd (by simp) hna
            | 3, _ => exact absurd (by simp) hna
            | 4, _ => exact absurd (by simp) hna
            | 5, _ => exact absurd (by simp) hna
            | 6, _ => exact (id hv)
            | 8, _ => exact (id hv)
            | 9, _ => exact (id hv)
            | 10, _ => exact (id hv)
            | 11, _ => exact (id hv)
            | 12, _ => exact (id hv)
            | 13, _ => exact (id hv)
            | 14, _ => exact (id hv)
            | 15, _ => exact (id hv)
            | 16, _ => exact (id hv)
            | 17, _ => exact (id hv)
            | m + 18, h => exact absurd h (by omega)
          | 9, _ =>
            match j, hj with
            | 9, _ => exact absurd rfl hne
            | 0, _ => exact absurd (by simp) hna
            | 1, _ => exact absurd (by simp) hna
            | 2, _ => exact absurd (by simp) hna
            | 3, _ => exact absurd (by simp) hna
            | 4, _ => exact absurd (by simp) hna
            | 5, _ => exact absurd (by simp) hna
            | 6, _ => exact (id hv)
            | 7, _ => exact (id hv)
            | 8, _ => exact (id hv)
            | 10, _ => exact (id hv)
            | 11, _ => exact (id hv)
            | 12, _ => exact (id hv)
            | 13, _ => exact (id hv)
            | 14, _ => exact (id hv)
            | 15, _ => exact (id hv)
            | 16, _ => exact (id hv)
            | 17, _ => exact (id hv)
            | m + 18, h => exact absurd h (by omega)
          | 11, _ =>
            match j, hj with
            | 11, _ => exact absurd rfl hne
            | 13, _ => exact absurd (by simp) hnk
            | 0, _ => exact (by obtain ⟨g, h1, h2, h3⟩ := hv; exact ⟨g, h1, h2, h3.go hE⟩)
            | 1, _ => exact (by obtain ⟨g, h1, h2, h3⟩ := hv; exact ⟨g, h1, h2, h3.go hE⟩)
            | 2, _ => exact (by obtain ⟨g, h1, h2, h3⟩ := hv; exact ⟨g, h1, h2, h3.go hE⟩)
            | 3, _ => exact (by obtain ⟨g, h1, h2, h3⟩ := hv; exact ⟨g, h1, h2, h3.go hE⟩)
            | 4, _ => exact (by obtain ⟨g, h1, h2, h3⟩ := hv; exact ⟨g, h1, h2, h3.go hE⟩)
            | 5, _ => exact (by obtain ⟨g, h1, h2, h3⟩ := hv; exact ⟨g, h1, h2, h3.go hE⟩)
            | 6, _ => exact (by obtain ⟨g, h1, h2, h3⟩ := hv; exact ⟨g, h1, h2, h3.go hE⟩)
            | 7, _ => exact (by obtain ⟨g, h1, h2, h3⟩ := hv; exact ⟨g, h1, h2, h3.go hE⟩)
            | 8, _ => exact (by obtain ⟨g, h1, h2, h3⟩ := hv; exact ⟨g, h1, h2, h3.go hE⟩)
            | 9, _ => exact (by obtain ⟨g, h1, h2, h3⟩ := hv; exact ⟨g, h1, h2, h3.go hE⟩)
            | 10, _ => exact (by obtain ⟨g, h1, h2, h3⟩ := hv; exact ⟨g, h1, h2, h3.go hE⟩)
            | 12, _ => exact (by obtain ⟨g, h1, h2, h3⟩ := hv; exact ⟨g, h1, h2, h3.go hE⟩)
            | 14, _ => exact (by obtain ⟨g, h1, h2, h3⟩ := hv; obtain ⟨g', hz, ht, -⟩ := hE; exact ⟨g, h1, h2, h3.touch ht (fun e => blk_types h3 hz (by decide) e)⟩)
            | 15, _ => exact (by obtain ⟨g, h1, h2, h3⟩ := hv; exact ⟨g, h1, h2, h3.go hE⟩)
            | 16, _ => exact (by obtain ⟨g, h1, h2, h3⟩ := hv; exact ⟨g, h1, h2, h3.go hE⟩)
            | 17, _ => exact (by obtain ⟨g, h1, h2, h3⟩ := hv; exact ⟨g, h1, h2, h3.go hE⟩)
            | m + 18, h => exact absurd h (by omega)
          | 12, _ =>
            match j, hj with
            | 12, _ => exact absurd rfl hne
            | 14, _ => exact absurd (by simp) hnk
            | 0, _ => exact (by obtain ⟨g, h1, h2, h3⟩ := hv; exact ⟨g, h1, h2, h3.go hE⟩)
            | 1, _ => exact (by obtain ⟨g, h1, h2, h3⟩ := hv; exact ⟨g, h1, h2, h3.go hE⟩)
            | 2, _ => exact (by obtain ⟨g, h1, h2, h3⟩ := hv; exact ⟨g, h1, h2, h3.go hE⟩)
            | 3, _ => exact (by obtain ⟨g, h1, h2, h3⟩ := hv; exact ⟨g, h1, h2, h3.go hE⟩)
            | 4, _ => exact (by obtain ⟨g, h1, h2, h3⟩ := hv; exact ⟨g, h1, h2, h3.go hE⟩)
            | 5, _ => exact (by obtain ⟨g, h1, h2, h3⟩ := hv; exact ⟨g, h1, h2, h3.go hE⟩)
            | 6, _ => exact (by obtain ⟨g, h1, h2, h3⟩ := hv; exact ⟨g, h1, h2, h3.go hE⟩)
            | 7, _ => exact (by obtain ⟨g, h1, h2, h3⟩ := hv; exact ⟨g, h1, h2, h3.go hE⟩)
            | 8, _ => exact (by obtain ⟨g, h1, h2, h3⟩ := hv; exact ⟨g, h1, h2, h3.go hE⟩)
            | 9, _ => exact (by obtain ⟨g, h1, h2, h3⟩ := hv; exact ⟨g, h1, h2, h3.go hE⟩)
            | 10, _ => exact (by obtain ⟨g, h1, h2, h3⟩ := hv; exact ⟨g, h1, h2, h3.go hE⟩)
            | 11, _ => exact (by obtain ⟨g, h1, h2, h3⟩ := hv; exact ⟨g, h1, h2, h3.go hE⟩)
            | 13, _ => exact (by obtain ⟨g, h1, h2, h3⟩ := hv; obtain ⟨g', hz, ht, -⟩ := hE; exact ⟨g, h1, h2, h3.touch ht (fun e => blk_types h3 hz (by decide) e)⟩)
            | 15, _ => exact (by obtain ⟨g, h1, h2, h3⟩ := hv; exact ⟨g, h1, h2, h3.go hE⟩)
            | 16, _ => exact (by obtain ⟨g, h1, h2, h3⟩ := hv; exact ⟨g, h1, h2, h3.go hE⟩)
            | 17, _ => exact (by obtain ⟨g, h1, h2, h3⟩ := hv; exact ⟨g, h1, h2, h3.go hE⟩)
            | m + 18, h => exact absurd h (by omega)
          | 16, _ =>
            match j, hj with
            | 16, _ => exact absurd rfl hne
            | 0, _ => exact absurd (by simp) hna
            | 1, _ => exact absurd (by simp) hna
            | 2, _ => exact absurd (by simp) hna
            | 3, _ => exact absurd (by simp) hna
            | 4, _ => exact absurd (by simp) hna
            | 5, _ => exact absurd (by simp) hna
            | 9, _ => exact absurd (by simp) hna
            | 6, _ => exact (id hv)
            | 7, _ => exact (id hv)
            | 8, _ => exact (id hv)
            | 10, _ => exact (id hv)
            | 11, _ => exact (id hv)
            | 12, _ => exact (id hv)
            | 13, _ => exact (id hv)
            | 14, _ => exact (id hv)
            | 15, _ => exact (id hv)
            | 17, _ => exact (id hv)
            | m + 18, h => exact absurd h (by omega)
          | m + 18, h => exact absurd h (by omega)
        case h0 => intro x; exact toI HIp ⟨(Below.refl _ _).drew, fun h => by cases h⟩
        case step =>
          refine ⟨?_, ?_, ?_, ?_, ?_, ?_, ?_, ?_, ?_, ?_, ?_, ?_, ?_, ?_, ?_, ?_, ?_, ?_, trivial⟩
          all_goals
            intro x W L hI hL hV
            replace hI : (Below w6.heap.size w6 W ∧ (L 13 = true → ∃ g e0 e1 e2 e3, x 11 = .pointer (some ⟨g, 0, none⟩) ∧ w6.heap.size ≤ g ∧ NilS e0 e1 ∧ NilS e2 e3 ∧ Blk g (.cells #[.int .i64 2, .int .i64 1, .slice e0 0 e1, .slice e2 0 e3, .int .i64 1] 33 (0, 0)) W)) := ofI HIp hI
            rw [HV.out] at hV
            simp only [AllV, and_true] at hV
          · clear hV
            (try dsimp only)
            obtain ⟨q0', q1', q2', q3', q4'⟩ := blk_cells5 (XS.out.go hI.1)
            have HI := Lib.hid hI
            clear hI
            go_wp2_with fail
            refine step3_done rfl ?_ ?_ ?_
            · exact (toI HIp HI.out)
            · exact (Below.refl _ _)
            · exact (toV HV rfl)
          · clear hV
            (try dsimp only)
            have HI := Lib.hid hI
            clear hI
            go_wp2_with fail
            refine step3_done rfl ?_ ?_ ?_
            · exact (toI HIp HI.out)
            · exact (Below.refl _ _)
            · exact (toV HV rfl)
          · have u1 := hV
            clear hV
            simp only [u1]
            clear u1
            have HI := Lib.hid hI
            clear hI
            go_wp2_with fail
            refine step3_done rfl ?_ ?_ ?_
            · exact (toI HIp HI.out)
            · exact (Below.refl _ _)
            · exact (toV HV rfl)
          · have u2 := hV
            clear hV
            simp only [u2]
            clear u2
            have y0 := (hI.1.cell (p := ⟨pg, po, none⟩) pF.2).trans p0
            have y1 := (hI.1.cell (p := ⟨pg, po + 1, none⟩) pF.2).trans p1'
            have y2 := (hI.1.cell (p := ⟨pg, po + 1 + 1, none⟩) pF.2).trans p2'
            have y3 := (hI.1.cell (p := ⟨pg, po + 1 + 1 + 1, none⟩) pF.2).trans p3
            have y4 := (hI.1.cell (p := ⟨pg, po + 1 + 1 + 1 + 1, none⟩) pF.2).trans p4
            have y5 := (hI.1.cell (p := ⟨pg, po + 1 + 1 + 1 + 1 + 1, none⟩) pF.2).trans p5
            have y6 := (hI.1.cell (p := ⟨pg, po + 1 + 1 + 1 + 1 + 1 + 1, none⟩) pF.2).trans p6
            have y7 := (hI.1.cell (p := ⟨pg, po + 1 + 1 + 1 + 1 + 1 + 1 + 1, none⟩) pF.2).trans p7
            have y8 := (hI.1.cell (p := ⟨pg, po + 1 + 1 + 1 + 1 + 1 + 1 + 1 + 1, none⟩) pF.2).trans p8
            have HI := Lib.hid hI
            clear hI
            go_wp2_with fail
            refine step3_done rfl ?_ ?_ ?_
            · exact (toI HIp HI.out)
            · exact (Below.refl _ _)
            · exact (toV HV rfl)
          · obtain ⟨u0, u3⟩ := hV
            simp only [u0, u3]
            clear u0 u3
            have HI := Lib.hid hI
            have hzW := hI.1.size
            clear hI
            go_wp2_with fail
            refine (HH2.out _ _ _ _ _ _ _ (GD.out.go HI.out.1) N0.out.1 N0.out.2 ⟨_, _, rfl, pR.up HI.out.1⟩).mono ?_
            rintro e W' ⟨e0, e1, e2, e3, f0, f1, f2, f3, f4, f5, f6, z, rfl, kn, mn, hb⟩
            go_wp2_with fail
            refine step3_done rfl ?_ ?_ ?_
            · exact (toI HIp ⟨up HI.out.1 hb, fun h => by obtain ⟨g, e0, e1, e2, e3, h1, h2, n1', n2', h5⟩ := HI.out.2 h; exact ⟨g, e0, e1, e2, e3, h1, h2, n1', n2', h5.go hb⟩⟩)
            · exact hb
            · exact (toV HV ⟨_, _, _, _, _, _, _, _, _, _, _, _, rfl, kn, mn⟩)
          · obtain ⟨e0, e1, e2, e3, f0, f1, f2, f3, f4, f5, f6, z4, u4, k4, m4⟩ := hV
            simp only [u4]
            have U4 := Lib.hid u4
            clear u4
            have HI := Lib.hid hI
            clear hI
            go_wp2_with fail
            refine step3_done rfl ?_ ?_ ?_
            · exact (toI HIp HI.out)
            · exact (Below.refl _ _)
            · exact (toV HV ⟨_, _, _, _, _, _, _, _, _, _, _, _, rfl, k4, m4⟩)
          · obtain ⟨e0, e1, e2, e3, f0, f1, f2, f3, f4, f5, f6, z5, u5, k5, m5⟩ := hV
            simp only [u5]
            have U5 := Lib.hid u5
            clear u5
            have HI := Lib.hid hI
            clear hI
            go_wp2_with fail
            refine step3_done rfl ?_ ?_ ?_
            · exact (toI HIp HI.out)
            · exact (Below.refl _ _)
            · exact (toV HV ⟨_, _, _, _, rfl, k5, m5⟩)
          · obtain ⟨e0, e1, e2, e3, f0, f1, f2, f3, f4, f5, f6, z5, u5, k5, m5⟩ := hV
            simp only [u5]
            have U5 := Lib.hid u5
            clear u5
            have HI := Lib.hid hI
            clear hI
            go_wp2_with fail
            refine step3_done rfl ?_ ?_ ?_
            · exact (toI HIp HI.out)
            · exact (Below.refl _ _)
            · exact (toV HV ⟨_, _, _, _, _, _, _, rfl⟩)
          · obtain ⟨e0, e1, e2, e3, f0, f1, f2, f3, f4, f5, f6, z5, u5, k5, m5⟩ := hV
            simp only [u5]
            have U5 := Lib.hid u5
            clear u5
            have HI := Lib.hid hI
            clear hI
            go_wp2_with fail
            refine step3_done rfl ?_ ?_ ?_
            · exact (toI HIp HI.out)
            · exact (Below.refl _ _)
            · exact (toV HV rfl)
          · obtain ⟨e0, e1, e2, e3, f0, f1, f2, f3, f4, f5, f6, z5, u5, k5, m5⟩ := hV
            simp only [u5]
            have U5 := Lib.hid u5
            clear u5
            have HI := Lib.hid hI
            clear hI
            go_wp2_with fail
            refine step3_done rfl ?_ ?_ ?_
            · exact (toI HIp HI.out)
            · exact (Below.refl _ _)
            · exact (toV HV ⟨_, rfl⟩)
          · obtain ⟨e0, e1, e2, e3, f0, f1, f2, f3, f4, f5, f6, z5, u5, k5, m5⟩ := hV
            simp only [u5]
            have U5 := Lib.hid u5
            clear u5
            have HI := Lib.hid hI
            clear hI
            go_wp2_with fail
            refine step3_done rfl ?_ ?_ ?_
            · exact (toI HIp HI.out)
            · exact (Below.refl _ _)
            · exact (toV HV rfl)
          · clear hV
            (try dsimp only)
            have HL := Lib.hid hL
            have HI := Lib.hid hI
            have hzW := hI.1.size
            clear hI hL
            go_wp2_with fail
            have uW : ∀ o, Below W.heap.size W (W.alloc o) := fun o => (Below.refl _ _).alloc (Nat.le_refl _) o
            refine step3_done rfl ?_ ?_ ?_
            · exact (toI HIp ⟨up HI.out.1 (uW _), fun h => absurd ((HL.out.2 13 (by simp)).symm.trans h) (by simp)⟩)
            · exact (uW _)
            · exact (toV HV ⟨_, rfl, hzW, Blk.new _ _⟩)
          · clear hV
            (try dsimp only)
            have HI := Lib.hid hI
            have hzW := hI.1.size
            clear hI
            go_wp2_with fail
            have uW : ∀ o, Below W.heap.size W (W.alloc o) := fun o => (Below.refl _ _).alloc (Nat.le_refl _) o
            refine step3_done rfl ?_ ?_ ?_
            · exact (toI HIp ⟨up HI.out.1 (uW _), fun h => by obtain ⟨g, e0, e1, e2, e3, h1, h2, n1', n2', h5⟩ := HI.out.2 h; exact ⟨g, e0, e1, e2, e3, h1, h2, n1', n2', h5.go (uW _)⟩⟩)
            · exact (uW _)
            · exact (toV HV ⟨_, rfl, hzW, Blk.new _ _⟩)
          · obtain ⟨⟨e0, e1, e2, e3, u6, k6, m6⟩, ⟨g11, u11, l11, b11⟩⟩ := hV
            simp only [u11, u6]
            have U6 := Lib.hid u6
            have U11 := Lib.hid u11
            clear u6 u11
            obtain ⟨q0', q1', q2', q3', q4'⟩ := blk_cells5 b11
            have fW := b11.frozen
            have hg9 := b11.lt
            have HT := Lib.hid (touch5 W g11 (.int .i64 2) (.int .i64 1) (.slice e0 0 e1) (.slice e2 0 e3) (.int .i64 1))
            have HN := Lib.hid (blk_set5 b11 (.int .i64 2) (.int .i64 1) (.slice e0 0 e1) (.slice e2 0 e3) (.int .i64 1))
            have HI := Lib.hid hI
            have HB9 := Lib.hid b11
            clear hI b11
            go_wp2_with fail
            refine step3_done (v := undef) rfl ?_ ?_ ?_
            · exact (toI HIp ⟨HI.out.1.trans (HT.out.toBelow HI.out.1.size (fun k hk => by omega)), fun _ => ⟨g11, e0, e1, e2, e3, U11.out, l11, k6, m6, HN.out⟩⟩)
            · exact ⟨g11, HB9.out, HT.out, l11⟩
            · exact (toV HV rfl)
          · obtain ⟨⟨f0, f1, f2, f3, f4, f5, f6, u7⟩, ⟨g12, u12, l12, b12⟩⟩ := hV
            simp only [u12, u7]
            have U7 := Lib.hid u7
            have U12 := Lib.hid u12
            clear u7 u12
            obtain ⟨q0', q1', q2', q3', q4'⟩ := blk_cells5 b12
            have fW := b12.frozen
            have hg9 := b12.lt
            have HT := Lib.hid (touch5 W g12 (.int .i64 f0) (.int .i64 f1) (.int .i64 f2) (.slice f3 f4 f5) (.string f6))
            have HN := Lib.hid (blk_set5 b12 (.int .i64 f0) (.int .i64 f1) (.int .i64 f2) (.slice f3 f4 f5) (.string f6))
            have HI := Lib.hid hI
            have HB9 := Lib.hid b12
            clear hI b12
            go_wp2_with fail
            refine step3_done (v := undef) rfl ?_ ?_ ?_
            · exact (toI HIp ⟨HI.out.1.trans (HT.out.toBelow HI.out.1.size (fun k hk => by omega)), fun h => by obtain ⟨g, e0, e1, e2, e3, h1, h2, n1', n2', h5⟩ := HI.out.2 h; exact ⟨g, e0, e1, e2, e3, h1, h2, n1', n2', h5.touch HT.out (fun e => blk_types h5 HB9.out (by decide) e)⟩⟩)
            · exact ⟨g12, HB9.out, HT.out, l12⟩
            · exact (toV HV rfl)
          · have u8 := hV
            clear hV
            simp only [u8]
            clear u8
            have HI := Lib.hid hI
            clear hI
            go_wp2_with fail
            refine step3_done rfl ?_ ?_ ?_
            · exact (toI HIp HI.out)
            · exact (Below.refl _ _)
            · exact (toV HV rfl)
          · obtain ⟨y9, u9⟩ := hV
            simp only [u9]
            have U9 := Lib.hid u9
            clear u9
            have HI := Lib.hid hI
            clear hI
            go_wp2_with fail
            refine step3_done rfl ?_ ?_ ?_
            · exact (toI HIp HI.out)
            · exact (Below.refl _ _)
            · exact (toV HV ⟨_, rfl⟩)
          · have u10 := hV
            clear hV
            simp only [u10]
            clear u10
            have HI := Lib.hid hI
            clear hI
            go_wp2_with fail
            refine step3_done rfl ?_ ?_ ?_
            · exact (toI HIp HI.out)
            · exact (Below.refl _ _)
            · exact (toV HV rfl)
        case fin =>
          intro x W L hL hI hV
          replace hI : (Below w6.heap.size w6 W ∧ (L 13 = true → ∃ g e0 e1 e2 e3, x 11 = .pointer (some ⟨g, 0, none⟩) ∧ w6.heap.size ≤ g ∧ NilS e0 e1 ∧ NilS e2 e3 ∧ Blk g (.cells #[.int .i64 2, .int .i64 1, .slice e0 0 e1, .slice e2 0 e3, .int .i64 1] 33 (0, 0)) W)) := ofI HIp hI
          rw [HV.out] at hV
          simp only [AllV, and_true] at hV
          obtain ⟨u0, u1, u2, u3, ⟨e0, e1, e2, e3, f0, f1, f2, f3, f4, f5, f6, z4, u4, k4, m4⟩, ⟨e0, e1, e2, e3, f0, f1, f2, f3, f4, f5, f6, z5, u5, k5, m5⟩, ⟨e0, e1, e2, e3, u6, k6, m6⟩, ⟨f0, f1, f2, f3, f4, f5, f6, u7⟩, u8, ⟨y9, u9⟩, u10, u13, u14, u15, ⟨y16, u16⟩, u17⟩ := hV
          simp only [getsD, List.getD_cons_succ, List.getD_cons_zero, List.length_cons, List.length_nil, List.range, List.range.loop, u0, u1, u2, u3, u4, u5, u6, u7, u8, u9, u10, u13, u14, u15, u16, u17, Act.put, List.setIfInBounds_toArray, List.set_cons_succ, List.set_cons_zero]
          clear u0 u1 u2 u3 u4 u5 u6 u7 u8 u9 u10 u13 u14 u15 u16 u17
          obtain ⟨gB, sB0, cB0, sB1, cB1, hxB, hlB, nB0, nB1, bB⟩ := hI.2 (hL 13 (by simp))
          have hb := hI.1
          replace p0 := (hb.cell (p := ⟨pg, po, none⟩) pF.2).trans p0
          replace p1' := (hb.cell (p := ⟨pg, po + 1, none⟩) pF.2).trans p1'
          replace p2' := (hb.cell (p := ⟨pg, po + 1 + 1, none⟩) pF.2).trans p2'
          replace p3 := (hb.cell (p := ⟨pg, po + 1 + 1 + 1, none⟩) pF.2).trans p3
          replace p4 := (hb.cell (p := ⟨pg, po + 1 + 1 + 1 + 1, none⟩) pF.2).trans p4
          replace p5 := (hb.cell (p := ⟨pg, po + 1 + 1 + 1 + 1 + 1, none⟩) pF.2).trans p5
          replace p6 := (hb.cell (p := ⟨pg, po + 1 + 1 + 1 + 1 + 1 + 1, none⟩) pF.2).trans p6
          replace p7 := (hb.cell (p := ⟨pg, po + 1 + 1 + 1 + 1 + 1 + 1 + 1, none⟩) pF.2).trans p7
          replace p8 := (hb.cell (p := ⟨pg, po + 1 + 1 + 1 + 1 + 1 + 1 + 1 + 1, none⟩) pF.2).trans p8
          replace pR := pR.up hb
          replace pF : Fresh w3.heap.size W pg := ⟨pF.1, Nat.lt_of_lt_of_le pF.2 hb.size⟩
          replace q0 := (hb.cell (p := ⟨qg, qo, none⟩) qF.2).trans q0
          replace q1' := (hb.cell (p := ⟨qg, qo + 1, none⟩) qF.2).trans q1'
          replace q2' := (hb.cell (p := ⟨qg, qo + 1 + 1, none⟩) qF.2).trans q2'
          replace q3 := (hb.cell (p := ⟨qg, qo + 1 + 1 + 1, none⟩) qF.2).trans q3
          replace q4 := (hb.cell (p := ⟨qg, qo + 1 + 1 + 1 + 1, none⟩) qF.2).trans q4
          replace q5 := (hb.cell (p := ⟨qg, qo + 1 + 1 + 1 + 1 + 1, none⟩) qF.2).trans q5
          replace q6 := (hb.cell (p := ⟨qg, qo + 1 + 1 + 1 + 1 + 1 + 1, none⟩) qF.2).trans q6
          replace q7 := (hb.cell (p := ⟨qg, qo + 1 + 1 + 1 + 1 + 1 + 1 + 1, none⟩) qF.2).trans q7
          replace q8 := (hb.cell (p := ⟨qg, qo + 1 + 1 + 1 + 1 + 1 + 1 + 1 + 1, none⟩) qF.2).trans q8
          replace qR := qR.up hb
          replace qF : Fresh w3.heap.size W qg := ⟨qF.1, Nat.lt_of_lt_of_le qF.2 hb.size⟩
          replace XA := Lib.hid (XA.out.go hb)
          have XS := Lib.hid bB
          replace GD := Lib.hid (GD.out.go hb)
          have N0 := Lib.hid (And.intro nB0 nB1)
          replace B5 := Lib.hid (up B5.out hb)
          simp only [hxB]
          obtain ⟨w7, rfl⟩ : ∃ x : World, x = W := ⟨_, rfl⟩
          clear hI hL hb bB nB0 nB1
          go_wp2_with fail
          obtain ⟨Vp, HV⟩ : ∃ Vp : Nat → Value → World → Prop, Hid (Vp = fun i v W => match i with
              | 0 => v = .agg #[.int .i64 2, .int .i64 1, .slice sB0 0 cB0, .slice sB1 0 cB1, .int .i64 1]
              | 1 => v = .slice (some ⟨qg, qo, none⟩) 1 qc
              | 2 => v = .pointer (some ⟨qg, qo, none⟩)
              | 3 => v = .agg #[.int .i64 p2.epoch, .int .i64 p2.number, .bool p2.bare, .int .i64 p2.ack, .int .i64 p2.f.kind, .int .i64 p2.f.heard, .int .i64 p2.f.epoch, .slice qa p2.f.op.length qd, .string p2.f.text]
              | 4 => ∃ e0 e1 e2 e3 f0 f1 f2 f3 f4 f5 f6 z, v = .tuple #[.agg #[.int .i64 2, .int .i64 1, .slice e0 0 e1, .slice e2 0 e3, .int .i64 2], .agg #[.int .i64 f0, .int .i64 f1, .int .i64 f2, .slice f3 f4 f5, .string f6], .bool true, z, .int .i64 0] ∧ NilS e0 e1 ∧ NilS e2 e3
              | 5 => ∃ e0 e1 e2 e3 f0 f1 f2 f3 f4 f5 f6 z, v = .tuple #[.agg #[.int .i64 2, .int .i64 1, .slice e0 0 e1, .slice e2 0 e3, .int .i64 2], .agg #[.int .i64 f0, .int .i64 f1, .int .i64 f2, .slice f3 f4 f5, .string f6], .bool true, z, .int .i64 0] ∧ NilS e0 e1 ∧ NilS e2 e3
              | 6 => ∃ e0 e1 e2 e3, v = .agg #[.int .i64 2, .int .i64 1, .slice e0 0 e1, .slice e2 0 e3, .int .i64 2] ∧ NilS e0 e1 ∧ NilS e2 e3
              | 7 => ∃ f0 f1 f2 f3 f4 f5 f6, v = .agg #[.int .i64 f0, .int .i64 f1, .int .i64 f2, .slice f3 f4 f5, .string f6]
              | 8 => v = .bool true
              | 9 => ∃ y, v = y
              | 10 => v = .int .i64 0
              | 11 => ∃ g, v = .pointer (some ⟨g, 0, none⟩) ∧ w7.heap.size ≤ g ∧ Blk g (.cells #[.int .i64 0, .int .i64 0, .slice none 0 0, .slice none 0 0, .int .i64 0] 33 (0, 0)) W
              | 12 => ∃ g, v = .pointer (some ⟨g, 0, none⟩) ∧ w7.heap.size ≤ g ∧ Blk g (.cells #[.int .i64 0, .int .i64 0, .int .i64 0, .slice none 0 0, .string ⟨#[]⟩] 30 (0, 0)) W
              | 13 => v = undef
              | 14 => v = undef
              | 15 => v = .bool true
              | 16 => ∃ y, v = y
              | _ => v = .int .i64 0) := ⟨_, rfl⟩
          obtain ⟨Ip, HIp⟩ : ∃ Ip : (Nat → Bool) → (Nat → Value) → World → Prop, Hid (Ip = fun L x W => (Below w7.heap.size w7 W ∧ (L 13 = true → ∃ g e0 e1 e2 e3, x 11 = .pointer (some ⟨g, 0, none⟩) ∧ w7.heap.size ≤ g ∧ NilS e0 e1 ∧ NilS e2 e3 ∧ Blk g (.cells #[.int .i64 2, .int .i64 1, .slice e0 0 e1, .slice e2 0 e3, .int .i64 2] 33 (0, 0)) W))) := ⟨_, rfl⟩
          refine region_lit3 (by kernel_rfl) (by kernel_rfl) (by kernel_rfl) [[], [], [1], [1, 2], [0, 1, 2, 3], [0, 1, 2, 3, 4], [0, 1, 2, 3, 4, 5], [0, 1, 2, 3, 4, 5], [0, 1, 2, 3, 4, 5], [0, 1, 2, 3, 4, 5], [0, 1, 2, 3, 4, 5], [], [], [0, 1, 2, 3, 4, 5, 6, 11], [0, 1, 2, 3, 4, 5, 7, 12], [0, 1, 2, 3, 4, 5, 8], [0, 1, 2, 3, 4, 5, 9], [0, 1, 2, 3, 4, 5, 10]] (by kernel_rfl) [some 102, some 103, some 104, some 105, some 106, some 101, some 107, some 108, some 109, some 110, some 111, some 24, some 25, none, none, some 26, some 27, some 28] (by kernel_rfl) [[0, 4, 5, 6, 7, 8, 9, 10, 13, 14, 15, 16, 17], [1, 2, 3, 4, 5, 6, 7, 8, 9, 10, 13, 14, 15, 16, 17], [2, 3, 4, 5, 6, 7, 8, 9, 10, 13, 14, 15, 16, 17], [3, 4, 5, 6, 7, 8, 9, 10, 13, 14, 15, 16, 17], [4, 5, 6, 7, 8, 9, 10, 13, 14, 15, 16, 17], [5, 6, 7, 8, 9, 10, 13, 14, 15, 16, 17], [6, 13], [7, 14], [8, 15], [9, 16], [10, 17], [11, 13], [12, 14], [13], [14], [15], [16], [17]] (by kernel_rfl) [[], [], [], [], [], [], [], [], [], [], [], [13], [14], [], [], [], [], []] [[], [], [1], [2], [0, 3], [4], [5], [5], [5], [5], [5], [], [], [6, 11], [7, 12], [8], [9], [10]] (by kernel_rfl)
            Ip
            Vp
            (fun j W W' => match j with
              | 13 => ∃ g, Blk g (.cells #[.int .i64 0, .int .i64 0, .slice none 0 0, .slice none 0 0, .int .i64 0] 33 (0, 0)) W ∧ Touch (fun z => z = g) W W' ∧ w7.heap.size ≤ g
              | 14 => ∃ g, Blk g (.cells #[.int .i64 0, .int .i64 0, .int .i64 0, .slice none 0 0, .string ⟨#[]⟩] 30 (0, 0)) W ∧ Touch (fun z => z = g) W W' ∧ w7.heap.size ≤ g
              | _ => Below W.heap.size W W')
            [fun x => ⟨#[undef, undef, undef, undef, undef, undef, undef, undef, undef, undef, undef, undef, undef, undef, undef, undef, undef, undef, undef, .pointer (some ⟨gB, 0, none⟩), undef, undef, undef, undef, undef, undef, undef, undef, undef, undef, undef, undef, undef, undef, undef, undef, undef, undef, undef, undef, undef, undef, undef, undef, undef, undef, undef, undef, undef, undef, undef, undef, undef, undef, undef, undef, undef, undef, undef, undef, undef, undef, undef, undef, undef, undef, undef, undef, undef, undef, undef, undef, undef, undef, undef, undef, undef, undef, undef, undef, undef, undef, undef, undef, undef, undef, undef, undef, undef, undef, undef, undef, undef, undef, undef, undef, undef, undef, undef, undef, undef, undef, undef], []⟩,
   fun x => ⟨#[undef, undef, undef, undef, undef, undef, undef, undef, undef, undef, undef, undef, .slice (some ⟨qg, qo, none⟩) 1 qc, undef, undef, undef, undef, undef, undef, undef, undef, undef, undef, undef, undef, undef, undef, undef, undef, undef, undef, undef, undef, undef, undef, undef, undef, undef, undef, undef, undef, undef, undef, undef, undef, undef, undef, undef, undef, undef, undef, undef, undef, undef, undef, undef, undef, undef, undef, undef, undef, undef, undef, undef, undef, undef, undef, undef, undef, undef, undef, undef, undef, undef, undef, undef, undef, undef, undef, undef, undef, undef, undef, undef, undef, undef, undef, undef, undef, undef, undef, undef, undef, undef, undef, undef, undef, undef, undef, undef, undef, undef, undef, undef], []⟩,
   fun x => ⟨#[undef, undef, undef, undef, undef, undef, undef, undef, undef, undef, undef, undef, undef, undef, undef, undef, undef, undef, undef, undef, undef, undef, undef, undef, undef, undef, undef, undef, undef, undef, undef, undef, undef, undef, undef, undef, undef, undef, undef, undef, undef, undef, undef, undef, undef, undef, undef, undef, undef, undef, undef, undef, undef, undef, undef, undef, undef, undef, undef, undef, undef, undef, undef, undef, undef, undef, undef, undef, undef, undef, undef, undef, undef, undef, undef, undef, undef, undef, undef, undef, undef, undef, undef, undef, undef, undef, undef, undef, undef, undef, undef, undef, undef, undef, undef, undef, undef, undef, undef, undef, undef, undef, undef, x 1, undef], []⟩,
   fun x => ⟨#[undef, undef, undef, undef, undef, undef, undef, undef, undef, undef, undef, undef, undef, undef, undef, undef, undef, undef, undef, undef, undef, undef, undef, undef, undef, undef, undef, undef, undef, undef, undef, undef, undef, undef, undef, undef, undef, undef, undef, undef, undef, undef, undef, undef, undef, undef, undef, undef, undef, undef, undef, undef, undef, undef, undef, undef, undef, undef, undef, undef, undef, undef, undef, undef, undef, undef, undef, undef, undef, undef, undef, undef, undef, undef, undef, undef, undef, undef, undef, undef, undef, undef, undef, undef, undef, undef, undef, undef, undef, undef, undef, undef, undef, undef, undef, undef, undef, undef, undef, undef, undef, undef, undef, undef, x 2, undef], []⟩,
   fun x => ⟨#[undef, undef, undef, undef, undef, undef, undef, undef, undef, undef, undef, undef, undef, undef, undef, undef, undef, undef, undef, undef, undef, undef, undef, undef, undef, undef, undef, undef, undef, undef, undef, undef, undef, undef, undef, undef, undef, undef, undef, undef, undef, undef, undef, undef, undef, undef, undef, undef, undef, undef, undef, undef, undef, undef, undef, undef, undef, undef, undef, undef, undef, undef, undef, undef, undef, undef, undef, undef, undef, undef, undef, undef, undef, undef, undef, undef, undef, undef, undef, undef, undef, undef, undef, undef, undef, undef, undef, undef, undef, undef, undef, undef, undef, undef, undef, undef, undef, undef, undef, undef, undef, undef, x 0, undef, undef, x 3, undef], []⟩,
   fun x => ⟨#[undef, undef, undef, undef, undef, undef, undef, undef, undef, undef, undef, undef, undef, undef, undef, undef, undef, undef, undef, undef, undef, undef, undef, undef, undef, undef, undef, undef, undef, undef, undef, undef, undef, undef, undef, undef, undef, undef, undef, undef, undef, undef, undef, undef, undef, undef, undef, undef, undef, undef, undef, undef, undef, undef, undef, undef, undef, undef, undef, undef, undef, undef, undef, undef, undef, undef, undef, undef, undef, undef, undef, undef, undef, undef, undef, undef, undef, undef, undef, undef, undef, undef, undef, undef, undef, undef, undef, undef, undef, undef, undef, undef, undef, undef, undef, undef, undef, undef, undef, undef, undef, undef, undef, undef, undef, undef, x 4], []⟩,
   fun x => ⟨#[undef, undef, undef, undef, undef, undef, undef, undef, undef, undef, undef, undef, undef, undef, undef, undef, undef, undef, undef, undef, undef, undef, undef, undef, undef, undef, undef, undef, undef, undef, undef, undef, undef, undef, undef, undef, undef, undef, undef, undef, undef, undef, undef, undef, undef, undef, undef, undef, undef, undef, undef, undef, undef, undef, undef, undef, undef, undef, undef, undef, undef, undef, undef, undef, undef, undef, undef, undef, undef, undef, undef, undef, undef, undef, undef, undef, undef, undef, undef, undef, undef, undef, undef, undef, undef, undef, undef, undef, undef, undef, undef, undef, undef, undef, undef, undef, undef, undef, undef, undef, undef, x 5, undef, undef, undef, undef, undef, undef], []⟩,
   fun x => ⟨#[undef, undef, undef, undef, undef, undef, undef, undef, undef, undef, undef, undef, undef, undef, undef, undef, undef, undef, undef, undef, undef, undef, undef, undef, undef, undef, undef, undef, undef, undef, undef, undef, undef, undef, undef, undef, undef, undef, undef, undef, undef, undef, undef, undef, undef, undef, undef, undef, undef, undef, undef, undef, undef, undef, undef, undef, undef, undef, undef, undef, undef, undef, undef, undef, undef, undef, undef, undef, undef, undef, undef, undef, undef, undef, undef, undef, undef, undef, undef, undef, undef, undef, undef, undef, undef, undef, undef, undef, undef, undef, undef, undef, undef, undef, undef, undef, undef, undef, undef, undef, undef, x 5, undef, undef, undef, undef, undef, undef, undef], []⟩,
   fun x => ⟨#[undef, undef, undef, undef, undef, undef, undef, undef, undef, undef, undef, undef, undef, undef, undef, undef, undef, undef, undef, undef, undef, undef, undef, undef, undef, undef, undef, undef, undef, undef, undef, undef, undef, undef, undef, undef, undef, undef, undef, undef, undef, undef, undef, undef, undef, undef, undef, undef, undef, undef, undef, undef, undef, undef, undef, undef, undef, undef, undef, undef, undef, undef, undef, undef, undef, undef, undef, undef, undef, undef, undef, undef, undef, undef, undef, undef, undef, undef, undef, undef, undef, undef, undef, undef, undef, undef, undef, undef, undef, undef, undef, undef, undef, undef, undef, undef, undef, undef, undef, undef, undef, x 5, undef, undef, undef, undef, undef, undef, undef, undef], []⟩,
   fun x => ⟨#[undef, undef, undef, undef, undef, undef, undef, undef, undef, undef, undef, undef, undef, undef, undef, undef, undef, undef, undef, undef, undef, undef, undef, undef, undef, undef, undef, undef, undef, undef, undef, undef, undef, undef, undef, undef, undef, undef, undef, undef, undef, undef, undef, undef, undef, undef, undef, undef, undef, undef, undef, undef, undef, undef, undef, undef, undef, undef, undef, undef, undef, undef, undef, undef, undef, undef, undef, undef, undef, undef, undef, undef, undef, undef, undef, undef, undef, undef, undef, undef, undef, undef, undef, undef, undef, undef, undef, undef, undef, undef, undef, undef, undef, undef, undef, undef, undef, undef, undef, undef, undef, x 5, undef, undef, undef, undef, undef, undef, undef, undef, undef], []⟩,
   fun x => ⟨#[undef, undef, undef, undef, undef, undef, undef, undef, undef, undef, undef, undef, undef, undef, undef, undef, undef, undef, undef, undef, undef, undef, undef, undef, undef, undef, undef, undef, undef, undef, undef, undef, undef, undef, undef, undef, undef, undef, undef, undef, undef, undef, undef, undef, undef, undef, undef, undef, undef, undef, undef, undef, undef, undef, undef, undef, undef, undef, undef, undef, undef, undef, undef, undef, undef, undef, undef, undef, undef, undef, undef, undef, undef, undef, undef, undef, undef, undef, undef, undef, undef, undef, undef, undef, undef, undef, undef, undef, undef, undef, undef, undef, undef, undef, undef, undef, undef, undef, undef, undef, undef, x 5, undef, undef, undef, undef, undef, undef, undef, undef, undef, undef], []⟩,
   fun x => ⟨#[undef, undef, undef, undef, undef, undef, undef, undef, undef, undef, undef, undef, undef, undef, undef, undef, undef, undef, undef, undef, undef, undef, undef, undef, undef], []⟩,
   fun x => ⟨#[undef, undef, undef, undef, undef, undef, undef, undef, undef, undef, undef, undef, undef, undef, undef, undef, undef, undef, undef, undef, undef, undef, undef, undef, undef, undef], []⟩,
   fun x => ⟨#[undef, undef, undef, undef, undef, undef, undef, undef, undef, undef, undef, undef, undef, undef, undef, undef, undef, undef, undef, undef, undef, undef, undef, undef, x 11, undef, undef, undef, undef, undef, undef, undef, undef, undef, undef, undef, undef, undef, undef, undef, undef, undef, undef, undef, undef, undef, undef, undef, undef, undef, undef, undef, undef, undef, undef, undef, undef, undef, undef, undef, undef, undef, undef, undef, undef, undef, undef, undef, undef, undef, undef, undef, undef, undef, undef, undef, undef, undef, undef, undef, undef, undef, undef, undef, undef, undef, undef, undef, undef, undef, undef, undef, undef, undef, undef, undef, undef, undef, undef, undef, undef, undef, undef, undef, undef, undef, undef, x 6], []⟩,
   fun x => ⟨#[undef, undef, undef, undef, undef, undef, undef, undef, undef, undef, undef, undef, undef, undef, undef, undef, undef, undef, undef, undef, undef, undef, undef, undef, undef, x 12, undef, undef, undef, undef, undef, undef, undef, undef, undef, undef, undef, undef, undef, undef, undef, undef, undef, undef, undef, undef, undef, undef, undef, undef, undef, undef, undef, undef, undef, undef, undef, undef, undef, undef, undef, undef, undef, undef, undef, undef, undef, undef, undef, undef, undef, undef, undef, undef, undef, undef, undef, undef, undef, undef, undef, undef, undef, undef, undef, undef, undef, undef, undef, undef, undef, undef, undef, undef, undef, undef, undef, undef, undef, undef, undef, undef, undef, undef, undef, undef, undef, undef, x 7], []⟩,
   fun x => ⟨#[undef, undef, undef, undef, undef, undef, undef, undef, undef, undef, undef, undef, undef, undef, undef, undef, undef, undef, undef, undef, undef, undef, undef, undef, undef, undef, undef, undef, undef, undef, undef, undef, undef, undef, undef, undef, undef, undef, undef, undef, undef, undef, undef, undef, undef, undef, undef, undef, undef, undef, undef, undef, undef, undef, undef, undef, undef, undef, undef, undef, undef, undef, undef, undef, undef, undef, undef, undef, undef, undef, undef, undef, undef, undef, undef, undef, undef, undef, undef, undef, undef, undef, undef, undef, undef, undef, undef, undef, undef, undef, undef, undef, undef, undef, undef, undef, undef, undef, undef, undef, undef, undef, undef, undef, undef, undef, undef, undef, undef, x 8], []⟩,
   fun x => ⟨#[undef, undef, undef, undef, undef, undef, undef, undef, undef, undef, undef, undef, undef, undef, undef, undef, undef, undef, undef, undef, undef, undef, undef, undef, undef, undef, undef, undef, undef, undef, undef, undef, undef, undef, undef, undef, undef, undef, undef, undef, undef, undef, undef, undef, undef, undef, undef, undef, undef, undef, undef, undef, undef, undef, undef, undef, undef, undef, undef, undef, undef, undef, undef, undef, undef, undef, undef, undef, undef, undef, undef, undef, undef, undef, undef, undef, undef, undef, undef, undef, undef, undef, undef, undef, undef, undef, undef, undef, undef, undef, undef, undef, undef, undef, undef, undef, undef, undef, undef, undef, undef, undef, undef, undef, undef, undef, undef, undef, undef, undef, x 9], []⟩,
   fun x => ⟨#[undef, undef, undef, undef, undef, undef, undef, undef, undef, undef, undef, undef, undef, undef, undef, undef, undef, undef, undef, undef, undef, undef, undef, undef, undef, undef, undef, undef, undef, undef, undef, undef, undef, undef, undef, undef, undef, undef, undef, undef, undef, undef, undef, undef, undef, undef, undef, undef, undef, undef, undef, undef, undef, undef, undef, undef, undef, undef, undef, undef, undef, undef, undef, undef, undef, undef, undef, undef, undef, undef, undef, undef, undef, undef, undef, undef, undef, undef, undef, undef, undef, undef, undef, undef, undef, undef, undef, undef, undef, undef, undef, undef, undef, undef, undef, undef, undef, undef, undef, undef, undef, undef, undef, undef, undef, undef, undef, undef, undef, undef, undef, x 10], []⟩]
            ?hF ?mono ?h0 ?step [0, 1, 2, 3, 4, 5, 6, 7, 8, 9, 10, 13, 14, 15, 16, 17] (by kernel_rfl) ?fin
          case hF =>
            exact ⟨fun x => ⟨by kernel_rfl, by kernel_rfl⟩, fun x => ⟨by kernel_rfl, by kernel_rfl⟩, fun x => ⟨by kernel_rfl, by kernel_rfl⟩, fun x => ⟨by kernel_rfl, by kernel_rfl⟩, fun x => ⟨by kernel_rfl, by kernel_rfl⟩, fun x => ⟨by kernel_rfl, by kernel_rfl⟩, fun x => ⟨by kernel_rfl, by kernel_rfl⟩, fun x => ⟨by kernel_rfl, by kernel_rfl⟩, fun x => ⟨by kernel_rfl, by kernel_rfl⟩, fun x => ⟨by kernel_rfl, by kernel_rfl⟩, fun x => ⟨by kernel_rfl, by kernel_rfl⟩, fun x => ⟨by kernel_rfl, by kernel_rfl⟩, fun x => ⟨by kernel_rfl, by kernel_rfl⟩, fun x => ⟨by kernel_rfl, by kernel_rfl⟩, fun x => ⟨by kernel_rfl, by kernel_rfl⟩, fun x => ⟨by kernel_rfl, by kernel_rfl⟩, fun x => ⟨by kernel_rfl, by kernel_rfl⟩, fun x => ⟨by kernel_rfl, by kernel_rfl⟩, trivial⟩
          case mono =>
            intro i j hi hj hne hna hnk v W W' hE hv
            rw [HV.out] at hv ⊢
            simp only [List.length_cons, List.length_nil] at hi hj
            match i, hi with
            | 0, _ | 1, _ | 2, _ | 3, _ | 8, _ | 10, _ | 13, _ | 14, _ | 15, _ | 17, _ => exact hv
            | 4, _ =>
              match j, hj with
              | 4, _ => exact absurd rfl hne
              | 0, _ => exact absurd (by simp) hna
              | 1, _ => exact absurd (by simp) hna
              | 2, _ => exact absurd (by simp) hna
              | 3, _ => exact absurd (by simp) hna
              | 5, _ => exact (id hv)
              | 6, _ => exact (id hv)
              | 7, _ => exact (id hv)
              | 8, _ => exact (id hv)
              | 9, _ => exact (id hv)
              | 10, _ => exact (id hv)
              | 11, _ => exact (id hv)
              | 12, _ => exact (id hv)
              | 13, _ => exact (id hv)
              | 14, _ => exact (id hv)
              | 15, _ => exact (id hv)
              | 16, _ => exact (id hv)
              | 17, _ => exact (id hv)
              | m + 18, h => exact absurd h (by omega)
            | 5, _ =>
              match j, hj with
              | 5, _ => exact absurd rfl hne
              | 0, _ => exact absurd (by simp) hna
              | 1, _ => exact absurd (by simp) hna
              | 2, _ => exact absurd (by simp) hna
              | 3, _ => exact absurd (by simp) hna
              | 4, _ => exact absurd (by simp) hna
              | 6, _ => exact (id hv)
              | 7, _ => exact (id hv)
              | 8, _ => exact (id hv)
              | 9, _ => exact (id hv)
              | 10, _ => exact (id hv)
              | 11, _ => exact (id hv)
              | 12, _ => exact (id hv)
              | 13, _ => exact (id hv)
              | 14, _ => exact (id hv)
              | 15, _ => exact (id hv)
              | 16, _ => exact (id hv)
              | 17, _ => exact (id hv)
              | m + 18, h => exact absurd h (by omega)
            | 6, _ =>
              match j, hj with
              | 6, _ => exact absurd rfl hne
              | 0, _ => exact absurd (by simp) hna
              | 1, _ => exact absurd (by simp) hna
              | 2, _ => exact absurd (by simp) hna
              | 3, _ => exact absurd (by simp) hna
              | 4, _ => exact absurd (by simp) hna
              | 5, _ => exact absurd (by simp) hna
              | 7, _ => exact (id hv)
              | 8, _ => exact (id hv)
              | 9, _ => exact (id hv)
              | 10, _ => exact (id hv)
              | 11, _ => exact (id hv)
              | 12, _ => exact (id hv)
              | 13, _ => exact (id hv)
              | 14, _ => exact (id hv)
              | 15, _ => exact (id hv)
              | 16, _ => exact (id hv)
              | 17, _ => exact (id hv)
              | m + 18, h => exact absurd h (by omega)
            | 7, _ =>
              match j, hj with
              | 7, _ => exact absurd rfl hne
              | 0, _ => exact absurd (by simp) hna
              | 1, _ => exact absurd (by simp) hna
              | 2, _ => exact absurd (by simp) hna
              | 3, _ => exact absurd (by simp) hna
              | 4, _ => exact absurd (by simp) hna
              | 5, _ => exact absurd (by simp) hna
              | 6, _ => exact (id hv)
              | 8, _ => exact (id hv)
              | 9, _ => exact (id hv)
              | 10, _ => exact (id hv)
              | 11, _ => exact (id hv)
              | 12, _ => exact (id hv)
              | 13, _ => exact (id hv)
              | 14, _ => exact (id hv)
              | 15, _ => exact (id hv)
              | 16, _ => exact (id hv)
              | 17, _ => exact (id hv)
              | m + 18, h => exact absurd h (by omega)
            | 9, _ =>
              match j, hj with
              | 9, _ => exact absurd rfl hne
              | 0, _ => exact absurd (by simp) hna
              | 1, _ => exact absurd (by simp) hna
              | 2, _ => exact absurd (by simp) hna
              | 3, _ => exact absurd (by simp) hna
              | 4, _ => exact absurd (by simp) hna
              | 5, _ => exact absurd (by simp) hna
              | 6, _ => exact (id hv)
              | 7, _ => exact (id hv)
              | 8, _ => exact (id hv)
              | 10, _ => exact (id hv)
              | 11, _ => exact (id hv)
              | 12, _ => exact (id hv)
              | 13, _ => exact (id hv)
              | 14, _ => exact (id hv)
              | 15, _ => exact (id hv)
              | 16, _ => exact (id hv)
              | 17, _ => exact (id hv)
              | m + 18, h => exact absurd h (by omega)
            | 11, _ =>
              match j, hj with
              | 11, _ => exact absurd rfl hne
              | 13, _ => exact absurd (by simp) hnk
              | 0, _ => exact (by obtain ⟨g, h1, h2, h3⟩ := hv; exact ⟨g, h1, h2, h3.go hE⟩)
              | 1, _ => exact (by obtain ⟨g, h1, h2, h3⟩ := hv; exact ⟨g, h1, h2, h3.go hE⟩)
              | 2, _ => exact (by obtain ⟨g, h1, h2, h3⟩ := hv; exact ⟨g, h1, h2, h3.go hE⟩)
              | 3, _ => exact (by obtain ⟨g, h1, h2, h3⟩ := hv; exact ⟨g, h1, h2, h3.go hE⟩)
              | 4, _ => exact (by obtain ⟨g, h1, h2, h3⟩ := hv; exact ⟨g, h1, h2, h3.go hE⟩)
              | 5, _ => exact (by obtain ⟨g, h1, h2, h3⟩ := hv; exact ⟨g, h1, h2, h3.go hE⟩)
              | 6, _ => exact (by obtain ⟨g, h1, h2, h3⟩ := hv; exact ⟨g, h1, h2, h3.go hE⟩)
              | 7, _ => exact (by obtain ⟨g, h1, h2, h3⟩ := hv; exact ⟨g, h1, h2, h3.go hE⟩)
              | 8, _ => exact (by obtain ⟨g, h1, h2, h3⟩ := hv; exact ⟨g, h1, h2, h3.go hE⟩)
              | 9, _ => exact (by obtain ⟨g, h1, h2, h3⟩ := hv; exact ⟨g, h1, h2, h3.go hE⟩)
              | 10, _ => exact (by obtain ⟨g, h1, h2, h3⟩ := hv; exact ⟨g, h1, h2, h3.go hE⟩)
              | 12, _ => exact (by obtain ⟨g, h1, h2, h3⟩ := hv; exact ⟨g, h1, h2, h3.go hE⟩)
              | 14, _ => exact (by obtain ⟨g, h1, h2, h3⟩ := hv; obtain ⟨g', hz, ht, -⟩ := hE; exact ⟨g, h1, h2, h3.touch ht (fun e => blk_types h3 hz (by decide) e)⟩)
              | 15, _ => exact (by obtain ⟨g, h1, h2, h3⟩ := hv; exact ⟨g, h1, h2, h3.go hE⟩)
              | 16, _ => exact (by obtain ⟨g, h1, h2, h3⟩ := hv; exact ⟨g, h1, h2, h3.go hE⟩)
              | 17, _ => exact (by obtain ⟨g, h1, h2, h3⟩ := hv; exact ⟨g, h1, h2, h3.go hE⟩)
              | m + 18, h => exact absurd h (by omega)
            | 12, _ =>
              match j, hj with
              | 12, _ => exact absurd rfl hne
              | 14, _ => exact absurd (by simp) hnk
              | 0, _ => exact (by obtain ⟨g, h1, h2, h3⟩ := hv; exact ⟨g, h1, h2, h3.go hE⟩)
              | 1, _ => exact (by obtain ⟨g, h1, h2, h3⟩ := hv; exact ⟨g, h1, h2, h3.go hE⟩)
              | 2, _ => exact (by obtain ⟨g, h1, h2, h3⟩ := hv; exact ⟨g, h1, h2, h3.go hE⟩)
              | 3, _ => exact (by obtain ⟨g, h1, h2, h3⟩ := hv; exact ⟨g, h1, h2, h3.go hE⟩)
              | 4, _ => exact (by obtain ⟨g, h1, h2, h3⟩ := hv; exact ⟨g, h1, h2, h3.go hE⟩)
              | 5, _ => exact (by obtain ⟨g, h1, h2, h3⟩ := hv; exact ⟨g, h1, h2, h3.go hE⟩)
              | 6, _ => exact (by obtain ⟨g, h1, h2, h3⟩ := hv; exact ⟨g, h1, h2, h3.go hE⟩)
              | 7, _ => exact (by obtain ⟨g, h1, h2, h3⟩ := hv; exact ⟨g, h1, h2, h3.go hE⟩)
              | 8, _ => exact (by obtain ⟨g, h1, h2, h3⟩ := hv; exact ⟨g, h1, h2, h3.go hE⟩)
              | 9, _ => exact (by obtain ⟨g, h1, h2, h3⟩ := hv; exact ⟨g, h1, h2, h3.go hE⟩)
              | 10, _ => exact (by obtain ⟨g, h1, h2, h3⟩ := hv; exact ⟨g, h1, h2, h3.go hE⟩)
              | 11, _ => exact (by obtain ⟨g, h1, h2, h3⟩ := hv; exact ⟨g, h1, h2, h3.go hE⟩)
              | 13, _ => exact (by obtain ⟨g, h1, h2, h3⟩ := hv; obtain ⟨g', hz, ht, -⟩ := hE; exact ⟨g, h1, h2, h3.touch ht (fun e => blk_types h3 hz (by decide) e)⟩)
              | 15, _ => exact (by obtain ⟨g, h1, h2, h3⟩ := hv; exact ⟨g, h1, h2, h3.go hE⟩)
              | 16, _ => exact (by obtain ⟨g, h1, h2, h3⟩ := hv; exact ⟨g, h1, h2, h3.go hE⟩)
              | 17, _ => exact (by obtain ⟨g, h1, h2, h3⟩ := hv; exact ⟨g, h1, h2, h3.go hE⟩)
              | m + 18, h => exact absurd h (by omega)
            | 16, _ =>
              match j, hj with
              | 16, _ => exact absurd rfl hne
              | 0, _ => exact absurd (by simp) hna
              | 1, _ => exact absurd (by simp) hna
              | 2, _ => exact absurd (by simp) hna
              | 3, _ => exact absurd (by simp) hna
              | 4, _ => exact absurd (by simp) hna
              | 5, _ => exact absurd (by simp) hna
              | 9, _ => exact absurd (by simp) hna
              | 6, _ => exact (id hv)
              | 7, _ => exact (id hv)
              | 8, _ => exact (id hv)
              | 10, _ => exact (id hv)
              | 11, _ => exact (id hv)
              | 12, _ => exact (id hv)
              | 13, _ => exact (id hv)
              | 14, _ => exact (id hv)
              | 15, _ => exact (id hv)
              | 17, _ => exact (id hv)
              | m + 18, h => exact absurd h (by omega)
            | m + 18, h => exact absurd h (by omega)
          case h0 => intro x; exact toI HIp ⟨(Below.refl _ _).drew, fun h => by cases h⟩
          case step =>
            refine ⟨?_, ?_, ?_, ?_, ?_, ?_, ?_, ?_, ?_, ?_, ?_, ?_, ?_, ?_, ?_, ?_, ?_, ?_, trivial⟩
            all_goals
              intro x W L hI hL hV
              replace hI : (Below w7.heap.size w7 W ∧ (L 13 = true → ∃ g e0 e1 e2 e3, x 11 = .pointer (some ⟨g, 0, none⟩) ∧ w7.heap.size ≤ g ∧ NilS e0 e1 ∧ NilS e2 e3 ∧ Blk g (.cells #[.int .i64 2, .int .i64 1, .slice e0 0 e1, .slice e2 0 e3, .int .i64 2] 33 (0, 0)) W)) := ofI HIp hI
              rw [HV.out] at hV
              simp only [AllV, and_true] at hV
            · clear hV
              (try dsimp only)
              obtain ⟨q0', q1', q2', q3', q4'⟩ := blk_cells5 (XS.out.go hI.1)
              have HI := Lib.hid hI
              clear hI
              go_wp2_with fail
              refine step3_done rfl ?_ ?_ ?_
              · exact (toI HIp HI.out)
              · exact (Below.refl _ _)
              · exact (toV HV rfl)
            · clear hV
              (try dsimp only)
              have HI := Lib.hid hI
              clear hI
              go_wp2_with fail
              refine step3_done rfl ?_ ?_ ?_
              · exact (toI HIp HI.out)
              · exact (Below.refl _ _)
              · exact (toV HV rfl)
            · have u1 := hV
              clear hV
              simp only [u1]
              clear u1
              have HI := Lib.hid hI
              clear hI
              go_wp2_with fail
              refine step3_done rfl ?_ ?_ ?_
              · exact (toI HIp HI.out)
              · exact (Below.refl _ _)
              · exact (toV HV rfl)
            · have u2 := hV
              clear hV
              simp only [u2]
              clear u2
              have y0 := (hI.1.cell (p := ⟨qg, qo, none⟩) qF.2).trans q0
              have y1 := (hI.1.cell (p := ⟨qg, qo + 1, none⟩) qF.2).trans q1'
              have y2 := (hI.1.cell (p := ⟨qg, qo + 1 + 1, none⟩) qF.2).trans q2'
              have y3 := (hI.1.cell (p := ⟨qg, qo + 1 + 1 + 1, none⟩) qF.2).trans q3
              have y4 := (hI.1.cell (p := ⟨qg, qo + 1 + 1 + 1 + 1, none⟩) qF.2).trans q4
              have y5 := (hI.1.cell (p := ⟨qg, qo + 1 + 1 + 1 + 1 + 1, none⟩) qF.2).trans q5
              have y6 := (hI.1.cell (p := ⟨qg, qo + 1 + 1 + 1 + 1 + 1 + 1, none⟩) qF.2).trans q6
              have y7 := (hI.1.cell (p := ⟨qg, qo + 1 + 1 + 1 + 1 + 1 + 1 + 1, none⟩) qF.2).trans q7
              have y8 := (hI.1.cell (p := ⟨qg, qo + 1 + 1 + 1 + 1 + 1 + 1 + 1 + 1, none⟩) qF.2).trans q8
              have HI := Lib.hid hI
              clear hI
              go_wp2_with fail
              refine step3_done rfl ?_ ?_ ?_
              · exact (toI HIp HI.out)
              · exact (Below.refl _ _)
              · exact (toV HV rfl)
            · obtain ⟨u0, u3⟩ := hV
              simp only [u0, u3]
              clear u0 u3
              have HI := Lib.hid hI
              have hzW := hI.1.size
              clear hI
              go_wp2_with fail
              refine (HH3.out _ _ _ _ _ _ _ (GD.out.go HI.out.1) N0.out.1 N0.out.2 ⟨_, _, rfl, qR.up HI.out.1⟩).mono ?_
              rintro e W' ⟨e0, e1, e2, e3, f0, f1, f2, f3, f4, f5, f6, z, rfl, kn, mn, hb⟩
              go_wp2_with fail
              refine step3_done rfl ?_ ?_ ?_
              · exact (toI HIp ⟨up HI.out.1 hb, fun h => by obtain ⟨g, e0, e1, e2, e3, h1, h2, n1', n2', h5⟩ := HI.out.2 h; exact ⟨g, e0, e1, e2, e3, h1, h2, n1', n2', h5.go hb⟩⟩)
              · exact hb
              · exact (toV HV ⟨_, _, _, _, _, _, _, _, _, _, _, _, rfl, kn, mn⟩)
            · obtain ⟨e0, e1, e2, e3, f0, f1, f2, f3, f4, f5, f6, z4, u4, k4, m4⟩ := hV
              simp only [u4]
              have U4 := Lib.hid u4
              clear u4
              have HI := Lib.hid hI
              clear hI
              go_wp2_with fail
              refine step3_done rfl ?_ ?_ ?_
              · exact (toI HIp HI.out)
              · exact (Below.refl _ _)
              · exact (toV HV ⟨_, _, _, _, _, _, _, _, _, _, _, _, rfl, k4, m4⟩)
            · obtain ⟨e0, e1, e2, e3, f0, f1, f2, f3, f4, f5, f6, z5, u5, k5, m5⟩ := hV
              simp only [u5]
              have U5 := Lib.hid u5
              clear u5
              have HI := Lib.hid hI
              clear hI
              go_wp2_with fail
              refine step3_done rfl ?_ ?_ ?_
              · exact (toI HIp HI.out)
              · exact (Below.refl _ _)
              · exact (toV HV ⟨_, _, _, _, rfl, k5, m5⟩)
            · obtain ⟨e0, e1, e2, e3, f0, f1, f2, f3, f4, f5, f6, z5, u5, k5, m5⟩ := hV
              simp only [u5]
              have U5 := Lib.hid u5
              clear u5
              have HI := Lib.hid hI
              clear hI
              go_wp2_with fail
              refine step3_done rfl ?_ ?_ ?_
              · exact (toI HIp HI.out)
              · exact (Below.refl _ _)
              · exact (toV HV ⟨_, _, _, _, _, _, _, rfl⟩)
            · obtain ⟨e0, e1, e2, e3, f0, f1, f2, f3, f4, f5, f6, z5, u5, k5, m5⟩ := hV
              simp only [u5]
              have U5 := Lib.hid u5
              clear u5
              have HI := Lib.hid hI
              clear hI
              go_wp2_with fail
              refine step3_done rfl ?_ ?_ ?_
              · exact (toI HIp HI.out)
              · exact (Below.refl _ _)
              · exact (toV HV rfl)
            · obtain ⟨e0, e1, e2, e3, f0, f1, f2, f3, f4, f5, f6, z5, u5, k5, m5⟩ := hV
              simp only [u5]
              have U5 := Lib.hid u5
              clear u5
              have HI := Lib.hid hI
              clear hI
              go_wp2_with fail
              refine step3_done rfl ?_ ?_ ?_
              · exact (toI HIp HI.out)
              · exact (Below.refl _ _)
              · exact (toV HV ⟨_, rfl⟩)
            · obtain ⟨e0, e1, e2, e3, f0, f1, f2, f3, f4, f5, f6, z5, u5, k5, m5⟩ := hV
              simp only [u5]
              have U5 := Lib.hid u5
              clear u5
              have HI := Lib.hid hI
              clear hI
              go_wp2_with fail
              refine step3_done rfl ?_ ?_ ?_
              · exact (toI HIp HI.out)
              · exact (Below.refl _ _)
              · exact (toV HV rfl)
            · clear hV
              (try dsimp only)
              have HL := Lib.hid hL
              have HI := Lib.hid hI
              have hzW := hI.1.size
              clear hI hL
              go_wp2_with fail
              have uW : ∀ o, Below W.heap.size W (W.alloc o) := fun o => (Below.refl _ _).alloc (Nat.le_refl _) o
              refine step3_done rfl ?_ ?_ ?_
              · exact (toI HIp ⟨up HI.out.1 (uW _), fun h => absurd ((HL.out.2 13 (by simp)).symm.trans h) (by simp)⟩)
              · exact (uW _)
              · exact (toV HV ⟨_, rfl, hzW, Blk.new _ _⟩)
            · clear hV
              (try dsimp only)
              have HI := Lib.hid hI
              have hzW := hI.1.size
              clear hI
              go_wp2_with fail
              have uW : ∀ o, Below W.heap.size W (W.alloc o) := fun o => (Below.refl _ _).alloc (Nat.le_refl _) o
              refine step3_done rfl ?_ ?_ ?_
              · exact (toI HIp ⟨up HI.out.1 (uW _), fun h => by obtain ⟨g, e0, e1, e2, e3, h1, h2, n1', n2', h5⟩ := HI.out.2 h; exact ⟨g, e0, e1, e2, e3, h1, h2, n1', n2', h5.go (uW _)⟩⟩)
              · exact (uW _)
              · exact (toV HV ⟨_, rfl, hzW, Blk.new _ _⟩)
            · obtain ⟨⟨e0, e1, e2, e3, u6, k6, m6⟩, ⟨g11, u11, l11, b11⟩⟩ := hV
              simp only [u11, u6]
              have U6 := Lib.hid u6
              have U11 := Lib.hid u11
              clear u6 u11
              obtain ⟨q0', q1', q2', q3', q4'⟩ := blk_cells5 b11
              have fW := b11.frozen
              have hg9 := b11.lt
              have HT := Lib.hid (touch5 W g11 (.int .i64 2) (.int .i64 1) (.slice e0 0 e1) (.slice e2 0 e3) (.int .i64 2))
              have HN := Lib.hid (blk_set5 b11 (.int .i64 2) (.int .i64 1) (.slice e0 0 e1) (.slice e2 0 e3) (.int .i64 2))
              have HI := Lib.hid hI
              have HB9 := Lib.hid b11
              clear hI b11
              go_wp2_with fail
              refine step3_done (v := undef) rfl ?_ ?_ ?_
              · exact (toI HIp ⟨HI.out.1.trans (HT.out.toBelow HI.out.1.size (fun k hk => by omega)), fun _ => ⟨g11, e0, e1, e2, e3, U11.out, l11, k6, m6, HN.out⟩⟩)
              · exact ⟨g11, HB9.out, HT.out, l11⟩
              · exact (toV HV rfl)
            · obtain ⟨⟨f0, f1, f2, f3, f4, f5, f6, u7⟩, ⟨g12, u12, l12, b12⟩⟩ := hV
              simp only [u12, u7]
              have U7 := Lib.hid u7
              have U12 := Lib.hid u12
              clear u7 u12
              obtain ⟨q0', q1', q2', q3', q4'⟩ := blk_cells5 b12
              have fW := b12.frozen
              have hg9 := b12.lt
              have HT := Lib.hid (touch5 W g12 (.int .i64 f0) (.int .i64 f1) (.int .i64 f2) (.slice f3 f4 f5) (.string f6))
              have HN := Lib.hid (blk_set5 b12 (.int .i64 f0) (.int .i64 f1) (.int .i64 f2) (.slice f3 f4 f5) (.string f6))
              have HI := Lib.hid hI
              have HB9 := Lib.hid b12
              clear hI b12
              go_wp2_with fail
              refine step3_done (v := undef) rfl ?_ ?_ ?_
              · exact (toI HIp ⟨HI.out.1.trans (HT.out.toBelow HI.out.1.size (fun k hk => by omega)), fun h => by obtain ⟨g, e0, e1, e2, e3, h1, h2, n1', n2', h5⟩ := HI.out.2 h; exact ⟨g, e0, e1, e2, e3, h1, h2, n1', n2', h5.touch HT.out (fun e => blk_types h5 HB9.out (by decide) e)⟩⟩)
              · exact ⟨g12, HB9.out, HT.out, l12⟩
              · exact (toV HV rfl)
            · have u8 := hV
              clear hV
              simp only [u8]
              clear u8
              have HI := Lib.hid hI
              clear hI
              go_wp2_with fail
              refine step3_done rfl ?_ ?_ ?_
              · exact (toI HIp HI.out)
              · exact (Below.refl _ _)
              · exact (toV HV rfl)
            · obtain ⟨y9, u9⟩ := hV
              simp only [u9]
              have U9 := Lib.hid u9
              clear u9
              have HI := Lib.hid hI
              clear hI
              go_wp2_with fail
              refine step3_done rfl ?_ ?_ ?_
              · exact (toI HIp HI.out)
              · exact (Below.refl _ _)
              · exact (toV HV ⟨_, rfl⟩)
            · have u10 := hV
              clear hV
              simp only [u10]
              clear u10
              have HI := Lib.hid hI
              clear hI
              go_wp2_with fail
              refine step3_done rfl ?_ ?_ ?_
              · exact (toI HIp HI.out)
              · exact (Below.refl _ _)
              · exact (toV HV rfl)
          case fin =>
            intro x W L hL hI hV
            replace hI : (Below w7.heap.size w7 W ∧ (L 13 = true → ∃ g e0 e1 e2 e3, x 11 = .pointer (some ⟨g, 0, none⟩) ∧ w7.heap.size ≤ g ∧ NilS e0 e1 ∧ NilS e2 e3 ∧ Blk g (.cells #[.int .i64 2, .int .i64 1, .slice e0 0 e1, .slice e2 0 e3, .int .i64 2] 33 (0, 0)) W)) := ofI HIp hI
            rw [HV.out] at hV
            simp only [AllV, and_true] at hV
            obtain ⟨u0, u1, u2, u3, ⟨e0, e1, e2, e3, f0, f1, f2, f3, f4, f5, f6, z4, u4, k4, m4⟩, ⟨e0, e1, e2, e3, f0, f1, f2, f3, f4, f5, f6, z5, u5, k5, m5⟩, ⟨e0, e1, e2, e3, u6, k6, m6⟩, ⟨f0, f1, f2, f3, f4, f5, f6, u7⟩, u8, ⟨y9, u9⟩, u10, u13, u14, u15, ⟨y16, u16⟩, u17⟩ := hV
            simp only [getsD, List.getD_cons_succ, List.getD_cons_zero, List.length_cons, List.length_nil, List.range, List.range.loop, u0, u1, u2, u3, u4, u5, u6, u7, u8, u9, u10, u13, u14, u15, u16, u17, Act.put, List.setIfInBounds_toArray, List.set_cons_succ, List.set_cons_zero]
            clear u0 u1 u2 u3 u4 u5 u6 u7 u8 u9 u10 u13 u14 u15 u16 u17
            obtain ⟨gC, sC0, cC0, sC1, cC1, hxC, hlC, nC0, nC1, bC⟩ := hI.2 (hL 13 (by simp))
            have hb := hI.1
            replace p0 := (hb.cell (p := ⟨pg, po, none⟩) pF.2).trans p0
            replace p1' := (hb.cell (p := ⟨pg, po + 1, none⟩) pF.2).trans p1'
            replace p2' := (hb.cell (p := ⟨pg, po + 1 + 1, none⟩) pF.2).trans p2'
            replace p3 := (hb.cell (p := ⟨pg, po + 1 + 1 + 1, none⟩) pF.2).trans p3
            replace p4 := (hb.cell (p := ⟨pg, po + 1 + 1 + 1 + 1, none⟩) pF.2).trans p4
            replace p5 := (hb.cell (p := ⟨pg, po + 1 + 1 + 1 + 1 + 1, none⟩) pF.2).trans p5
            replace p6 := (hb.cell (p := ⟨pg, po + 1 + 1 + 1 + 1 + 1 + 1, none⟩) pF.2).trans p6
            replace p7 := (hb.cell (p := ⟨pg, po + 1 + 1 + 1 + 1 + 1 + 1 + 1, none⟩) pF.2).trans p7
            replace p8 := (hb.cell (p := ⟨pg, po + 1 + 1 + 1 + 1 + 1 + 1 + 1 + 1, none⟩) pF.2).trans p8
            replace pR := pR.up hb
            replace pF : Fresh w3.heap.size W pg := ⟨pF.1, Nat.lt_of_lt_of_le pF.2 hb.size⟩
            replace q0 := (hb.cell (p := ⟨qg, qo, none⟩) qF.2).trans q0
            replace q1' := (hb.cell (p := ⟨qg, qo + 1, none⟩) qF.2).trans q1'
            replace q2' := (hb.cell (p := ⟨qg, qo + 1 + 1, none⟩) qF.2).trans q2'
            replace q3 := (hb.cell (p := ⟨qg, qo + 1 + 1 + 1, none⟩) qF.2).trans q3
            replace q4 := (hb.cell (p := ⟨qg, qo + 1 + 1 + 1 + 1, none⟩) qF.2).trans q4
            replace q5 := (hb.cell (p := ⟨qg, qo + 1 + 1 + 1 + 1 + 1, none⟩) qF.2).trans q5
            replace q6 := (hb.cell (p := ⟨qg, qo + 1 + 1 + 1 + 1 + 1 + 1, none⟩) qF.2).trans q6
            replace q7 := (hb.cell (p := ⟨qg, qo + 1 + 1 + 1 + 1 + 1 + 1 + 1, none⟩) qF.2).trans q7
            replace q8 := (hb.cell (p := ⟨qg, qo + 1 + 1 + 1 + 1 + 1 + 1 + 1 + 1, none⟩) qF.2).trans q8
            replace qR := qR.up hb
            replace qF : Fresh w3.heap.size W qg := ⟨qF.1, Nat.lt_of_lt_of_le qF.2 hb.size⟩
            replace XA := Lib.hid (XA.out.go hb)
            have XS := Lib.hid bC
            replace GD := Lib.hid (GD.out.go hb)
            have N0 := Lib.hid (And.intro nC0 nC1)
            replace B5 := Lib.hid (up B5.out hb)
            simp only [hxC]
            obtain ⟨w8, rfl⟩ : ∃ x : World, x = W := ⟨_, rfl⟩
            clear hI hL hb bC nC0 nC1
            obtain ⟨i0, i1, i2, i3, i4⟩ := blk_cells5 XA.out
            obtain ⟨j0, j1, j2, j3, j4⟩ := blk_cells5 XS.out
            go_wp2_with fail
            go_ret
            exact ⟨rfl, B5.out⟩
end Go.Proofs.YtkhacogeffidoaaDoor

set_option linter.unusedVariables false
set_option linter.unusedSimpArgs false
namespace Go.Proofs.YtkhacogeffidoaaDoor
open Go.RowKit

theorem RdS.sub {α : Type} [Rep α] {A : Nat → Prop} {w : World} {l : List α} {b off n c c' : Nat} (hr : RdS A w l (some ⟨b, off, none⟩) n c) (k m : Nat) (hm : k + m ≤ n) (hc : m ≤ c') (hc2 : c' ≤ maxLen) :
    RdS A w ((l.drop k).take m) (some ⟨b, off + k * Rep.n α, none⟩) m c' := by
  have hn := hr.1
  refine ⟨by rw [List.length_take, List.length_drop]; omega, hc, hc2, (fun h => by cases h), fun h0 => ?_⟩
  obtain ⟨b', off', e, hA, hb, he⟩ := hr.2.2.2.2 (by omega)
  injection e with e
  injection e with e1 e2 e3
  subst e1 e2
  refine ⟨b, off + k * Rep.n α, rfl, hA, hb, fun i x hi => ?_⟩
  have him : i < m := by
    have := (List.getElem?_eq_some_iff.1 hi).1
    rw [List.length_take] at this; omega
  rw [List.getElem?_take_of_lt him, List.getElem?_drop] at hi
  obtain ⟨xs, h1, h2⟩ := he (k + i) x hi
  refine ⟨xs, h1, fun j u hu => ?_⟩
  have h3 := h2 j u hu
  rw [Nat.add_mul, ← Nat.add_assoc] at h3
  exact h3
/-- Op's call: what it makes lies in memory of its own -/
theorem mkOp_new (n : Int) (l : List Raw) (a : Option Addr) (m c : Nat) (w : World) (hr : RdS (· < w.heap.size) w l a m c) (hn : 0 ≤ n) (hn' : n ≤ 1000000000) :
    Calls Tryd.prog 29 #[.int .i64 n, .slice a m c] w fun e w' => ∃ a' c', e = .returned (.slice a' (mkOp n l).length c') ∧ RdS (fun b => w.heap.size ≤ b ∧ b < w'.heap.size) w' (mkOp n l) a' (mkOp n l).length c' ∧ Below w.heap.size w w' := by
  refine (mkOp_any (· < w.heap.size) n l a m c w (fun b h => h) hr hn hn').mono ?_
  rintro e w' ⟨a', c', rfl, hr', hb⟩
  refine ⟨a', c', rfl, ?_, hb⟩
  obtain ⟨h1, h2, h3, h4, h6⟩ := hr'
  refine ⟨h1, h2, h3, h4, fun hn => ?_⟩
  obtain ⟨b, off, e, hA, hlt, h⟩ := h6 hn
  exact ⟨b, off, e, ⟨hA, hlt⟩, hlt, fun i x hx => h i x hx⟩
end Go.Proofs.YtkhacogeffidoaaDoor

set_option linter.unusedVariables false
set_option linter.unusedSimpArgs false
namespace Go.Proofs.YtkhacogeffidoaaDoor
open Go.RowKit

set_option maxRecDepth 100000 in
set_option maxHeartbeats 2000000 in
theorem sameOp_ok (o : Op) (a b : Option Addr) (n c m d : Nat) (w : World) (h1 : RdS (· < w.heap.size) w o a n c) (h2 : RdS (· < w.heap.size) w o b m d) :
    Calls Tryd.prog 33 #[.slice a n c, .slice b m d] w fun e w' => e = .returned (.bool true) ∧ Below w.heap.size w w' := by
  obtain rfl : n = m := h1.1.trans h2.1.symm
  have hnl : n = o.length := h1.1
  have hnm : n ≤ maxLen := by have h3 := h1.2.1; have h4 := h1.2.2.1; omega
  unfold maxLen at hnm
  have hne : ((n : Int) != (n : Int)) = false := by simp
  have H1 := Lib.hid h1
  have H2 := Lib.hid h2
  have Hl := Lib.hid hnl
  clear h1 h2 hnl
  go_enter Tryd.func33, Tryd.ntmps33
  go_wp2_with fail
  go_loopw [13] (fun i wr => ∃ k : Nat, k ≤ n ∧ i = .int .i64 k ∧ Below w.heap.size w wr) (fun i _ => n - (intOf i).toNat)
  case atStart => exact ⟨0, by omega, rfl, Below.refl _ _⟩
  case round =>
    obtain ⟨k, hk, rfl, hb⟩ := hrel
    by_cases hlt : k < n
    · have r1 := H1.out.go hb
      have r2 := H2.out.go hb
      obtain ⟨b1, off1, rfl, _, hbs1, hcs1⟩ := r1.part (by omega)
      obtain ⟨b2, off2, rfl, _, hbs2, hcs2⟩ := r2.part (by omega)
      have hkl : k < o.length := by have := Hl.out; omega
      obtain ⟨hk64, hn64, ht, c0, c1, c2⟩ := hcs1 k hkl
      obtain ⟨-, -, -, d0, d1, d2⟩ := hcs2 k hkl
      generalize o[k] = p at *
      obtain ⟨pk, pn, pt⟩ := p
      simp only at c0 c1 c2 d0 d1 d2 hk64 hn64 ht
      have HB := Lib.hid hb
      clear r1 r2 hcs1 hcs2 hb hkl
      have hkn : (k : Int) < (n : Int) := by omega
      go_wp2_with fail
      go_quiet (fail)
      go_wp2_with fail
      go_roundw
      case rel => exact ⟨k + 1, by omega, by go_num, by first | exact HB.out | exact HB.out.drew | exact below_drewN HB.out _⟩
      case measure => simp [intOf]; omega
    · have hkn : k = n := by omega
      subst hkn
      have HB := Lib.hid hb
      clear hb
      go_wp2_with fail
      go_ret
      exact ⟨rfl, HB.out⟩
end Go.Proofs.YtkhacogeffidoaaDoor

set_option linter.unusedVariables false
set_option linter.unusedSimpArgs false
namespace Go.Proofs.YtkhacogeffidoaaDoor
open Go.RowKit

set_option maxRecDepth 100000 in
set_option maxHeartbeats 2000000 in
theorem sameFrame_ok (f : Fr) (a b : Option Addr) (n c m d : Nat) (w : World) (h1 : RdS (· < w.heap.size) w f.op a n c) (h2 : RdS (· < w.heap.size) w f.op b m d) :
    Calls Tryd.prog 47 #[.agg #[.int .i64 f.kind, .int .i64 f.heard, .int .i64 f.epoch, .slice a n c, .string f.text], .agg #[.int .i64 f.kind, .int .i64 f.heard, .int .i64 f.epoch, .slice b m d, .string f.text]] w fun e w' => e = .returned (.bool true) ∧ Below w.heap.size w w' := by
  have HS := Lib.hid (fun W (hW : Below w.heap.size w W) => sameOp_ok f.op a b n c m d W (h1.go hW) (h2.go hW))
  obtain ⟨k, h, e, o, t⟩ := f
  simp only at *
  have e1 : (k == k) = true := by simp
  have e2 : (h == h) = true := by simp
  have e3 : (e == e) = true := by simp
  clear h1 h2
  go_enter Tryd.func47, Tryd.ntmps47
  go_wp2_with fail
  refine abs_run (fun W => Below w.heap.size w W) (by (repeat (first | exact Below.refl _ _ | assumption | (refine Below.drew ?_) | (refine below_drewN ?_ _) | (refine Below.alloc ?_ (by first | (simp; done) | (simp; omega) | omega) _) | (refine Below.setCell ?_ (by first | (simp; done) | (simp; omega) | omega) _) | (refine Below.trans ?_ (Below.mono (by assumption) (by first | (simp; done) | (simp; omega) | omega)))))) ?_
  intro W hW
  refine (HS.out W hW).mono ?_
  rintro x w2 ⟨rfl, u2⟩
  have U2 := Lib.hid (up hW u2)
  clear hW u2 HS
  go_wp2_with fail
  go_ret
  exact ⟨rfl, U2.out⟩
set_option maxRecDepth 100000 in
set_option maxHeartbeats 2000000 in
theorem samePacket_ok (p : Pkt) (a b : Option Addr) (n c m d : Nat) (w : World) (h1 : RdS (· < w.heap.size) w p.f.op a n c) (h2 : RdS (· < w.heap.size) w p.f.op b m d) :
    Calls Tryd.prog 22 #[.agg #[.int .i64 p.epoch, .int .i64 p.number, .bool p.bare, .int .i64 p.ack, .int .i64 p.f.kind, .int .i64 p.f.heard, .int .i64 p.f.epoch, .slice a n c, .string p.f.text], .agg #[.int .i64 p.epoch, .int .i64 p.number, .bool p.bare, .int .i64 p.ack, .int .i64 p.f.kind, .int .i64 p.f.heard, .int .i64 p.f.epoch, .slice b m d, .string p.f.text]] w fun e w' => e = .returned (.bool true) ∧ Below w.heap.size w w' := by
  have HS := Lib.hid (fun W (hW : Below w.heap.size w W) => sameFrame_ok p.f a b n c m d W (h1.go hW) (h2.go hW))
  obtain ⟨ep, nu, ba, ac, k, h, e, o, t⟩ := p
  simp only at *
  have e1 : (ep == ep) = true := by simp
  have e2 : (nu == nu) = true := by simp
  have e3 : (ba == ba) = true := by simp
  have e4 : (ac == ac) = true := by simp
  clear h1 h2
  go_enter Tryd.func22, Tryd.ntmps22
  go_wp2_with fail
  refine abs_run (fun W => Below w.heap.size w W) (by (repeat (first | exact Below.refl _ _ | assumption | (refine Below.drew ?_) | (refine below_drewN ?_ _) | (refine Below.alloc ?_ (by first | (simp; done) | (simp; omega) | omega) _) | (refine Below.setCell ?_ (by first | (simp; done) | (simp; omega) | omega) _) | (refine Below.trans ?_ (Below.mono (by assumption) (by first | (simp; done) | (simp; omega) | omega)))))) ?_
  intro W hW
  refine (HS.out W hW).mono ?_
  rintro x w2 ⟨rfl, u2⟩
  have U2 := Lib.hid (up hW u2)
  clear hW u2 HS
  go_wp2_with fail
  go_ret
  exact ⟨rfl, U2.out⟩
end Go.Proofs.YtkhacogeffidoaaDoor

set_option linter.unusedVariables false
set_option linter.unusedSimpArgs false
namespace Go.Proofs.YtkhacogeffidoaaDoor
open Go.RowKit

/-- one bare packet that tells u, in its cells -/
def AckC (u : Int) (g off : Nat) (a : Option Addr) (c : Nat) (w : World) : Prop := g < w.heap.size ∧ w.cell? ⟨g, off, none⟩ = some (.int .i64 2) ∧ w.cell? ⟨g, off + 1, none⟩ = some (.int .i64 0) ∧ w.cell? ⟨g, off + 1 + 1, none⟩ = some (.bool true) ∧ w.cell? ⟨g, off + 1 + 1 + 1, none⟩ = some (.int .i64 u) ∧
    w.cell? ⟨g, off + 1 + 1 + 1 + 1, none⟩ = some (.int .i64 0) ∧ w.cell? ⟨g, off + 1 + 1 + 1 + 1 + 1, none⟩ = some (.int .i64 0) ∧ w.cell? ⟨g, off + 1 + 1 + 1 + 1 + 1 + 1, none⟩ = some (.int .i64 0) ∧ w.cell? ⟨g, off + 1 + 1 + 1 + 1 + 1 + 1 + 1, none⟩ = some (.slice a 0 c) ∧ w.cell? ⟨g, off + 1 + 1 + 1 + 1 + 1 + 1 + 1 + 1, none⟩ = some (.string ⟨#[]⟩)
theorem AckC.keep {u : Int} {g off : Nat} {a : Option Addr} {c : Nat} {w w' : World} (h : AckC u g off a c w) (hz : w.heap.size ≤ w'.heap.size) (hc : ∀ o, w'.cell? ⟨g, o, none⟩ = w.cell? ⟨g, o, none⟩) : AckC u g off a c w' := by
  obtain ⟨h, h0, h1, h2, h3, h4, h5, h6, h7, h8⟩ := h
  exact ⟨Nat.lt_of_lt_of_le h hz, (hc _).trans h0, (hc _).trans h1, (hc _).trans h2, (hc _).trans h3, (hc _).trans h4, (hc _).trans h5, (hc _).trans h6, (hc _).trans h7, (hc _).trans h8⟩
/-- the same as a value -/
def AckV (u : Int) (v : Value) (w : World) : Prop := ∃ g off pc a c, v = .slice (some ⟨g, off, none⟩) 1 pc ∧ NilS a c ∧ AckC u g off a c w
theorem AckV.go {u : Int} {v : Value} {w w' : World} (h : AckV u v w) (hb : Below w.heap.size w w') : AckV u v w' := by
  obtain ⟨g, off, pc, a, c, e, hn, h⟩ := h
  exact ⟨g, off, pc, a, c, e, hn, h.keep hb.size fun o => hb.cell (p := ⟨g, o, none⟩) h.1⟩
/-- a block that holds no bool -/
def NoBool (g : Nat) (w : World) : Prop := ∀ j b, w.cell? ⟨g, j, none⟩ ≠ some (.bool b)
theorem AckV.off {u : Int} {v : Value} {k : Nat} {w w' : World} (h : AckV u v w) (hk : NoBool k w) (ht : Touch (fun z => z = k) w w') : AckV u v w' := by
  obtain ⟨g, off, pc, a, c, e, hn, h⟩ := h
  refine ⟨g, off, pc, a, c, e, hn, h.keep ht.size fun o => ht.cell h.1 ?_⟩
  rintro rfl
  exact hk _ _ h.2.2.2.1
theorem link_nobool {g : Nat} {w : World} (h : Blk g (.cells #[.int .i64 0, .int .i64 0, .slice none 0 0, .slice none 0 0, .int .i64 0] 33 (0, 0)) w) : NoBool g w := by
  intro j s
  rw [h.cell j]
  match j with
  | 0 => simp
  | 1 => simp
  | 2 => simp
  | 3 => simp
  | 4 => simp
  | j + 5 => simp
theorem frame_nobool {g : Nat} {w : World} (h : Blk g (.cells #[.int .i64 0, .int .i64 0, .int .i64 0, .slice none 0 0, .string ⟨#[]⟩] 30 (0, 0)) w) : NoBool g w := by
  intro j s
  rw [h.cell j]
  match j with
  | 0 => simp
  | 1 => simp
  | 2 => simp
  | 3 => simp
  | 4 => simp
  | j + 5 => simp
theorem hearT {f : Fr} (hf : f.check = 0) (hff : f.fits) (h j hn : Nat) (tb : Bool) (u v : Int) (hu : u = (h : Int)) (hv' : v = (hn : Int)) (hh : h < 1048576) (h1 : 1 ≤ j) (h2 : j ≤ 1048576) (e1 : (if j = h + 1 then h + 1 else h) = hn) (e2 : decide (j = h + 1) = tb) (B : Nat) (a b : Option Addr) (c d : Nat) (vp : Value) (w : World) (hg : Good w) (na : NilS a c) (nb : NilS b d) (hv : PkVal B (pkF f j) vp w) :
    Calls Tryd.prog 19 #[.agg #[.int .i64 2, .int .i64 1, .slice a 0 c, .slice b 0 d, .int .i64 u], vp] w fun e w' => ∃ e0 e1 e2 e3 f0 f1 f2 f3 f4 f5 f6 z, e = .returned (.tuple #[.agg #[.int .i64 2, .int .i64 1, .slice e0 0 e1, .slice e2 0 e3, .int .i64 v], .agg #[.int .i64 f0, .int .i64 f1, .int .i64 f2, .slice f3 f4 f5, .string f6], .bool tb, z, .int .i64 0]) ∧ NilS e0 e1 ∧ NilS e2 e3 ∧ AckV v z w' ∧ Below w.heap.size w w' := by
  subst hu hv'
  have hc := hear_val (lkH h) (pkF f j) (.agg #[.int .i64 2, .int .i64 1, .slice a 0 c, .slice b 0 d, .int .i64 (h : Int)]) vp B w hg ⟨a, c, b, d, rfl, na.rd, nb.rd⟩ hv (lkH_fits (by omega)) (pkF_fits hff h2) (by simp [lkH])
  obtain ⟨q1, q2, q3, q4⟩ := lkH_hear hf hh h1 h2
  rw [q1, q2, q3, q4, e1, e2] at hc
  refine hc.mono ?_
  rintro e w' ⟨ul, uf, up', rfl, ⟨sa, sc, qa, qc, rfl, r1, r2⟩, ⟨fa, fc, rfl, -⟩, hp, hb⟩
  refine ⟨sa, sc, qa, qc, _, _, _, fa, _, fc, _, up', rfl, NilS.of r1, NilS.of r2, ?_, hb⟩
  obtain ⟨g, off, pc, a', c', rfl, hF, hr, y0, y1, y2, y3, y4, y5, y6, y7, y8⟩ := hp.at 0 (by simp)
  simp only [Nat.zero_mul, Nat.add_zero, List.getElem_cons_zero] at hr y0 y1 y2 y3 y4 y5 y6 y7 y8
  exact ⟨g, off, pc, a', c', rfl, ⟨hr.2.2.1, hr.2.2.2.1⟩, hF.2, y0, y1, y2, y3, y4, y5, y6, y7, y8⟩
theorem sameAck (u : Int) (a b : Option Addr) (c d : Nat) (w : World) (na : NilS a c) (nb : NilS b d) :
    Calls Tryd.prog 22 #[.agg #[.int .i64 2, .int .i64 0, .bool true, .int .i64 u, .int .i64 0, .int .i64 0, .int .i64 0, .slice a 0 c, .string ⟨#[]⟩], .agg #[.int .i64 2, .int .i64 0, .bool true, .int .i64 u, .int .i64 0, .int .i64 0, .int .i64 0, .slice b 0 d, .string ⟨#[]⟩]] w fun e w' => e = .returned (.bool true) ∧ Below w.heap.size w w' :=
  samePacket_ok ⟨2, 0, true, u, bareFr⟩ a b 0 c 0 d w (RdS.nil' _ w a c na.1 na.2) (RdS.nil' _ w b d nb.1 nb.2)
end Go.Proofs.YtkhacogeffidoaaDoor
