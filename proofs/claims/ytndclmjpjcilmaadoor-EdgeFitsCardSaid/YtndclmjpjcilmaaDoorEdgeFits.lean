/- The walk of EdgeFits. -/
import Derived.Test.YtndclmjpjcilmaaDoorSend
set_option linter.unusedSimpArgs false
namespace Go.Proofs.YtndclmjpjcilmaaDoor
open Go.RowKit

theorem sendE_first {o : Op} (h : check o = 0) : sendE 0 0 [] o = 0 := by
  simp [sendE, edgeCheck, edgeOdd, chainFrom, h, lastT]
theorem edgeCheck_one {o : Op} (h : check o = 0) : edgeCheck 1 0 [o] = 0 := by
  have e : ¬ edgeOdd 1 0 [o] := by unfold edgeOdd; simp
  unfold edgeCheck
  rw [if_neg e, chain_none h]
  rfl
theorem lastT_one (o : Op) : lastT [o] = some (sumT o) := rfl
theorem sendE_next {o q : Op} (h : check o = 0) (h2 : check q = 0) (h3 : sumF q = sumT o) : sendE 1 0 [o] q = 0 := by
  unfold sendE
  rw [edgeCheck_one h, lastT_one]
  simp [h2, h3]
/-- a side of the call's own as what reads -/
theorem Own.rdw {α : Type} [Rep α] {base e : Nat} {v : Value} {l : List α} {w w' : World} (h : Own (· < w.heap.size) w.heap.size e v l w') : ∃ a c, v = .slice a l.length c ∧ RdS (· < w'.heap.size) w' l a l.length c := by
  obtain ⟨a, c, hv, hr⟩ := h.rd (fun k hk hx => by have := (h.rowlt k hk).1; have hx2 : k < w.heap.size := hx; omega)
  exact ⟨a, c, hv, hr.wide fun b hb => hb.1⟩
/-- the first operation that is sent, and the next one -/
def SentPost (s : Int) (l : List Op) (w : World) (e : Ending) (w' : World) : Prop :=
  ∃ a c, e = .returned (.tuple #[.agg #[.int .i64 s, .int .i64 0, .slice a l.length c], .int .i64 0]) ∧ RdS (· < w'.heap.size) w' l a l.length c ∧ Below w.heap.size w w'
theorem send_first {o : Op} (h : check o = 0) (ao : Option Addr) (no co : Nat) (w : World) (hg : Good w) (hr : RdS (· < w.heap.size) w o ao no co) :
    Calls Tryd.prog 26 #[.agg #[.int .i64 0, .int .i64 0, .slice none 0 0], .slice ao no co] w (SentPost 1 [o] w) := by
  refine (send_ok 0 0 [] o none ao 0 0 no co w hg (RdS.none' w) hr (by unfold I64; omega) (by unfold I64; omega) (sendE_first h)).mono ?_
  rintro e w' ⟨v, rfl, hown, hb⟩
  obtain ⟨a, c, rfl, hr'⟩ := Own.rdw (base := 0) hown
  exact ⟨a, c, rfl, hr', hb⟩
theorem send_next {o q : Op} (h : check o = 0) (h2 : check q = 0) (h3 : sumF q = sumT o) (a ao : Option Addr) (c no co : Nat) (w : World) (hg : Good w) (hr : RdS (· < w.heap.size) w [o] a 1 c) (hr2 : RdS (· < w.heap.size) w q ao no co) :
    Calls Tryd.prog 26 #[.agg #[.int .i64 1, .int .i64 0, .slice a 1 c], .slice ao no co] w (SentPost 2 [o, q] w) := by
  refine (send_ok 1 0 [o] q a ao 1 c no co w hg hr hr2 (by unfold I64; omega) (by unfold I64; omega) (sendE_next h h2 h3)).mono ?_
  rintro e w' ⟨v, rfl, hown, hb⟩
  obtain ⟨a, c, rfl, hr'⟩ := Own.rdw (base := 0) hown
  exact ⟨a, c, rfl, hr', hb⟩

set_option maxRecDepth 100000 in
set_option maxHeartbeats 6000000 in
theorem edgeFits_walk (w : World) (hg : Good w) (s : Str) (hs : s.size ≤ maxLen) (a : Option Addr) (n c : Nat) (l : List Raw) (hr : RdS (· < w.heap.size) w l a n c) (more : Int) (hmo : I64 more) :
    Calls Tryd.prog 9 #[.string s, .slice a n c, .int .i64 more] w fun e w' => e = .returned (.bool true) ∧ Below w.heap.size w w' := by
  have HL := Lib.hid (letters_any s 20 w hs (by omega))
  obtain ⟨s0, s1, s2, s3⟩ := letters_ok s 20 (by omega)
  have HR := Lib.hid (fun W => runes_any (letters s 20) W (by omega))
  generalize letters s 20 = S at *
  generalize rc S = K at *
  have r2 := pk_range more 9 (by omega)
  have HP := Lib.hid (fun W => picked_any more 9 W hmo (by omega) (by omega))
  generalize pk more 9 = p9 at *
  obtain ⟨o0, o1, o2, o3⟩ := mkOp_ok K l (by omega) (by omega)
  have HO := Lib.hid (fun W (h : RdS (· < W.heap.size) W l a n c) => mkOp_go K l a n c W h (by omega) (by omega))
  generalize mkOp K l = o at *
  obtain ⟨q0, q1, q2, q3⟩ := mkOp_ok (sumT o) [] (by omega) (by omega)
  have HQ := Lib.hid (fun W => mkOp_go (sumT o) [] none 0 0 W (RdS.none' W) (by omega) (by omega))
  generalize mkOp (sumT o) [] = q at *
  obtain ⟨z0, z1, z2, z3⟩ := mkOp_ok (sumT o + 1 + p9) [] (by omega) (by omega)
  have HZ := Lib.hid (fun W => mkOp_go (sumT o + 1 + p9) [] none 0 0 W (RdS.none' W) (by omega) (by omega))
  generalize mkOp (sumT o + 1 + p9) [] = z at *
  have HLn := Lib.hid (fun a c W h => lengths_go o a o.length c W h o0)
  have H1 := Lib.hid (fun ao co W hg hr => send_first o0 ao o.length co W hg hr)
  have H2 := Lib.hid (fun a c ao co W hg hr hr2 => send_miss 1 0 [o] z a ao 1 c z.length co W hg hr hr2 (by unfold I64; omega) (by unfold I64; omega) (edgeCheck_one o0) z0 (sumT o) (lastT_one o) (by omega))
  have H3 := Lib.hid (fun a c ao co W hg hr hr2 => send_next o0 q0 q1 a ao c q.length co W hg hr hr2)
  clear s0 hs hmo o0 o1 q0 q1 q2 q3 z0 z1 z2 z3
  generalize sumF o = x at *
  generalize sumT o = y at *
  generalize hno : o.length = no at *
  generalize hnq : q.length = nq at *
  generalize hnz : z.length = nz at *
  clear hno hnq hnz
  have iy1 : IntKind.i64.wrap (y + 1) = y + 1 := IntWalk.i64_in _ (by omega)
  have iy2 : IntKind.i64.wrap (y + 1 + p9) = y + 1 + p9 := IntWalk.i64_in _ (by omega)
  have Iy1 := Lib.hid iy1
  have Iy2 := Lib.hid iy2
  clear iy1 iy2
  go_enter Tryd.func9, Tryd.ntmps9
  go_wp2_with fail
  refine HL.out.mono ?_
  rintro e w1 ⟨rfl, u1⟩
  go_wp2_with fail
  refine (HR.out _).mono ?_
  rintro e w2 ⟨rfl, u2⟩
  have v2 := up u1 u2
  go_wp2_with fail
  refine (HO.out _ (hr.go v2)).mono ?_
  rintro e w3 ⟨a3, c3, rfl, hro, u3⟩
  have v3 := up v2 u3
  clear u1 u2 u3 v2 HL HR HO hr
  go_wp2_with fail
  refine (H1.out _ _ _ (hg.go v3) hro).mono ?_
  rintro e w4 ⟨a4, c4, rfl, hre, u4⟩
  have v4 := up v3 u4
  have hro4 := hro.go u4
  clear hro u4 v3 H1
  go_wp2_with fail
  refine abs_run (fun W => Below w4.heap.size w4 W ∧ Blk w4.heap.size (.cells #[.int .i64 1, .int .i64 0, .slice a4 1 c4] 42 (0, 0)) W) ⟨by (repeat (first | exact Below.refl _ _ | assumption | (refine Below.drew ?_) | (refine below_drewN ?_ _) | (refine Below.alloc ?_ (by first | (simp; done) | (simp; omega) | omega) _) | (refine Below.setCell ?_ (by first | (simp; done) | (simp; omega) | omega) _) | (refine Below.trans ?_ (Below.mono (by assumption) (by first | (simp; done) | (simp; omega) | omega))))), Blk.new _ _⟩ ?_
  rintro w5 ⟨u5, b5⟩
  have v5 := up v4 u5
  have hro5 := hro4.go u5
  have hre5 := hre.go u5
  clear hro4 u5 v4 hre
  refine (HLn.out _ _ _ hro5).mono ?_
  rintro e w6 ⟨rfl, u6⟩
  have v6 := up v5 u6
  have hre6 := hre5.go u6
  have b6 := b5.go u6
  have hg6 := hg.go v6
  clear hro5 u6 v5 hre5 b5 HLn hg
  go_wp2_with fail
  obtain ⟨Vp, HV⟩ : ∃ Vp : Nat → Value → World → Prop, Hid (Vp = fun i v W => match i with
      | 0 => v = .agg #[.int .i64 1, .int .i64 0, .slice a4 1 c4]
      | 1 => v = .int .i64 y
      | 2 => v = .int .i64 (y + 1)
      | 3 => v = .int .i64 more
      | 4 => v = .int .i64 p9
      | 5 => v = .int .i64 (y + 1 + p9)
      | 6 => ∃ a c, v = .slice a nz c ∧ RdS (· < W.heap.size) W z a nz c
      | 7 => v = .tuple #[.agg #[.int .i64 0, .int .i64 0, .slice none 0 0], .int .i64 10]
      | 8 => v = .tuple #[.agg #[.int .i64 0, .int .i64 0, .slice none 0 0], .int .i64 10]
      | 9 => v = .agg #[.int .i64 0, .int .i64 0, .slice none 0 0]
      | 10 => v = .int .i64 10
      | 11 => ∃ g, v = .pointer (some ⟨g, 0, none⟩) ∧ w6.heap.size ≤ g ∧ Blk g (.cells #[.int .i64 0, .int .i64 0, .slice none 0 0] 42 (0, 0)) W
      | 12 => v = undef
      | _ => v = .int .i64 10) := ⟨_, rfl⟩
  obtain ⟨Ip, HIp⟩ : ∃ Ip : (Nat → Bool) → (Nat → Value) → World → Prop, Hid (Ip = fun L x W => Below w6.heap.size w6 W) := ⟨_, rfl⟩
  refine region_lit3 (by kernel_rfl) (by kernel_rfl) (by kernel_rfl) [[], [], [1], [], [3], [1, 2, 3, 4], [1, 2, 3, 4, 5], [0, 1, 2, 3, 4, 5, 6], [0, 1, 2, 3, 4, 5, 6, 7], [0, 1, 2, 3, 4, 5, 6, 7, 8], [0, 1, 2, 3, 4, 5, 6, 7, 8], [], [0, 1, 2, 3, 4, 5, 6, 7, 8, 9, 11], [0, 1, 2, 3, 4, 5, 6, 7, 8, 10]] (by kernel_rfl) [some 35, some 36, some 37, some 38, some 39, some 40, some 41, some 42, some 34, some 43, some 44, some 13, none, some 14] (by kernel_rfl) [[0, 7, 8, 9, 10, 12, 13], [1, 2, 5, 6, 7, 8, 9, 10, 12, 13], [2, 5, 6, 7, 8, 9, 10, 12, 13], [3, 4, 5, 6, 7, 8, 9, 10, 12, 13], [4, 5, 6, 7, 8, 9, 10, 12, 13], [5, 6, 7, 8, 9, 10, 12, 13], [6, 7, 8, 9, 10, 12, 13], [7, 8, 9, 10, 12, 13], [8, 9, 10, 12, 13], [9, 12], [10, 13], [11, 12], [12], [13]] (by kernel_rfl) [[], [], [], [], [], [], [12], [], [], [], [], [12], [], []] [[], [], [1], [], [3], [2, 4], [5], [0, 6], [7], [8], [8], [], [9, 11], [10]] (by kernel_rfl)
    Ip
    Vp
    (fun j W W' => match j with
      | 12 => Below w6.heap.size W W'
      | _ => Below W.heap.size W W')
    [fun x => ⟨#[undef, undef, undef, undef, undef, undef, undef, undef, undef, .pointer (some ⟨w4.heap.size, 0, none⟩), undef, undef, undef, undef, undef, undef, undef, undef, undef, undef, undef, undef, undef, undef, undef, undef, undef, undef, undef, undef, undef, undef, undef, undef, undef, undef], []⟩,
   fun x => ⟨#[undef, undef, undef, undef, undef, undef, undef, undef, undef, undef, undef, undef, .int .i64 y, undef, undef, undef, undef, undef, undef, undef, undef, undef, undef, undef, undef, undef, undef, undef, undef, undef, undef, undef, undef, undef, undef, undef, undef], []⟩,
   fun x => ⟨#[undef, undef, undef, undef, undef, undef, undef, undef, undef, undef, undef, undef, undef, undef, undef, undef, undef, undef, undef, undef, undef, undef, undef, undef, undef, undef, undef, undef, undef, undef, undef, undef, undef, undef, undef, undef, x 1, undef], []⟩,
   fun x => ⟨#[undef, undef, .int .i64 more, undef, undef, undef, undef, undef, undef, undef, undef, undef, undef, undef, undef, undef, undef, undef, undef, undef, undef, undef, undef, undef, undef, undef, undef, undef, undef, undef, undef, undef, undef, undef, undef, undef, undef, undef, undef], []⟩,
   fun x => ⟨#[undef, undef, undef, undef, undef, undef, undef, undef, undef, undef, undef, undef, undef, undef, undef, undef, undef, undef, undef, undef, undef, undef, undef, undef, undef, undef, undef, undef, undef, undef, undef, undef, undef, undef, undef, undef, undef, undef, x 3, undef], []⟩,
   fun x => ⟨#[undef, undef, undef, undef, undef, undef, undef, undef, undef, undef, undef, undef, undef, undef, undef, undef, undef, undef, undef, undef, undef, undef, undef, undef, undef, undef, undef, undef, undef, undef, undef, undef, undef, undef, undef, undef, undef, x 2, undef, x 4, undef], []⟩,
   fun x => ⟨#[undef, undef, undef, undef, undef, undef, undef, undef, undef, undef, undef, undef, undef, undef, undef, undef, undef, undef, undef, undef, undef, undef, undef, undef, undef, undef, undef, undef, undef, undef, undef, undef, undef, undef, undef, undef, undef, undef, undef, undef, x 5, undef], []⟩,
   fun x => ⟨#[undef, undef, undef, undef, undef, undef, undef, undef, undef, undef, undef, undef, undef, undef, undef, undef, undef, undef, undef, undef, undef, undef, undef, undef, undef, undef, undef, undef, undef, undef, undef, undef, undef, undef, undef, x 0, undef, undef, undef, undef, undef, x 6, undef], []⟩,
   fun x => ⟨#[undef, undef, undef, undef, undef, undef, undef, undef, undef, undef, undef, undef, undef, undef, undef, undef, undef, undef, undef, undef, undef, undef, undef, undef, undef, undef, undef, undef, undef, undef, undef, undef, undef, undef, undef, undef, undef, undef, undef, undef, undef, undef, x 7], []⟩,
   fun x => ⟨#[undef, undef, undef, undef, undef, undef, undef, undef, undef, undef, undef, undef, undef, undef, undef, undef, undef, undef, undef, undef, undef, undef, undef, undef, undef, undef, undef, undef, undef, undef, undef, undef, undef, undef, x 8, undef, undef, undef, undef, undef, undef, undef, undef, undef], []⟩,
   fun x => ⟨#[undef, undef, undef, undef, undef, undef, undef, undef, undef, undef, undef, undef, undef, undef, undef, undef, undef, undef, undef, undef, undef, undef, undef, undef, undef, undef, undef, undef, undef, undef, undef, undef, undef, undef, x 8, undef, undef, undef, undef, undef, undef, undef, undef, undef, undef], []⟩,
   fun x => ⟨#[undef, undef, undef, undef, undef, undef, undef, undef, undef, undef, undef, undef, undef, undef], []⟩,
   fun x => ⟨#[undef, undef, undef, undef, undef, undef, undef, undef, undef, undef, undef, undef, undef, x 11, undef, undef, undef, undef, undef, undef, undef, undef, undef, undef, undef, undef, undef, undef, undef, undef, undef, undef, undef, undef, undef, undef, undef, undef, undef, undef, undef, undef, undef, x 9], []⟩,
   fun x => ⟨#[undef, undef, undef, undef, undef, undef, undef, undef, undef, undef, undef, undef, undef, undef, undef, undef, undef, undef, undef, undef, undef, undef, undef, undef, undef, undef, undef, undef, undef, undef, undef, undef, undef, undef, undef, undef, undef, undef, undef, undef, undef, undef, undef, undef, x 10], []⟩]
    ?hF ?mono ?h0 ?step [0, 1, 2, 3, 4, 5, 7, 8, 9, 10, 12, 13] (by kernel_rfl) ?fin
  case hF =>
    exact ⟨fun x => ⟨by kernel_rfl, by kernel_rfl⟩, fun x => ⟨by kernel_rfl, by kernel_rfl⟩, fun x => ⟨by kernel_rfl, by kernel_rfl⟩, fun x => ⟨by kernel_rfl, by kernel_rfl⟩, fun x => ⟨by kernel_rfl, by kernel_rfl⟩, fun x => ⟨by kernel_rfl, by kernel_rfl⟩, fun x => ⟨by kernel_rfl, by kernel_rfl⟩, fun x => ⟨by kernel_rfl, by kernel_rfl⟩, fun x => ⟨by kernel_rfl, by kernel_rfl⟩, fun x => ⟨by kernel_rfl, by kernel_rfl⟩, fun x => ⟨by kernel_rfl, by kernel_rfl⟩, fun x => ⟨by kernel_rfl, by kernel_rfl⟩, fun x => ⟨by kernel_rfl, by kernel_rfl⟩, fun x => ⟨by kernel_rfl, by kernel_rfl⟩, trivial⟩
  case mono =>
    intro i j hi hj hne hna hnk v W W' hE hv
    rw [HV.out] at hv ⊢
    simp only [List.length_cons, List.length_nil] at hi hj
    match i, hi with
    | 0, _ | 1, _ | 2, _ | 3, _ | 4, _ | 5, _ | 7, _ | 8, _ | 9, _ | 10, _ | 12, _ | 13, _ => exact hv
    | 6, _ =>
      match j, hj with
      | 6, _ => exact absurd rfl hne
      | 1, _ => exact absurd (by simp) hna
      | 2, _ => exact absurd (by simp) hna
      | 3, _ => exact absurd (by simp) hna
      | 4, _ => exact absurd (by simp) hna
      | 5, _ => exact absurd (by simp) hna
      | 12, _ => exact absurd (by simp) hnk
      | 0, _ => exact (by obtain ⟨a, c, h1, h2⟩ := hv; exact ⟨a, c, h1, h2.go hE⟩)
      | 7, _ => exact (by obtain ⟨a, c, h1, h2⟩ := hv; exact ⟨a, c, h1, h2.go hE⟩)
      | 8, _ => exact (by obtain ⟨a, c, h1, h2⟩ := hv; exact ⟨a, c, h1, h2.go hE⟩)
      | 9, _ => exact (by obtain ⟨a, c, h1, h2⟩ := hv; exact ⟨a, c, h1, h2.go hE⟩)
      | 10, _ => exact (by obtain ⟨a, c, h1, h2⟩ := hv; exact ⟨a, c, h1, h2.go hE⟩)
      | 11, _ => exact (by obtain ⟨a, c, h1, h2⟩ := hv; exact ⟨a, c, h1, h2.go hE⟩)
      | 13, _ => exact (by obtain ⟨a, c, h1, h2⟩ := hv; exact ⟨a, c, h1, h2.go hE⟩)
      | m + 14, h => exact absurd h (by omega)
    | 11, _ =>
      match j, hj with
      | 11, _ => exact absurd rfl hne
      | 12, _ => exact absurd (by simp) hnk
      | 0, _ => exact (by obtain ⟨g, h1, h2, h3⟩ := hv; exact ⟨g, h1, h2, h3.go hE⟩)
      | 1, _ => exact (by obtain ⟨g, h1, h2, h3⟩ := hv; exact ⟨g, h1, h2, h3.go hE⟩)
      | 2, _ => exact (by obtain ⟨g, h1, h2, h3⟩ := hv; exact ⟨g, h1, h2, h3.go hE⟩)
      | 3, _ => exact (by obtain ⟨g, h1, h2, h3⟩ := hv; exact ⟨g, h1, h2, h3.go hE⟩)
      | 4, _ => exact (by obtain ⟨g, h1, h2, h3⟩ := hv; exact ⟨g, h1, h2, h3.go hE⟩)
      | 5, _ => exact (by obtain ⟨g, h1, h2, h3⟩ := hv; exact ⟨g, h1, h2, h3.go hE⟩)
      | 6, _ => exact (by obtain ⟨g, h1, h2, h3⟩ := hv; exact ⟨g, h1, h2, h3.go hE⟩)
      | 7, _ => exact (by obtain ⟨g, h1, h2, h3⟩ := hv; exact ⟨g, h1, h2, h3.go hE⟩)
      | 8, _ => exact (by obtain ⟨g, h1, h2, h3⟩ := hv; exact ⟨g, h1, h2, h3.go hE⟩)
      | 9, _ => exact (by obtain ⟨g, h1, h2, h3⟩ := hv; exact ⟨g, h1, h2, h3.go hE⟩)
      | 10, _ => exact (by obtain ⟨g, h1, h2, h3⟩ := hv; exact ⟨g, h1, h2, h3.go hE⟩)
      | 13, _ => exact (by obtain ⟨g, h1, h2, h3⟩ := hv; exact ⟨g, h1, h2, h3.go hE⟩)
      | m + 14, h => exact absurd h (by omega)
    | m + 14, h => exact absurd h (by omega)
  case h0 => intro x; exact toI HIp (Below.refl _ _).drew
  case step =>
    refine ⟨?_, ?_, ?_, ?_, ?_, ?_, ?_, ?_, ?_, ?_, ?_, ?_, ?_, ?_, trivial⟩
    all_goals
      intro x W L hI hL hV
      replace hI : Below w6.heap.size w6 W := ofI HIp hI
      rw [HV.out] at hV
      simp only [AllV, and_true] at hV
    · clear hV
      (try dsimp only)
      have bx := b6.go hI
      have c0 : W.cell? ⟨w4.heap.size, 0, none⟩ = some (.int .i64 1) := bx.cell 0
      have c1 : W.cell? ⟨w4.heap.size, 1, none⟩ = some (.int .i64 0) := bx.cell 1
      have c2 : W.cell? ⟨w4.heap.size, 2, none⟩ = some (.slice a4 1 c4) := bx.cell 2
      have HI := Lib.hid hI
      clear hI bx
      go_wp2_with fail
      refine step3_done rfl ?_ ?_ ?_
      · exact (toI HIp HI.out)
      · exact (Below.refl _ _)
      · exact (toV HV rfl)
    · clear hV
      (try dsimp only)
      have HI := Lib.hid hI
      clear hI
      go_wp2_with fail
      refine step3_done rfl ?_ ?_ ?_
      · exact (toI HIp HI.out)
      · exact (Below.refl _ _)
      · exact (toV HV rfl)
    · have u1 := hV
      clear hV
      simp only [u1]
      clear u1
      have HI := Lib.hid hI
      have iy := Iy1.out
      clear hI
      go_wp2_with fail
      refine step3_done rfl ?_ ?_ ?_
      · exact (toI HIp HI.out)
      · exact (Below.refl _ _)
      · exact (toV HV rfl)
    · clear hV
      (try dsimp only)
      have HI := Lib.hid hI
      clear hI
      go_wp2_with fail
      refine step3_done rfl ?_ ?_ ?_
      · exact (toI HIp HI.out)
      · exact (Below.refl _ _)
      · exact (toV HV rfl)
    · have u3 := hV
      clear hV
      simp only [u3]
      clear u3
      have HI := Lib.hid hI
      clear hI
      go_wp2_with fail
      refine (HP.out _).mono ?_
      rintro e W' ⟨rfl, rfl⟩
      go_wp2_with fail
      refine step3_done rfl ?_ ?_ ?_
      · exact (toI HIp HI.out)
      · exact (Below.refl _ _)
      · exact (toV HV rfl)
    · obtain ⟨u2, u4⟩ := hV
      simp only [u2, u4]
      clear u2 u4
      have HI := Lib.hid hI
      have iy := Iy2.out
      clear hI
      go_wp2_with fail
      refine step3_done rfl ?_ ?_ ?_
      · exact (toI HIp HI.out)
      · exact (Below.refl _ _)
      · exact (toV HV rfl)
    · have u5 := hV
      clear hV
      simp only [u5]
      clear u5
      have HI := Lib.hid hI
      clear hI
      go_wp2_with fail
      refine (HZ.out _).mono ?_
      rintro e W' ⟨az, cz, rfl, hrz, uW⟩
      have HW := Lib.hid (up HI.out uW)
      have HU := Lib.hid uW
      have HR := Lib.hid hrz
      clear uW hrz
      go_wp2_with fail
      refine step3_done rfl ?_ ?_ ?_
      · exact (toI HIp HW.out)
      · exact HU.out
      · exact (toV HV ⟨_, _, rfl, HR.out⟩)
    · obtain ⟨u0, ⟨az, cz, u6, rz⟩⟩ := hV
      simp only [u0, u6]
      have U6 := Lib.hid u6
      clear u0 u6
      have HI := Lib.hid hI
      have HR := Lib.hid rz
      clear hI rz
      go_wp2_with fail
      refine (H2.out _ _ _ _ _ (hg6.go HI.out) (hre6.go HI.out) HR.out).mono ?_
      rintro e W' ⟨rfl, uW⟩
      have HW := Lib.hid (up HI.out uW)
      have HU := Lib.hid uW
      clear uW
      go_wp2_with fail
      refine step3_done rfl ?_ ?_ ?_
      · exact (toI HIp HW.out)
      · exact HU.out
      · exact (toV HV rfl)
    · have u7 := hV
      clear hV
      simp only [u7]
      clear u7
      have HI := Lib.hid hI
      clear hI
      go_wp2_with fail
      refine step3_done rfl ?_ ?_ ?_
      · exact (toI HIp HI.out)
      · exact (Below.refl _ _)
      · exact (toV HV rfl)
    · have u8 := hV
      clear hV
      simp only [u8]
      clear u8
      have HI := Lib.hid hI
      clear hI
      go_wp2_with fail
      refine step3_done rfl ?_ ?_ ?_
      · exact (toI HIp HI.out)
      · exact (Below.refl _ _)
      · exact (toV HV rfl)
    · have u8 := hV
      clear hV
      simp only [u8]
      clear u8
      have HI := Lib.hid hI
      clear hI
      go_wp2_with fail
      refine step3_done rfl ?_ ?_ ?_
      · exact (toI HIp HI.out)
      · exact (Below.refl _ _)
      · exact (toV HV rfl)
    · clear hV
      (try dsimp only)
      have HI := Lib.hid hI
      clear hI
      go_wp2_with fail
      have uW : ∀ o, Below W.heap.size W (W.alloc o) := fun o => (Below.refl _ _).alloc (Nat.le_refl _) o
      have hsz := HI.out.size
      refine step3_done rfl ?_ ?_ ?_
      · exact (toI HIp (up HI.out (uW _)))
      · exact (uW _)
      · exact (toV HV ⟨_, rfl, hsz, Blk.new _ _⟩)
    · obtain ⟨u9, ⟨g11, u11, l11, b11⟩⟩ := hV
      simp only [u11, u9]
      have U11 := Lib.hid u11
      clear u9 u11
      have c0 : W.cell? ⟨g11, 0, none⟩ = some (.int .i64 0) := b11.cell 0
      have c1 : W.cell? ⟨g11, 1, none⟩ = some (.int .i64 0) := b11.cell 1
      have c2 : W.cell? ⟨g11, 2, none⟩ = some (.slice none 0 0) := b11.cell 2
      have cf := b11.frozen
      have HI := Lib.hid hI
      have hsz := HI.out.size
      clear hI b11
      go_wp2_with fail
      have hE : Below w6.heap.size W (((W.setCell ⟨g11, 0, none⟩ (.int .i64 0)).setCell ⟨g11, 1, none⟩ (.int .i64 0)).setCell ⟨g11, 2, none⟩ (.slice none 0 0)) := (touch3 _ _ _).toBelow hsz (fun k hk => by omega)
      refine step3_done (v := undef) rfl ?_ ?_ ?_
      · exact (toI HIp (HI.out.trans hE))
      · exact hE
      · exact (toV HV rfl)
    · have u10 := hV
      clear hV
      simp only [u10]
      clear u10
      have HI := Lib.hid hI
      clear hI
      go_wp2_with fail
      refine step3_done rfl ?_ ?_ ?_
      · exact (toI HIp HI.out)
      · exact (Below.refl _ _)
      · exact (toV HV rfl)
  case fin =>
    intro x W L hL hI hV
    replace hI : Below w6.heap.size w6 W := ofI HIp hI
    rw [HV.out] at hV
    simp only [AllV, and_true] at hV
    obtain ⟨u0, u1, u2, u3, u4, u5, u7, u8, u9, u10, u12, u13⟩ := hV
    simp only [getsD, List.getD_cons_succ, List.getD_cons_zero, List.length_cons, List.length_nil, List.range, List.range.loop, u0, u1, u2, u3, u4, u5, u7, u8, u9, u10, u12, u13, Act.put, List.setIfInBounds_toArray, List.set_cons_succ, List.set_cons_zero]
    clear u0 u1 u2 u3 u4 u5 u7 u8 u9 u10 u12 u13
    obtain ⟨W7, hW7⟩ : ∃ W7, W7 = W := ⟨_, rfl⟩
    subst hW7
    have v7 := up v6 hI
    have hg7 := hg6.go hI
    have hre7 := hre6.go hI
    have b7 := b6.go hI
    have Z1 := Lib.hid v7
    have Z2 := Lib.hid hg7
    have Z3 := Lib.hid hre7
    have Z4 := Lib.hid b7
    clear v7 hg7 hre7 b7 hI hL v6 hg6 hre6 b6
    go_wp2_with fail
    have v7 := Z1.out
    have hg7 := Z2.out
    have hre7 := Z3.out
    have b7 := Z4.out
    clear Z1 Z2 Z3 Z4
    obtain ⟨Vp, HV⟩ : ∃ Vp : Nat → Value → World → Prop, Hid (Vp = fun i v W => match i with
        | 0 => v = .agg #[.int .i64 1, .int .i64 0, .slice a4 1 c4]
        | 1 => v = .int .i64 y
        | 2 => ∃ a c, v = .slice a nq c ∧ RdS (· < W.heap.size) W q a nq c
        | 3 => ∃ (a : Option Addr) (c : Nat), v = .tuple #[.agg #[.int .i64 2, .int .i64 0, .slice a 2 c], .int .i64 0]
        | 4 => ∃ (a : Option Addr) (c : Nat), v = .tuple #[.agg #[.int .i64 2, .int .i64 0, .slice a 2 c], .int .i64 0]
        | 5 => ∃ (a : Option Addr) (c : Nat), v = .agg #[.int .i64 2, .int .i64 0, .slice a 2 c]
        | 6 => v = .int .i64 0
        | 7 => ∃ g, v = .pointer (some ⟨g, 0, none⟩) ∧ W7.heap.size ≤ g ∧ Blk g (.cells #[.int .i64 0, .int .i64 0, .slice none 0 0] 42 (0, 0)) W
        | 8 => v = undef
        | _ => v = .int .i64 0) := ⟨_, rfl⟩
    obtain ⟨Ip, HIp⟩ : ∃ Ip : (Nat → Bool) → (Nat → Value) → World → Prop, Hid (Ip = fun L x W => (Below W7.heap.size W7 W ∧ (L 8 = true → ∃ g a c, x 7 = .pointer (some ⟨g, 0, none⟩) ∧ Blk g (.cells #[.int .i64 2, .int .i64 0, .slice a 2 c] 42 (0, 0)) W))) := ⟨_, rfl⟩
    refine region_lit3 (by kernel_rfl) (by kernel_rfl) (by kernel_rfl) [[], [], [1], [0, 1, 2], [0, 1, 2, 3], [0, 1, 2, 3, 4], [0, 1, 2, 3, 4], [], [0, 1, 2, 3, 4, 5, 7], [0, 1, 2, 3, 4, 6]] (by kernel_rfl) [some 46, some 47, some 48, some 49, some 45, some 50, some 51, some 15, none, some 16] (by kernel_rfl) [[0, 3, 4, 5, 6, 8, 9], [1, 2, 3, 4, 5, 6, 8, 9], [2, 3, 4, 5, 6, 8, 9], [3, 4, 5, 6, 8, 9], [4, 5, 6, 8, 9], [5, 8], [6, 9], [7, 8], [8], [9]] (by kernel_rfl) [[], [], [8], [], [], [], [], [8], [], []] [[], [], [1], [0, 2], [3], [4], [4], [], [5, 7], [6]] (by kernel_rfl)
      Ip
      Vp
      (fun j W W' => match j with
        | 8 => Below W7.heap.size W W'
        | _ => Below W.heap.size W W')
      [fun x => ⟨#[undef, undef, undef, undef, undef, undef, undef, undef, undef, .pointer (some ⟨w4.heap.size, 0, none⟩), undef, undef, undef, undef, undef, undef, undef, undef, undef, undef, undef, undef, undef, undef, undef, undef, undef, undef, undef, undef, undef, undef, undef, undef, undef, undef, undef, undef, undef, undef, undef, undef, undef, undef, undef, undef, undef], []⟩,
   fun x => ⟨#[undef, undef, undef, undef, undef, undef, undef, undef, undef, undef, undef, undef, .int .i64 y, undef, undef, undef, undef, undef, undef, undef, undef, undef, undef, undef, undef, undef, undef, undef, undef, undef, undef, undef, undef, undef, undef, undef, undef, undef, undef, undef, undef, undef, undef, undef, undef, undef, undef, undef], []⟩,
   fun x => ⟨#[undef, undef, undef, undef, undef, undef, undef, undef, undef, undef, undef, undef, undef, undef, undef, undef, undef, undef, undef, undef, undef, undef, undef, undef, undef, undef, undef, undef, undef, undef, undef, undef, undef, undef, undef, undef, undef, undef, undef, undef, undef, undef, undef, undef, undef, undef, undef, x 1, undef], []⟩,
   fun x => ⟨#[undef, undef, undef, undef, undef, undef, undef, undef, undef, undef, undef, undef, undef, undef, undef, undef, undef, undef, undef, undef, undef, undef, undef, undef, undef, undef, undef, undef, undef, undef, undef, undef, undef, undef, undef, undef, undef, undef, undef, undef, undef, undef, undef, undef, undef, undef, x 0, undef, x 2, undef], []⟩,
   fun x => ⟨#[undef, undef, undef, undef, undef, undef, undef, undef, undef, undef, undef, undef, undef, undef, undef, undef, undef, undef, undef, undef, undef, undef, undef, undef, undef, undef, undef, undef, undef, undef, undef, undef, undef, undef, undef, undef, undef, undef, undef, undef, undef, undef, undef, undef, undef, undef, undef, undef, undef, x 3], []⟩,
   fun x => ⟨#[undef, undef, undef, undef, undef, undef, undef, undef, undef, undef, undef, undef, undef, undef, undef, undef, undef, undef, undef, undef, undef, undef, undef, undef, undef, undef, undef, undef, undef, undef, undef, undef, undef, undef, undef, undef, undef, undef, undef, undef, undef, undef, undef, undef, undef, x 4, undef, undef, undef, undef, undef], []⟩,
   fun x => ⟨#[undef, undef, undef, undef, undef, undef, undef, undef, undef, undef, undef, undef, undef, undef, undef, undef, undef, undef, undef, undef, undef, undef, undef, undef, undef, undef, undef, undef, undef, undef, undef, undef, undef, undef, undef, undef, undef, undef, undef, undef, undef, undef, undef, undef, undef, x 4, undef, undef, undef, undef, undef, undef], []⟩,
   fun x => ⟨#[undef, undef, undef, undef, undef, undef, undef, undef, undef, undef, undef, undef, undef, undef, undef, undef], []⟩,
   fun x => ⟨#[undef, undef, undef, undef, undef, undef, undef, undef, undef, undef, undef, undef, undef, undef, undef, x 7, undef, undef, undef, undef, undef, undef, undef, undef, undef, undef, undef, undef, undef, undef, undef, undef, undef, undef, undef, undef, undef, undef, undef, undef, undef, undef, undef, undef, undef, undef, undef, undef, undef, undef, x 5], []⟩,
   fun x => ⟨#[undef, undef, undef, undef, undef, undef, undef, undef, undef, undef, undef, undef, undef, undef, undef, undef, undef, undef, undef, undef, undef, undef, undef, undef, undef, undef, undef, undef, undef, undef, undef, undef, undef, undef, undef, undef, undef, undef, undef, undef, undef, undef, undef, undef, undef, undef, undef, undef, undef, undef, undef, x 6], []⟩]
      ?hF ?mono ?h0 ?step [0, 1, 3, 4, 5, 6, 8, 9] (by kernel_rfl) ?fin
    case hF =>
      exact ⟨fun x => ⟨by kernel_rfl, by kernel_rfl⟩, fun x => ⟨by kernel_rfl, by kernel_rfl⟩, fun x => ⟨by kernel_rfl, by kernel_rfl⟩, fun x => ⟨by kernel_rfl, by kernel_rfl⟩, fun x => ⟨by kernel_rfl, by kernel_rfl⟩, fun x => ⟨by kernel_rfl, by kernel_rfl⟩, fun x => ⟨by kernel_rfl, by kernel_rfl⟩, fun x => ⟨by kernel_rfl, by kernel_rfl⟩, fun x => ⟨by kernel_rfl, by kernel_rfl⟩, fun x => ⟨by kernel_rfl, by kernel_rfl⟩, trivial⟩
    case mono =>
      intro i j hi hj hne hna hnk v W W' hE hv
      rw [HV.out] at hv ⊢
      simp only [List.length_cons, List.length_nil] at hi hj
      match i, hi with
      | 0, _ | 1, _ | 3, _ | 4, _ | 5, _ | 6, _ | 8, _ | 9, _ => exact hv
      | 2, _ =>
        match j, hj with
        | 2, _ => exact absurd rfl hne
        | 1, _ => exact absurd (by simp) hna
        | 8, _ => exact absurd (by simp) hnk
        | 0, _ => exact (by obtain ⟨a, c, h1, h2⟩ := hv; exact ⟨a, c, h1, h2.go hE⟩)
        | 3, _ => exact (by obtain ⟨a, c, h1, h2⟩ := hv; exact ⟨a, c, h1, h2.go hE⟩)
        | 4, _ => exact (by obtain ⟨a, c, h1, h2⟩ := hv; exact ⟨a, c, h1, h2.go hE⟩)
        | 5, _ => exact (by obtain ⟨a, c, h1, h2⟩ := hv; exact ⟨a, c, h1, h2.go hE⟩)
        | 6, _ => exact (by obtain ⟨a, c, h1, h2⟩ := hv; exact ⟨a, c, h1, h2.go hE⟩)
        | 7, _ => exact (by obtain ⟨a, c, h1, h2⟩ := hv; exact ⟨a, c, h1, h2.go hE⟩)
        | 9, _ => exact (by obtain ⟨a, c, h1, h2⟩ := hv; exact ⟨a, c, h1, h2.go hE⟩)
        | m + 10, h => exact absurd h (by omega)
      | 7, _ =>
        match j, hj with
        | 7, _ => exact absurd rfl hne
        | 8, _ => exact absurd (by simp) hnk
        | 0, _ => exact (by obtain ⟨g, h1, h2, h3⟩ := hv; exact ⟨g, h1, h2, h3.go hE⟩)
        | 1, _ => exact (by obtain ⟨g, h1, h2, h3⟩ := hv; exact ⟨g, h1, h2, h3.go hE⟩)
        | 2, _ => exact (by obtain ⟨g, h1, h2, h3⟩ := hv; exact ⟨g, h1, h2, h3.go hE⟩)
        | 3, _ => exact (by obtain ⟨g, h1, h2, h3⟩ := hv; exact ⟨g, h1, h2, h3.go hE⟩)
        | 4, _ => exact (by obtain ⟨g, h1, h2, h3⟩ := hv; exact ⟨g, h1, h2, h3.go hE⟩)
        | 5, _ => exact (by obtain ⟨g, h1, h2, h3⟩ := hv; exact ⟨g, h1, h2, h3.go hE⟩)
        | 6, _ => exact (by obtain ⟨g, h1, h2, h3⟩ := hv; exact ⟨g, h1, h2, h3.go hE⟩)
        | 9, _ => exact (by obtain ⟨g, h1, h2, h3⟩ := hv; exact ⟨g, h1, h2, h3.go hE⟩)
        | m + 10, h => exact absurd h (by omega)
      | m + 10, h => exact absurd h (by omega)
    case h0 => intro x; exact toI HIp ⟨(Below.refl _ _).drew, fun h => by cases h⟩
    case step =>
      refine ⟨?_, ?_, ?_, ?_, ?_, ?_, ?_, ?_, ?_, ?_, trivial⟩
      all_goals
        intro x W L hI hL hV
        replace hI : (Below W7.heap.size W7 W ∧ (L 8 = true → ∃ g a c, x 7 = .pointer (some ⟨g, 0, none⟩) ∧ Blk g (.cells #[.int .i64 2, .int .i64 0, .slice a 2 c] 42 (0, 0)) W)) := ofI HIp hI
        rw [HV.out] at hV
        simp only [AllV, and_true] at hV
      · clear hV
        (try dsimp only)
        have HI := Lib.hid hI
        have HL := Lib.hid hL
        clear hI hL
        have bx := b7.go HI.out.1
        have c0 : W.cell? ⟨w4.heap.size, 0, none⟩ = some (.int .i64 1) := bx.cell 0
        have c1 : W.cell? ⟨w4.heap.size, 1, none⟩ = some (.int .i64 0) := bx.cell 1
        have c2 : W.cell? ⟨w4.heap.size, 2, none⟩ = some (.slice a4 1 c4) := bx.cell 2
        clear bx
        go_wp2_with fail
        refine step3_done rfl ?_ ?_ ?_
        · exact (toI HIp HI.out)
        · exact (Below.refl _ _)
        · exact (toV HV rfl)
      · clear hV
        (try dsimp only)
        have HI := Lib.hid hI
        have HL := Lib.hid hL
        clear hI hL
        go_wp2_with fail
        refine step3_done rfl ?_ ?_ ?_
        · exact (toI HIp HI.out)
        · exact (Below.refl _ _)
        · exact (toV HV rfl)
      · have u1 := hV
        clear hV
        simp only [u1]
        clear u1
        have HI := Lib.hid hI
        have HL := Lib.hid hL
        clear hI hL
        go_wp2_with fail
        refine (HQ.out _).mono ?_
        rintro e W' ⟨az, cz, rfl, hrz, uW⟩
        have HW := Lib.hid (up HI.out.1 uW)
        have HU := Lib.hid uW
        have HR := Lib.hid hrz
        clear uW hrz
        go_wp2_with fail
        refine step3_done rfl ?_ ?_ ?_
        · exact (toI HIp ⟨HW.out, fun h => absurd ((HL.out.2 8 (by simp)).symm.trans h) (by simp)⟩)
        · exact HU.out
        · exact (toV HV ⟨_, _, rfl, HR.out⟩)
      · obtain ⟨u0, ⟨az, cz, u2, rz⟩⟩ := hV
        simp only [u0, u2]
        have U2 := Lib.hid u2
        clear u0 u2
        have HI := Lib.hid hI
        have HL := Lib.hid hL
        clear hI hL
        have HR := Lib.hid rz
        clear rz
        go_wp2_with fail
        refine (H3.out _ _ _ _ _ (hg7.go HI.out.1) (hre7.go HI.out.1) HR.out).mono ?_
        rintro e W' ⟨aq, cq, rfl, _, uW⟩
        have HW := Lib.hid (up HI.out.1 uW)
        have HU := Lib.hid uW
        clear uW
        go_wp2_with fail
        refine step3_done rfl ?_ ?_ ?_
        · exact (toI HIp ⟨HW.out, fun h => absurd ((HL.out.2 8 (by simp)).symm.trans h) (by simp)⟩)
        · exact HU.out
        · exact (toV HV ⟨_, _, rfl⟩)
      · obtain ⟨a3, c3, u3⟩ := hV
        simp only [u3]
        have U3 := Lib.hid u3
        clear u3
        have HI := Lib.hid hI
        have HL := Lib.hid hL
        clear hI hL
        go_wp2_with fail
        refine step3_done rfl ?_ ?_ ?_
        · exact (toI HIp HI.out)
        · exact (Below.refl _ _)
        · exact (toV HV ⟨_, _, rfl⟩)
      · obtain ⟨a4, c4, u4⟩ := hV
        simp only [u4]
        have U4 := Lib.hid u4
        clear u4
        have HI := Lib.hid hI
        have HL := Lib.hid hL
        clear hI hL
        go_wp2_with fail
        refine step3_done rfl ?_ ?_ ?_
        · exact (toI HIp HI.out)
        · exact (Below.refl _ _)
        · exact (toV HV ⟨_, _, rfl⟩)
      · obtain ⟨a4, c4, u4⟩ := hV
        simp only [u4]
        have U4 := Lib.hid u4
        clear u4
        have HI := Lib.hid hI
        have HL := Lib.hid hL
        clear hI hL
        go_wp2_with fail
        refine step3_done rfl ?_ ?_ ?_
        · exact (toI HIp HI.out)
        · exact (Below.refl _ _)
        · exact (toV HV rfl)
      · clear hV
        (try dsimp only)
        have HI := Lib.hid hI
        have HL := Lib.hid hL
        clear hI hL
        go_wp2_with fail
        have uW : ∀ o, Below W.heap.size W (W.alloc o) := fun o => (Below.refl _ _).alloc (Nat.le_refl _) o
        have hsz := HI.out.1.size
        refine step3_done rfl ?_ ?_ ?_
        · exact (toI HIp ⟨up HI.out.1 (uW _), fun h => absurd ((HL.out.2 8 (by simp)).symm.trans h) (by simp)⟩)
        · exact (uW _)
        · exact (toV HV ⟨_, rfl, hsz, Blk.new _ _⟩)
      · obtain ⟨⟨a5, c5, u5⟩, ⟨g7, u7, l7, b7'⟩⟩ := hV
        simp only [u7, u5]
        have U5 := Lib.hid u5
        have U7 := Lib.hid u7
        clear u5 u7
        have HI := Lib.hid hI
        have HL := Lib.hid hL
        clear hI hL
        have c0 : W.cell? ⟨g7, 0, none⟩ = some (.int .i64 0) := b7'.cell 0
        have c1 : W.cell? ⟨g7, 1, none⟩ = some (.int .i64 0) := b7'.cell 1
        have c2 : W.cell? ⟨g7, 2, none⟩ = some (.slice none 0 0) := b7'.cell 2
        have cf := b7'.frozen
        have B7 := Lib.hid b7'
        have hsz := HI.out.1.size
        clear b7'
        go_wp2_with fail
        have hE : Below W7.heap.size W (((W.setCell ⟨g7, 0, none⟩ (.int .i64 2)).setCell ⟨g7, 1, none⟩ (.int .i64 0)).setCell ⟨g7, 2, none⟩ (.slice a5 2 c5)) := (touch3 _ _ _).toBelow hsz (fun k hk => by omega)
        refine step3_done (v := undef) rfl ?_ ?_ ?_
        · exact (toI HIp ⟨HI.out.1.trans hE, fun _ => ⟨_, _, _, U7.out, B7.out.set3 _ _ _⟩⟩)
        · exact hE
        · exact (toV HV rfl)
      · have u6 := hV
        clear hV
        simp only [u6]
        clear u6
        have HI := Lib.hid hI
        have HL := Lib.hid hL
        clear hI hL
        go_wp2_with fail
        refine step3_done rfl ?_ ?_ ?_
        · exact (toI HIp HI.out)
        · exact (Below.refl _ _)
        · exact (toV HV rfl)
    case fin =>
      intro x W L hL hI hV
      replace hI : (Below W7.heap.size W7 W ∧ (L 8 = true → ∃ g a c, x 7 = .pointer (some ⟨g, 0, none⟩) ∧ Blk g (.cells #[.int .i64 2, .int .i64 0, .slice a 2 c] 42 (0, 0)) W)) := ofI HIp hI
      rw [HV.out] at hV
      simp only [AllV, and_true] at hV
      obtain ⟨u0, u1, ⟨a3, c3, u3⟩, ⟨a4, c4, u4⟩, ⟨a5, c5, u5⟩, u6, u8, u9⟩ := hV
      simp only [getsD, List.getD_cons_succ, List.getD_cons_zero, List.length_cons, List.length_nil, List.range, List.range.loop, u0, u1, u3, u4, u5, u6, u8, u9, Act.put, List.setIfInBounds_toArray, List.set_cons_succ, List.set_cons_zero]
      clear u0 u1 u3 u4 u5 u6 u8 u9
      obtain ⟨g, a', c', e7, bg⟩ := hI.2 (hL 8 (by simp))
      have d0 : W.cell? ⟨g, 0, none⟩ = some (.int .i64 2) := bg.cell 0
      have d2 : W.cell? ⟨g, 2, none⟩ = some (.slice a' 2 c') := bg.cell 2
      have HF := Lib.hid (up v7 hI.1)
      simp only [e7]
      clear hI hL bg v7 hg7 hre7 b7 e7
      go_wp2_with fail
      go_ret
      exact ⟨rfl, HF.out⟩
end Go.Proofs.YtndclmjpjcilmaaDoor
