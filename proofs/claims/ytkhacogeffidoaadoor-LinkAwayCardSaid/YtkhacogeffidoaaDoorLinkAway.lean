/- The walk of LinkAway. -/
import Derived.Test.YtkhacogeffidoaaDoorPkOkW
import Derived.Test.YtkhacogeffidoaaDoorLkHear
set_option linter.unusedVariables false
set_option linter.unusedSimpArgs false
namespace Go.Proofs.YtkhacogeffidoaaDoor
open Go.RowKit

theorem packetOf_epoch (r : Raw) (l : List Raw) : 0 ≤ (packetOf r l).epoch ∧ (packetOf r l).epoch ≤ 5000 := by
  have ra := pk_range r.a 5000 (by omega)
  unfold packetOf
  by_cases h0 : pk r.kind 4 = 0
  · rw [if_pos h0]; exact ⟨ra.1, by show pk r.a 5000 ≤ 5000; omega⟩
  · rw [if_neg h0]; exact ⟨by show 0 ≤ pk r.a 5000 + 1; omega, by show pk r.a 5000 + 1 ≤ 5000; omega⟩
theorem packetOf_fits (r : Raw) (l : List Raw) : (packetOf r l).fits := by
  have ra := pk_range r.a 5000 (by omega)
  have rb5 := pk_range r.b 50 (by omega)
  have rc' := pk_range r.c 30 (by omega)
  have hf := (frame_ok r l).2
  unfold packetOf Pkt.fits Fr.fits
  by_cases h0 : pk r.kind 4 = 0
  · rw [if_pos h0]
    refine ⟨by unfold I64; simp only; omega, by unfold I64; simp only; omega, by unfold I64; simp only; omega, by unfold I64; simp [bareFr], by unfold I64; simp [bareFr], by unfold I64; simp [bareFr], by simp [bareFr, noText_size]⟩
  · rw [if_neg h0]
    exact ⟨by unfold I64; simp only; omega, by unfold I64; simp only; omega, by unfold I64; simp only; omega, hf.1, hf.2.1, hf.2.2.1, hf.2.2.2.1⟩
theorem openLk_ok {e : Int} (h1 : 1 ≤ e) (h2 : e ≤ 1048576) : openLk e = ⟨e, 1, [], [], 0⟩ ∧ openE e = 0 := by
  unfold openLk openE
  rw [if_neg (by omega), if_neg (by omega)]
  exact ⟨rfl, rfl⟩
theorem new_check {e : Int} (h1 : 0 ≤ e) (h2 : e ≤ 1048576) : (Lk.mk e 1 [] [] 0).check = 0 :=
  lk_make h1 h2 (by simp) (by simp) (by simp) (by simp) (by simp) (by simp) (by simp) (by rfl) (by rfl) (fun _ => ⟨rfl, rfl⟩)
set_option maxRecDepth 100000 in
set_option maxHeartbeats 6000000 in
theorem linkAway_walk (w : World) (hg : Good w) (r : Raw) (hk : r.ok) (a1 : Option Addr) (n1 c1 : Nat) (l1 : List Raw) (r1 : RdS (· < w.heap.size) w l1 a1 n1 c1) (mo : Int) (hmo : I64 mo) :
    Calls Tryd.prog 4 #[rawV r, .slice a1 n1 c1, .int .i64 mo] w fun e w' => e = .returned (.bool true) ∧ Below w.heap.size w w' := by
  have HX := Lib.hid (fun W h => packet_any r l1 a1 n1 c1 W h hk)
  have x0 := packetOf_ok r l1
  have xe := packetOf_epoch r l1
  have xf := packetOf_fits r l1
  generalize packetOf r l1 = p at *
  have rj := pk_range mo 9 (by omega)
  have HJ := Lib.hid (fun W => picked_any mo 9 W hmo (by omega) (by omega))
  generalize pk mo 9 = j at *
  obtain ⟨E1, hE1⟩ : ∃ E1 : Int, E1 = p.epoch + 1 + j := ⟨_, rfl⟩
  have hne : (Lk.mk E1 1 [] [] 0).hearE p = 12 := by
    unfold Lk.hearE
    rw [new_check (by omega) (by omega), x0, if_neg (by simp), if_neg (by simp), if_pos (.inr (by simp only; omega))]
  have HO := Lib.hid (fun W => open_any E1 W (by unfold I64; omega))
  rw [(openLk_ok (e := E1) (by omega) (by omega)).1, (openLk_ok (e := E1) (by omega) (by omega)).2] at HO
  have HO0 := Lib.hid (fun W => open_any 0 W (by unfold I64; omega))
  rw [show openLk 0 = ⟨0, 0, [], [], 0⟩ from rfl, show openE 0 = 2 from rfl] at HO0
  have HH := Lib.hid (fun fa fc W hg hr => lkHear_bad (Lk.mk E1 1 [] [] 0) p none none fa 0 0 0 0 p.f.op.length fc W hg (RdS.nil _ _) (RdS.nil _ _) hr ⟨by unfold I64; simp only; omega, by unfold I64; simp, by unfold I64; simp⟩ xf (by rw [hne]; decide))
  rw [hne] at HH
  have hse : (Lk.mk 0 1 [] [] 0).sendE ⟨2, 0, 1, [], noText⟩ = 12 := by
    unfold Lk.sendE
    rw [new_check (by omega) (by omega), if_neg (by simp), if_pos rfl]
  have HS := Lib.hid (fun W hg => lkSend_bad (Lk.mk 0 1 [] [] 0) ⟨2, 0, 1, [], noText⟩ none none none 0 0 0 0 0 0 W hg (RdS.nil _ _) (RdS.nil _ _) (RdS.nil _ _) ⟨by unfold I64; simp, by unfold I64; simp, by unfold I64; simp⟩ ⟨by unfold I64; simp, by unfold I64; simp, by unfold I64; simp, by simp [noText_size]⟩ (by rw [hse]; decide))
  rw [hse] at HS
  have hE1b : 1 ≤ E1 ∧ E1 ≤ 5010 := by omega
  have HE1 : Hid (E1 = p.epoch + 1 + j) := hE1
  clear x0 xf hne hse hE1 hmo hk
  obtain ⟨rk, xa, xb, xc, xt⟩ := r
  unfold rawV at HX ⊢
  unfold PktP pktV at HX
  simp only at HX ⊢
  obtain ⟨pe, pn, pb, pa, fk, fh, fe, fo, ft⟩ := p
  simp only at *
  have hnt : noText = ⟨#[]⟩ := rfl
  rw [hnt] at HS
  clear hnt
  go_enter Tryd.func4, Tryd.ntmps4
  go_wp2_with fail
  refine (HX.out _ (r1.go ((Below.refl _ _).alloc (Nat.le_refl _) _))).mono ?_
  rintro e w1 ⟨ax, cx, rfl, rx, b1⟩
  have B1 := Lib.hid (up ((Below.refl w.heap.size w).alloc (Nat.le_refl _) _) b1)
  have g1 := Lib.hid (hg.go B1.out)
  have Rx := Lib.hid (rx.wide fun k hk => hk.2)
  clear rx b1 HX r1 hg
  generalize fo.length = lx at *
  go_wp2_with fail
  refine abs_w (fun W => Below w1.heap.size w1 W ∧ Blk w1.heap.size (.cells #[.int .i64 pe, .int .i64 pn, .bool pb, .int .i64 pa, .int .i64 fk, .int .i64 fh, .int .i64 fe, .slice ax lx cx, .string ft] 45 (0, 0)) W) ⟨(Below.refl _ _).alloc (Nat.le_refl _) _, Blk.new w1 _⟩ ?_
  rintro w2 ⟨hb2, ho2⟩
  have H2 := Lib.hid (And.intro hb2 ho2)
  have z2 := ho2.lt
  clear hb2 ho2
  obtain ⟨Vp, HV⟩ : ∃ Vp : Nat → Value → World → Prop, Hid (Vp = fun i v W => match i with
      | 0 => v = .pointer (some ⟨w1.heap.size, 0, none⟩)
      | 1 => v = .int .i64 pe
      | 2 => v = .int .i64 (pe + 1)
      | 3 => v = .int .i64 mo
      | 4 => v = .int .i64 j
      | 5 => v = .int .i64 E1
      | 6 => v = .tuple #[.agg #[.int .i64 E1, .int .i64 1, .slice none 0 0, .slice none 0 0, .int .i64 0], .int .i64 0]
      | 7 => v = .tuple #[.agg #[.int .i64 E1, .int .i64 1, .slice none 0 0, .slice none 0 0, .int .i64 0], .int .i64 0]
      | 8 => v = .agg #[.int .i64 E1, .int .i64 1, .slice none 0 0, .slice none 0 0, .int .i64 0]
      | 9 => v = .int .i64 0
      | 10 => ∃ g, v = .pointer (some ⟨g, 0, none⟩) ∧ w2.heap.size ≤ g ∧ Blk g (.cells #[.int .i64 0, .int .i64 0, .slice none 0 0, .slice none 0 0, .int .i64 0] 33 (0, 0)) W
      | 11 => v = undef
      | _ => v = .int .i64 0) := ⟨_, rfl⟩
  obtain ⟨Ip, HIp⟩ : ∃ Ip : (Nat → Bool) → (Nat → Value) → World → Prop, Hid (Ip = fun L x W => (Below w2.heap.size w2 W ∧ (L 11 = true → ∃ g, x 10 = .pointer (some ⟨g, 0, none⟩) ∧ w2.heap.size ≤ g ∧ Blk g (.cells #[.int .i64 E1, .int .i64 1, .slice none 0 0, .slice none 0 0, .int .i64 0] 33 (0, 0)) W))) := ⟨_, rfl⟩
  refine region_lit3 (by kernel_rfl) (by kernel_rfl) (by kernel_rfl) [[], [0], [0, 1], [], [3], [0, 1, 2, 3, 4], [0, 1, 2, 3, 4, 5], [0, 1, 2, 3, 4, 5, 6], [0, 1, 2, 3, 4, 5, 6, 7], [0, 1, 2, 3, 4, 5, 6, 7], [], [0, 1, 2, 3, 4, 5, 6, 7, 8, 10], [0, 1, 2, 3, 4, 5, 6, 7, 9]] (by kernel_rfl) [some 24, some 25, some 26, some 27, some 28, some 29, some 30, some 23, some 31, some 32, some 8, none, some 9] (by kernel_rfl) [[0, 1, 2, 5, 6, 7, 8, 9, 11, 12], [1, 2, 5, 6, 7, 8, 9, 11, 12], [2, 5, 6, 7, 8, 9, 11, 12], [3, 4, 5, 6, 7, 8, 9, 11, 12], [4, 5, 6, 7, 8, 9, 11, 12], [5, 6, 7, 8, 9, 11, 12], [6, 7, 8, 9, 11, 12], [7, 8, 9, 11, 12], [8, 11], [9, 12], [10, 11], [11], [12]] (by kernel_rfl) [[], [], [], [], [], [], [], [], [], [], [11], [], []] [[], [0], [1], [], [3], [2, 4], [5], [6], [7], [7], [], [8, 10], [9]] (by kernel_rfl)
    Ip
    Vp
    (fun j W W' => match j with
      | 11 => Below w2.heap.size W W'
      | _ => Below W.heap.size W W')
    [fun x => ⟨#[undef, undef, undef, undef, undef, undef, undef, .pointer (some ⟨w1.heap.size, 0, none⟩), undef, undef, undef, undef, undef, undef, undef, undef, undef, undef, undef, undef, undef, undef, undef, undef, undef], []⟩,
   fun x => ⟨#[undef, undef, undef, undef, undef, undef, undef, undef, undef, undef, undef, undef, undef, undef, undef, undef, undef, undef, undef, undef, undef, undef, undef, undef, x 0, undef], []⟩,
   fun x => ⟨#[undef, undef, undef, undef, undef, undef, undef, undef, undef, undef, undef, undef, undef, undef, undef, undef, undef, undef, undef, undef, undef, undef, undef, undef, undef, x 1, undef], []⟩,
   fun x => ⟨#[undef, undef, .int .i64 mo, undef, undef, undef, undef, undef, undef, undef, undef, undef, undef, undef, undef, undef, undef, undef, undef, undef, undef, undef, undef, undef, undef, undef, undef, undef], []⟩,
   fun x => ⟨#[undef, undef, undef, undef, undef, undef, undef, undef, undef, undef, undef, undef, undef, undef, undef, undef, undef, undef, undef, undef, undef, undef, undef, undef, undef, undef, undef, x 3, undef], []⟩,
   fun x => ⟨#[undef, undef, undef, undef, undef, undef, undef, undef, undef, undef, undef, undef, undef, undef, undef, undef, undef, undef, undef, undef, undef, undef, undef, undef, undef, undef, x 2, undef, x 4, undef], []⟩,
   fun x => ⟨#[undef, undef, undef, undef, undef, undef, undef, undef, undef, undef, undef, undef, undef, undef, undef, undef, undef, undef, undef, undef, undef, undef, undef, undef, undef, undef, undef, undef, undef, x 5, undef], []⟩,
   fun x => ⟨#[undef, undef, undef, undef, undef, undef, undef, undef, undef, undef, undef, undef, undef, undef, undef, undef, undef, undef, undef, undef, undef, undef, undef, undef, undef, undef, undef, undef, undef, undef, x 6], []⟩,
   fun x => ⟨#[undef, undef, undef, undef, undef, undef, undef, undef, undef, undef, undef, undef, undef, undef, undef, undef, undef, undef, undef, undef, undef, undef, undef, x 7, undef, undef, undef, undef, undef, undef, undef, undef], []⟩,
   fun x => ⟨#[undef, undef, undef, undef, undef, undef, undef, undef, undef, undef, undef, undef, undef, undef, undef, undef, undef, undef, undef, undef, undef, undef, undef, x 7, undef, undef, undef, undef, undef, undef, undef, undef, undef], []⟩,
   fun x => ⟨#[undef, undef, undef, undef, undef, undef, undef, undef, undef], []⟩,
   fun x => ⟨#[undef, undef, undef, undef, undef, undef, undef, undef, x 10, undef, undef, undef, undef, undef, undef, undef, undef, undef, undef, undef, undef, undef, undef, undef, undef, undef, undef, undef, undef, undef, undef, x 8], []⟩,
   fun x => ⟨#[undef, undef, undef, undef, undef, undef, undef, undef, undef, undef, undef, undef, undef, undef, undef, undef, undef, undef, undef, undef, undef, undef, undef, undef, undef, undef, undef, undef, undef, undef, undef, undef, x 9], []⟩]
    ?hF ?mono ?h0 ?step [0, 1, 2, 3, 4, 5, 6, 7, 8, 9, 11, 12] (by kernel_rfl) ?fin
  case hF =>
    exact ⟨fun x => ⟨by kernel_rfl, by kernel_rfl⟩, fun x => ⟨by kernel_rfl, by kernel_rfl⟩, fun x => ⟨by kernel_rfl, by kernel_rfl⟩, fun x => ⟨by kernel_rfl, by kernel_rfl⟩, fun x => ⟨by kernel_rfl, by kernel_rfl⟩, fun x => ⟨by kernel_rfl, by kernel_rfl⟩, fun x => ⟨by kernel_rfl, by kernel_rfl⟩, fun x => ⟨by kernel_rfl, by kernel_rfl⟩, fun x => ⟨by kernel_rfl, by kernel_rfl⟩, fun x => ⟨by kernel_rfl, by kernel_rfl⟩, fun x => ⟨by kernel_rfl, by kernel_rfl⟩, fun x => ⟨by kernel_rfl, by kernel_rfl⟩, fun x => ⟨by kernel_rfl, by kernel_rfl⟩, trivial⟩
  case mono =>
    intro i j hi hj hne hna hnk v W W' hE hv
    rw [HV.out] at hv ⊢
    simp only [List.length_cons, List.length_nil] at hi hj
    match i, hi with
    | 0, _ | 1, _ | 2, _ | 3, _ | 4, _ | 5, _ | 6, _ | 7, _ | 8, _ | 9, _ | 11, _ | 12, _ => exact hv
    | 10, _ =>
      match j, hj with
      | 10, _ => exact absurd rfl hne
      | 11, _ => exact absurd (by simp) hnk
      | 0, _ => exact (by obtain ⟨g, h1, h2, h3⟩ := hv; exact ⟨g, h1, h2, h3.go hE⟩)
      | 1, _ => exact (by obtain ⟨g, h1, h2, h3⟩ := hv; exact ⟨g, h1, h2, h3.go hE⟩)
      | 2, _ => exact (by obtain ⟨g, h1, h2, h3⟩ := hv; exact ⟨g, h1, h2, h3.go hE⟩)
      | 3, _ => exact (by obtain ⟨g, h1, h2, h3⟩ := hv; exact ⟨g, h1, h2, h3.go hE⟩)
      | 4, _ => exact (by obtain ⟨g, h1, h2, h3⟩ := hv; exact ⟨g, h1, h2, h3.go hE⟩)
      | 5, _ => exact (by obtain ⟨g, h1, h2, h3⟩ := hv; exact ⟨g, h1, h2, h3.go hE⟩)
      | 6, _ => exact (by obtain ⟨g, h1, h2, h3⟩ := hv; exact ⟨g, h1, h2, h3.go hE⟩)
      | 7, _ => exact (by obtain ⟨g, h1, h2, h3⟩ := hv; exact ⟨g, h1, h2, h3.go hE⟩)
      | 8, _ => exact (by obtain ⟨g, h1, h2, h3⟩ := hv; exact ⟨g, h1, h2, h3.go hE⟩)
      | 9, _ => exact (by obtain ⟨g, h1, h2, h3⟩ := hv; exact ⟨g, h1, h2, h3.go hE⟩)
      | 12, _ => exact (by obtain ⟨g, h1, h2, h3⟩ := hv; exact ⟨g, h1, h2, h3.go hE⟩)
      | m + 13, h => exact absurd h (by omega)
    | m + 13, h => exact absurd h (by omega)
  case h0 => intro x; exact toI HIp ⟨(Below.refl _ _).drew, fun h => by cases h⟩
  case step =>
    refine ⟨?_, ?_, ?_, ?_, ?_, ?_, ?_, ?_, ?_, ?_, ?_, ?_, ?_, trivial⟩
    all_goals
      intro x W L hI hL hV
      replace hI : (Below w2.heap.size w2 W ∧ (L 11 = true → ∃ g, x 10 = .pointer (some ⟨g, 0, none⟩) ∧ w2.heap.size ≤ g ∧ Blk g (.cells #[.int .i64 E1, .int .i64 1, .slice none 0 0, .slice none 0 0, .int .i64 0] 33 (0, 0)) W)) := ofI HIp hI
      rw [HV.out] at hV
      simp only [AllV, and_true] at hV
    · clear hV
      (try dsimp only)
      have HI := Lib.hid hI
      clear hI
      go_wp2_with fail
      refine step3_done rfl ?_ ?_ ?_
      · exact (toI HIp HI.out)
      · exact (Below.refl _ _)
      · exact (toV HV rfl)
    · have u0 := hV
      clear hV
      simp only [u0]
      clear u0
      have e1 : W.cell? ⟨w1.heap.size, 0, none⟩ = some (.int .i64 pe) := (H2.out.2.go hI.1).cell 0
      have HI := Lib.hid hI
      clear hI
      go_wp2_with fail
      refine step3_done rfl ?_ ?_ ?_
      · exact (toI HIp HI.out)
      · exact (Below.refl _ _)
      · exact (toV HV rfl)
    · have u1 := hV
      clear hV
      simp only [u1]
      clear u1
      have HI := Lib.hid hI
      clear hI
      go_wp2_with fail
      refine step3_done rfl ?_ ?_ ?_
      · exact (toI HIp HI.out)
      · exact (Below.refl _ _)
      · exact (toV HV rfl)
    · clear hV
      (try dsimp only)
      have HI := Lib.hid hI
      clear hI
      go_wp2_with fail
      refine step3_done rfl ?_ ?_ ?_
      · exact (toI HIp HI.out)
      · exact (Below.refl _ _)
      · exact (toV HV rfl)
    · have u3 := hV
      clear hV
      simp only [u3]
      clear u3
      have HI := Lib.hid hI
      clear hI
      go_wp2_with fail
      refine (HJ.out _).mono ?_
      rintro e W' ⟨rfl, rfl⟩
      go_wp2_with fail
      refine step3_done rfl ?_ ?_ ?_
      · exact (toI HIp HI.out)
      · exact (Below.refl _ _)
      · exact (toV HV rfl)
    · obtain ⟨u2, u4⟩ := hV
      simp only [u2, u4]
      clear u2 u4
      have HI := Lib.hid hI
      clear hI
      have he := HE1.out
      go_wp2_with fail
      rw [← he]
      refine step3_done rfl ?_ ?_ ?_
      · exact (toI HIp HI.out)
      · exact (Below.refl _ _)
      · exact (toV HV rfl)
    · have u5 := hV
      clear hV
      simp only [u5]
      clear u5
      have HL := Lib.hid hL
      have HI := Lib.hid hI
      clear hI hL
      go_wp2_with fail
      refine (HO.out _).mono ?_
      rintro e W' ⟨rfl, hb⟩
      go_wp2_with fail
      refine step3_done rfl ?_ ?_ ?_
      · exact (toI HIp ⟨up HI.out.1 hb, fun h => absurd ((HL.out.2 11 (by simp)).symm.trans h) (by simp)⟩)
      · exact hb
      · exact (toV HV rfl)
    · have u6 := hV
      clear hV
      simp only [u6]
      clear u6
      have HI := Lib.hid hI
      clear hI
      go_wp2_with fail
      refine step3_done rfl ?_ ?_ ?_
      · exact (toI HIp HI.out)
      · exact (Below.refl _ _)
      · exact (toV HV rfl)
    · have u7 := hV
      clear hV
      simp only [u7]
      clear u7
      have HI := Lib.hid hI
      clear hI
      go_wp2_with fail
      refine step3_done rfl ?_ ?_ ?_
      · exact (toI HIp HI.out)
      · exact (Below.refl _ _)
      · exact (toV HV rfl)
    · have u7 := hV
      clear hV
      simp only [u7]
      clear u7
      have HI := Lib.hid hI
      clear hI
      go_wp2_with fail
      refine step3_done rfl ?_ ?_ ?_
      · exact (toI HIp HI.out)
      · exact (Below.refl _ _)
      · exact (toV HV rfl)
    · clear hV
      (try dsimp only)
      have HL := Lib.hid hL
      have HI := Lib.hid hI
      clear hI hL
      go_wp2_with fail
      have uW : ∀ o, Below W.heap.size W (W.alloc o) := fun o => (Below.refl _ _).alloc (Nat.le_refl _) o
      have hsz := HI.out.1.size
      refine step3_done rfl ?_ ?_ ?_
      · exact (toI HIp ⟨up HI.out.1 (uW _), fun h => absurd ((HL.out.2 11 (by simp)).symm.trans h) (by simp)⟩)
      · exact (uW _)
      · exact (toV HV ⟨_, rfl, hsz, Blk.new _ _⟩)
    · obtain ⟨u8, ⟨g7, u10, l7, b7⟩⟩ := hV
      simp only [u10, u8]
      have U10 := Lib.hid u10
      clear u8 u10
      have HI := Lib.hid hI
      have HB7 := Lib.hid b7
      have hsz := b7.lt
      obtain ⟨c0, c1, c2, c3, c4⟩ := blk_cells5 b7
      have cf := b7.frozen
      clear hI b7
      have HT := Lib.hid (touch5 W g7 (.int .i64 E1) (.int .i64 1) (.slice none 0 0) (.slice none 0 0) (.int .i64 0))
      have HN := Lib.hid (blk_set5 HB7.out (.int .i64 E1) (.int .i64 1) (.slice none 0 0) (.slice none 0 0) (.int .i64 0))
      go_wp2_with fail
      have hbw := HT.out.toBelow (B := w2.heap.size) HI.out.1.size (fun k hk => by subst hk; exact l7)
      exact step3_done (v := undef) rfl (toI HIp ⟨HI.out.1.trans hbw, fun _ => ⟨g7, U10.out, l7, HN.out⟩⟩) hbw (toV HV rfl)
    · have u9 := hV
      clear hV
      simp only [u9]
      clear u9
      have HI := Lib.hid hI
      clear hI
      go_wp2_with fail
      refine step3_done rfl ?_ ?_ ?_
      · exact (toI HIp HI.out)
      · exact (Below.refl _ _)
      · exact (toV HV rfl)
  case fin =>
    intro x W L hL hI hV
    replace hI : (Below w2.heap.size w2 W ∧ (L 11 = true → ∃ g, x 10 = .pointer (some ⟨g, 0, none⟩) ∧ w2.heap.size ≤ g ∧ Blk g (.cells #[.int .i64 E1, .int .i64 1, .slice none 0 0, .slice none 0 0, .int .i64 0] 33 (0, 0)) W)) := ofI HIp hI
    rw [HV.out] at hV
    simp only [AllV, and_true] at hV
    obtain ⟨u0, u1, u2, u3, u4, u5, u6, u7, u8, u9, u11, u12⟩ := hV
    simp only [getsD, List.getD_cons_succ, List.getD_cons_zero, List.length_cons, List.length_nil, List.range, List.range.loop, u0, u1, u2, u3, u4, u5, u6, u7, u8, u9, u11, u12, Act.put, List.setIfInBounds_toArray, List.set_cons_succ, List.set_cons_zero]
    clear u0 u1 u2 u3 u4 u5 u6 u7 u8 u9 u11 u12
    obtain ⟨g, e7, hgl, bg⟩ := hI.2 (hL 11 (by simp))
    have hb2 := hI.1
    have z3 := bg.lt
    have B2 := Lib.hid (up (B1.out.trans (H2.out.1.mono (by have := B1.out.size; omega))) hb2)
    have g2 := Lib.hid ((g1.out.go H2.out.1).go hb2)
    have X2 := Lib.hid (And.intro ((Rx.out.go H2.out.1).go hb2) (And.intro (H2.out.2.go hb2) bg))
    simp only [e7]
    clear hI hL bg hb2 e7 H2 HJ HO B1 g1 Rx
    obtain ⟨p0, p1, p2, p3, p4, p5, p6, p7, p8⟩ := blk9_cells X2.out.2.1
    obtain ⟨q0, q1, q2, q3, q4⟩ := blk_cells5 X2.out.2.2
    go_wp2_with fail
    refine (HH.out _ _ _ g2.out X2.out.1).mono ?_
    rintro e w3 ⟨rfl, b3⟩
    have B3 := Lib.hid (up B2.out b3)
    have g3 := Lib.hid (g2.out.go b3)
    clear b3 B2 g2 X2 p0 p1 p2 p3 p4 p5 p6 p7 p8 q0 q1 q2 q3 q4 HH
    go_wp2_with fail
    refine (HO0.out _).mono ?_
    rintro e w5 ⟨rfl, b5⟩
    have b35 : Below w3.heap.size w3 w5 := up (by (repeat (first | exact Below.refl _ _ | assumption | (refine Below.drew ?_) | (refine below_drewN ?_ _) | (refine Below.alloc ?_ (by first | (simp; done) | (simp; omega) | omega) _) | (refine Below.setCell ?_ (by first | (simp; done) | (simp; omega) | omega) _) | (refine Below.trans ?_ (Below.mono (by assumption) (by first | (simp; done) | (simp; omega) | omega)))))) b5
    have B5 := Lib.hid (up B3.out b35)
    have g5 := Lib.hid (g3.out.go b35)
    clear b35 b5 B3 g3 HO0
    go_wp2_with fail
    refine (HS.out _ (g5.out.go (by (repeat (first | exact Below.refl _ _ | assumption | (refine Below.drew ?_) | (refine below_drewN ?_ _) | (refine Below.alloc ?_ (by first | (simp; done) | (simp; omega) | omega) _) | (refine Below.setCell ?_ (by first | (simp; done) | (simp; omega) | omega) _) | (refine Below.trans ?_ (Below.mono (by assumption) (by first | (simp; done) | (simp; omega) | omega)))))))).mono ?_
    rintro e w7 ⟨rfl, b7⟩
    have b57 : Below w5.heap.size w5 w7 := up (by (repeat (first | exact Below.refl _ _ | assumption | (refine Below.drew ?_) | (refine below_drewN ?_ _) | (refine Below.alloc ?_ (by first | (simp; done) | (simp; omega) | omega) _) | (refine Below.setCell ?_ (by first | (simp; done) | (simp; omega) | omega) _) | (refine Below.trans ?_ (Below.mono (by assumption) (by first | (simp; done) | (simp; omega) | omega)))))) b7
    have B7 := Lib.hid (up B5.out b57)
    clear b57 b7 B5 g5 HS
    go_wp2_with fail
    go_ret
    refine ⟨rfl, up B7.out ?_⟩
    (repeat (first | exact Below.refl _ _ | assumption | (refine Below.drew ?_) | (refine below_drewN ?_ _) | (refine Below.alloc ?_ (by first | (simp; done) | (simp; omega) | omega) _) | (refine Below.setCell ?_ (by first | (simp; done) | (simp; omega) | omega) _) | (refine Below.trans ?_ (Below.mono (by assumption) (by first | (simp; done) | (simp; omega) | omega)))))
end Go.Proofs.YtkhacogeffidoaaDoor
