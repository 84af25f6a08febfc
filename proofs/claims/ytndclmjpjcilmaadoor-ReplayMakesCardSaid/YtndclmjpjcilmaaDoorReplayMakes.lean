/- The walk of ReplayMakes. -/
import Derived.Test.YtndclmjpjcilmaaDoorSub
set_option linter.unusedSimpArgs false
namespace Go.Proofs.YtndclmjpjcilmaaDoor
open Go.RowKit

/-- where the round stands -/
structure RM (w : World) (n k : Nat) (s : Str) (top : Int) (v : Value) (rs : List Rec) (wr : World) : Prop where
  kn : k ≤ n
  k20 : k ≤ 20
  rep : rep rs noText 0 = (s, top, 0)
  text : checkText s = 0
  rc : rc s ≤ 24 * k
  size : s.size ≤ 16000
  top0 : 0 ≤ top
  top1 : top ≤ 1000
  len : rs.length ≤ k
  own : Own (· < w.heap.size) w.heap.size 64 v rs wr
  below : Below w.heap.size w wr

set_option maxRecDepth 100000 in
set_option maxHeartbeats 6000000 in
theorem replayMakes_walk (w : World) (hg : Good w) (a : Option Addr) (n c : Nat) (l : List Raw) (hr : RdS (· < w.heap.size) w l a n c) :
    Calls Tryd.prog 10 #[.slice a n c] w fun e w' => e = .returned (.bool true) ∧ Below w.heap.size w w' := by
  obtain ⟨i0, hi, hz0, hz1, hz2⟩ := info_parts infoRec
  have Hi := Lib.hid hi
  have Hz0 := Lib.hid hz0
  have Hz1 := Lib.hid hz1
  have Hz2 := Lib.hid hz2
  clear hi hz0 hz1 hz2
  have hnl := hr.1
  have hnc := hr.2.1
  have hcm := hr.2.2.1
  unfold maxLen at hcm
  have Hl := Lib.hid hnl
  have Hr := Lib.hid hr
  clear hnl hr
  go_enter Tryd.func10, Tryd.ntmps10
  go_wp2_with fail
  go_loopw [3, 4, 5, 6] (fun sv tv v i wr => ∃ (k : Nat) (s : Str) (top : Int) (rs : List Rec), i = .int .i64 k ∧ sv = .string s ∧ tv = .int .i64 top ∧ RM w n k s top v rs wr) (fun _ _ _ i _ => n - (intOf i).toNat)
  case atStart => exact ⟨0, noText, 0, [], rfl, rfl, rfl, by omega, by omega, rfl, rfl, by rw [rc_noText]; omega, by rw [noText_size]; omega, by omega, by omega, by simp, Own.nil, Below.refl _ _⟩
  case round =>
    obtain ⟨k, s, top, rs, rfl, rfl, rfl, R⟩ := hrel
    have k20 := R.k20
    have kn := R.kn
    have HR := Lib.hid R
    clear R
    by_cases hlt : k < n ∧ k < 20
    · obtain ⟨hlt, hlt2⟩ := hlt
      obtain ⟨b, off, rfl, hAb, hbs, hcs⟩ := (Hr.out.go HR.out.below).raw (by omega)
      have hkl : k < l.length := by have := Hl.out; omega
      obtain ⟨hok, d0, d1, d2, d3, d4⟩ := hcs k hkl
      clear hcs
      generalize l[k] = x at *
      obtain ⟨xk, xa, xb, xc, xt⟩ := x
      simp only at d0 d1 d2 d3 d4
      have hxa : I64 xa := hok.2.1
      have hxc : I64 xc := hok.2.2.2.1
      clear hok
      have HP5 := Lib.hid (fun W => picked_any xc 5 W hxc (by omega) (by omega))
      have HP1 := Lib.hid (fun W => picked_any xa 1000 W hxa (by omega) (by omega))
      have r1 := pk_range xa 1000 (by omega)
      have r5 := pk_range xc 5 (by omega)
      unfold I64 at hxa hxc
      generalize pk xc 5 = p5 at *
      generalize pk xa 1000 = p1 at *
      by_cases h5 : p5 = 0
      · have hb5 : (p5 == 0) = true := by simp [h5]
        clear h5
        go_wp2_with fail
        refine (HP5.out _).mono ?_
        rintro e W1 ⟨rfl, rfl⟩
        go_wp2_with fail
        refine (HP1.out _).mono ?_
        rintro e W1 ⟨rfl, rfl⟩
        have Hrd : Hid (∀ W, Rep.rd (fun b => b < W.heap.size ∧ ¬ b < w.heap.size ∧ u5.ownBlock ≠ some b) W (⟨1 + p1, []⟩ : Rec) [.int .i64 (1 + p1), .slice none 0 0]) := fun W => ⟨none, 0, 0, rfl, by unfold I64; simp only; omega, RdS.nil _ _⟩
        have Hu : Hid (∀ o, Below wr.heap.size wr (wr.alloc o)) := fun o => (Below.refl _ _).alloc (Nat.le_refl _) _
        have hsz : w.heap.size ≤ wr.heap.size := HR.out.below.size
        go_wp2_with (at_builtin; refine wpList_append_one rfl _ _ _ (by rfl) w.heap.size 64 i0 _ 32 Tryd.underlying62 Hi.out Hz0.out Hz1.out Hz2.out rfl u5 rs (by rfl) (HR.out.own.go (Hu.out _)) wr.heap.size 1 _ [.int .i64 (1 + p1), .slice none 0 0] ⟨1 + p1, []⟩ (by rfl) (Blk.new wr _) (Hrd.out _) (by have := HR.out.len; unfold maxLen; omega) (by have := HR.out.len; omega) (by simp; omega) ?_)
        intro g cap w5 hown5 hgrow hat hlt5
        have hb5' : Below w.heap.size w w5 := (upper HR.out.below (Hu.out _) hsz).grown hgrow (by simp; omega) (fun g hg => (HR.out.own.rowlt g hg).1)
        have HR5 : Hid (RM w n (k + 1) s (max top (1 + p1)) (.slice (some ⟨g, 0, none⟩) (rs.length + 1) cap) (rs ++ [⟨1 + p1, []⟩]) w5) :=
          ⟨by omega, by omega, rep_add_epoch HR.out.rep (by omega) (by omega), HR.out.text, by have := HR.out.rc; omega, HR.out.size, by have := HR.out.top0; omega, by have := HR.out.top1; omega, by have := HR.out.len; simp; omega, hown5, hb5'⟩
        clear hown5 hgrow hat hb5' HR
        go_wp2_with fail
        go_roundw
        case rel => exact ⟨k + 1, s, max top (1 + p1), rs ++ [⟨1 + p1, []⟩], by go_num, rfl, by first | rfl | (congr 1; omega), HR5.out⟩
        case measure => simp [intOf]; omega
      · have hb5 : (p5 == 0) = false := by simp [h5]
        clear h5 HP1 r1
        obtain ⟨M, hM⟩ : ∃ M : Nat, M = min (k + 3) n := ⟨_, rfl⟩
        have hkM : k ≤ M := by omega
        have hMn : M ≤ n := by omega
        have HM := Lib.hid hM
        clear hM
        have hrc := HR.out.rc
        have hrc0 := rc_nonneg s
        obtain ⟨o0, o1, o2, o3⟩ := mkOp_ok (rc s) ((l.drop k).take (M - k)) (by omega) (by omega)
        have HO := Lib.hid (fun c' W (h : RdS (· < W.heap.size) W ((l.drop k).take (M - k)) (some ⟨b, off + k * 5, none⟩) (M - k) c') => mkOp_new (rc s) ((l.drop k).take (M - k)) (some ⟨b, off + k * 5, none⟩) (M - k) c' W h (by omega) (by omega))
        have Hsub : Hid (∀ W c', Below w.heap.size w W → M - k ≤ c' → c' ≤ 9223372036854775807 → RdS (· < W.heap.size) W ((l.drop k).take (M - k)) (some ⟨b, off + k * 5, none⟩) (M - k) c') := fun W c' hW h1 h2 => (Hr.out.go hW).sub k (M - k) (by omega) h1 (by unfold maxLen; omega)
        generalize mkOp (rc s) ((l.drop k).take (M - k)) = o at *
        have ht := HR.out.text
        have hgood := apply_good ht o0 o1
        have HA := Lib.hid (fun a c W hg hr => apply_any s o a o.length c W hg hr (by have := HR.out.size; omega))
        rw [hgood.1] at HA
        have hrep := rep_add_op HR.out.rep ht o0 o1
        have HRn := Lib.hid (fun W => runes_any s W (by have := HR.out.size; omega))
        obtain ⟨-, -, -, g4, g5, g6⟩ := hgood
        have hrc2 : rc (applyS s o) ≤ 24 * (k + 1) := by omega
        have Hrep := Lib.hid hrep
        have G5 := Lib.hid g5
        have hzr : w.heap.size ≤ wr.heap.size := HR.out.below.size
        clear o0 o1 o2 ht hrep g4 g5 d0 d1 d2 d4
        generalize applyS s o = s2 at *
        generalize hno : o.length = no at *
        have Hno := Lib.hid hno
        clear hno
        generalize rc s = rs' at *
        have kc : k < c := by omega
        go_wp2_with fail
        refine (HP5.out _).mono ?_
        rintro e W1 ⟨rfl, rfl⟩
        go_wp2_with fail
        obtain ⟨Vp, HV⟩ : ∃ Vp : Nat → Value → World → Prop, Hid (Vp = fun i v W => match i with
            | 0 => v = .string s
            | 1 => v = .int .i64 rs'
            | 2 => v = .slice (some ⟨b, off, none⟩) n c
            | 3 => v = .int .i64 (k : Int)
            | 4 => v = .int .i64 (k : Int)
            | 5 => v = .int .i64 ((k : Int) + 3)
            | 6 => v = .slice (some ⟨b, off, none⟩) n c
            | 7 => v = .int .i64 (n : Int)
            | 8 => v = .int .i64 (M : Int)
            | 9 => ∃ c' : Nat, v = .slice (some ⟨b, off + k * 5, none⟩) (M - k) c' ∧ M - k ≤ c' ∧ c' ≤ 9223372036854775807
            | 10 => ∃ a c, v = .slice a no c ∧ RdS (fun b => wr.heap.size ≤ b ∧ b < W.heap.size) W o a no c
            | _ => ∃ a c, v = .slice a no c ∧ RdS (fun b => wr.heap.size ≤ b ∧ b < W.heap.size) W o a no c) := ⟨_, rfl⟩
        refine region_lit2 (by kernel_rfl) (by kernel_rfl) (by kernel_rfl) [[], [0], [], [], [], [4], [], [6], [4, 5, 6, 7], [2, 3, 4, 5, 6, 7, 8], [0, 1, 2, 3, 4, 5, 6, 7, 8, 9], [0, 1, 2, 3, 4, 5, 6, 7, 8, 9, 10]] (by kernel_rfl) [some 49, some 50, some 51, some 52, some 53, some 54, some 55, some 56, some 57, some 58, some 59, some 8] (by kernel_rfl) [false, false, false, false, false, false, false, false, false, false, false, true] (by kernel_rfl)
          (fun W => Below wr.heap.size wr W)
          Vp
          (fun W W' => Below W.heap.size W W')
          [fun x => ⟨#[undef, undef, undef, .string s, undef, undef, undef, undef, undef, undef, undef, undef, undef, undef, undef, undef, undef, undef, undef, undef, undef, undef, undef, undef, undef, undef, undef, undef, undef, undef, undef, undef, undef, undef, undef, undef, undef, undef, undef, undef, undef, undef, undef, undef, undef, undef, undef, undef, undef, undef], []⟩,
   fun x => ⟨#[undef, undef, undef, undef, undef, undef, undef, undef, undef, undef, undef, undef, undef, undef, undef, undef, undef, undef, undef, undef, undef, undef, undef, undef, undef, undef, undef, undef, undef, undef, undef, undef, undef, undef, undef, undef, undef, undef, undef, undef, undef, undef, undef, undef, undef, undef, undef, undef, undef, x 0, undef], []⟩,
   fun x => ⟨#[.slice (some ⟨b, off, none⟩) n c, undef, undef, undef, undef, undef, undef, undef, undef, undef, undef, undef, undef, undef, undef, undef, undef, undef, undef, undef, undef, undef, undef, undef, undef, undef, undef, undef, undef, undef, undef, undef, undef, undef, undef, undef, undef, undef, undef, undef, undef, undef, undef, undef, undef, undef, undef, undef, undef, undef, undef, undef], []⟩,
   fun x => ⟨#[undef, undef, undef, undef, undef, undef, .int .i64 (k : Int), undef, undef, undef, undef, undef, undef, undef, undef, undef, undef, undef, undef, undef, undef, undef, undef, undef, undef, undef, undef, undef, undef, undef, undef, undef, undef, undef, undef, undef, undef, undef, undef, undef, undef, undef, undef, undef, undef, undef, undef, undef, undef, undef, undef, undef, undef], []⟩,
   fun x => ⟨#[undef, undef, undef, undef, undef, undef, .int .i64 (k : Int), undef, undef, undef, undef, undef, undef, undef, undef, undef, undef, undef, undef, undef, undef, undef, undef, undef, undef, undef, undef, undef, undef, undef, undef, undef, undef, undef, undef, undef, undef, undef, undef, undef, undef, undef, undef, undef, undef, undef, undef, undef, undef, undef, undef, undef, undef, undef], []⟩,
   fun x => ⟨#[undef, undef, undef, undef, undef, undef, undef, undef, undef, undef, undef, undef, undef, undef, undef, undef, undef, undef, undef, undef, undef, undef, undef, undef, undef, undef, undef, undef, undef, undef, undef, undef, undef, undef, undef, undef, undef, undef, undef, undef, undef, undef, undef, undef, undef, undef, undef, undef, undef, undef, undef, undef, undef, x 4, undef], []⟩,
   fun x => ⟨#[.slice (some ⟨b, off, none⟩) n c, undef, undef, undef, undef, undef, undef, undef, undef, undef, undef, undef, undef, undef, undef, undef, undef, undef, undef, undef, undef, undef, undef, undef, undef, undef, undef, undef, undef, undef, undef, undef, undef, undef, undef, undef, undef, undef, undef, undef, undef, undef, undef, undef, undef, undef, undef, undef, undef, undef, undef, undef, undef, undef, undef, undef], []⟩,
   fun x => ⟨#[undef, undef, undef, undef, undef, undef, undef, undef, undef, undef, undef, undef, undef, undef, undef, undef, undef, undef, undef, undef, undef, undef, undef, undef, undef, undef, undef, undef, undef, undef, undef, undef, undef, undef, undef, undef, undef, undef, undef, undef, undef, undef, undef, undef, undef, undef, undef, undef, undef, undef, undef, undef, undef, undef, undef, x 6, undef], []⟩,
   fun x => ⟨#[undef, undef, undef, undef, undef, undef, undef, undef, undef, undef, undef, undef, undef, undef, undef, undef, undef, undef, undef, undef, undef, undef, undef, undef, undef, undef, undef, undef, undef, undef, undef, undef, undef, undef, undef, undef, undef, undef, undef, undef, undef, undef, undef, undef, undef, undef, undef, undef, undef, undef, undef, undef, undef, undef, x 5, undef, x 7, undef], []⟩,
   fun x => ⟨#[undef, undef, undef, undef, undef, undef, undef, undef, undef, undef, undef, undef, undef, undef, undef, undef, undef, undef, undef, undef, undef, undef, undef, undef, undef, undef, undef, undef, undef, undef, undef, undef, undef, undef, undef, undef, undef, undef, undef, undef, undef, undef, undef, undef, undef, undef, undef, undef, undef, undef, undef, x 2, x 3, undef, undef, undef, undef, x 8, undef], []⟩,
   fun x => ⟨#[undef, undef, undef, undef, undef, undef, undef, undef, undef, undef, undef, undef, undef, undef, undef, undef, undef, undef, undef, undef, undef, undef, undef, undef, undef, undef, undef, undef, undef, undef, undef, undef, undef, undef, undef, undef, undef, undef, undef, undef, undef, undef, undef, undef, undef, undef, undef, undef, undef, undef, x 1, undef, undef, undef, undef, undef, undef, undef, x 9, undef], []⟩,
   fun x => ⟨#[undef, undef, undef, undef, undef, undef, undef, undef, undef, undef, undef, undef, undef, undef, undef, undef, undef, undef, undef, undef, undef, undef, undef, undef, undef, undef, undef, undef, undef, undef, undef, undef, undef, undef, undef, undef, undef, undef, undef, undef, undef, undef, undef, undef, undef, undef, undef, undef, undef, undef, undef, undef, undef, undef, undef, undef, undef, undef, undef, x 10], []⟩]
          ?hF ?mono ?h0 ?step ?fin
        case hF =>
          exact ⟨fun x => ⟨by kernel_rfl, by kernel_rfl⟩, fun x => ⟨by kernel_rfl, by kernel_rfl⟩, fun x => ⟨by kernel_rfl, by kernel_rfl⟩, fun x => ⟨by kernel_rfl, by kernel_rfl⟩, fun x => ⟨by kernel_rfl, by kernel_rfl⟩, fun x => ⟨by kernel_rfl, by kernel_rfl⟩, fun x => ⟨by kernel_rfl, by kernel_rfl⟩, fun x => ⟨by kernel_rfl, by kernel_rfl⟩, fun x => ⟨by kernel_rfl, by kernel_rfl⟩, fun x => ⟨by kernel_rfl, by kernel_rfl⟩, fun x => ⟨by kernel_rfl, by kernel_rfl⟩, fun x => ⟨by kernel_rfl, by kernel_rfl⟩, trivial⟩
        case mono =>
          intro i hi v W W' hE hv
          rw [HV.out] at hv ⊢
          match i, hi with
          | 0, _ | 1, _ | 2, _ | 3, _ | 4, _ | 5, _ | 6, _ | 7, _ | 8, _ | 9, _ => exact hv
          | 10, _ => exact (by obtain ⟨a, c, h1, h2⟩ := hv; exact ⟨a, c, h1, h2.freshB hE⟩)
          | m + 11, h => exact absurd h (by cases m <;> simp)
        case h0 => first | exact (Below.refl _ _).drew | exact Below.drew (by assumption) | (refine Below.drew ?_; assumption)
        case step =>
          refine ⟨?_, ?_, ?_, ?_, ?_, ?_, ?_, ?_, ?_, ?_, ?_, ?_, trivial⟩
          all_goals
            intro x W hI hV
            rw [HV.out] at hV
            simp only [AllV, and_true] at hV
          · clear hV
            (try dsimp only)
            go_wp2_with fail
            exact step_done rfl hI (Below.refl _ _) (toV HV rfl)
          · have u0 := hV
            clear hV
            simp only [u0]
            clear u0
            have HI := Lib.hid hI
            clear hI
            go_wp2_with fail
            refine (HRn.out _).mono ?_
            rintro e W' ⟨rfl, uW⟩
            have HW := Lib.hid (up HI.out uW)
            have HU := Lib.hid uW
            clear uW
            go_wp2_with fail
            exact step_done rfl HW.out HU.out (toV HV rfl)
          · clear hV
            (try dsimp only)
            go_wp2_with fail
            exact step_done rfl hI (Below.refl _ _) (toV HV rfl)
          · clear hV
            (try dsimp only)
            go_wp2_with fail
            exact step_done rfl hI (Below.refl _ _) (toV HV rfl)
          · clear hV
            (try dsimp only)
            go_wp2_with fail
            exact step_done rfl hI (Below.refl _ _) (toV HV rfl)
          · have u4 := hV
            clear hV
            simp only [u4]
            clear u4
            go_wp2_with fail
            exact step_done rfl hI (Below.refl _ _) (toV HV rfl)
          · clear hV
            (try dsimp only)
            go_wp2_with fail
            exact step_done rfl hI (Below.refl _ _) (toV HV rfl)
          · have u6 := hV
            clear hV
            simp only [u6]
            clear u6
            go_wp2_with fail
            exact step_done rfl hI (Below.refl _ _) (toV HV rfl)
          · obtain ⟨u4, u5, u6, u7⟩ := hV
            simp only [u5, u7]
            clear u4 u5 u6 u7
            go_wp2_with fail
            exact step_done rfl hI (Below.refl _ _) (toV HV (by have h := HM.out; show Value.int _ _ = Value.int _ _; congr 1; omega))
          · obtain ⟨u2, u3, u4, u5, u6, u7, u8⟩ := hV
            simp only [u2, u3, u8]
            clear u2 u3 u4 u5 u6 u7 u8
            have i1 : (0 : Int) ≤ (k : Int) := by omega
            have i2 : (k : Int) ≤ (M : Int) := by omega
            have i3 : (M : Int) ≤ (c : Int) := by omega
            go_wp2_with fail
            exact step_done rfl hI (Below.refl _ _) (toV HV ⟨_, rfl, by omega, by omega⟩)
          · obtain ⟨u0, u1, u2, u3, u4, u5, u6, u7, u8, ⟨c9, u9, l9, m9⟩⟩ := hV
            simp only [u1, u9]
            clear u0 u1 u2 u3 u4 u5 u6 u7 u8 u9
            have HI := Lib.hid hI
            clear hI
            go_wp2_with fail
            refine (HO.out _ _ (Hsub.out _ _ (upper HR.out.below HI.out hzr) l9 m9)).mono ?_
            rintro e W' ⟨a', c', rfl, hrd, uW⟩
            have HW := Lib.hid (up HI.out uW)
            have HU := Lib.hid uW
            have hz := HI.out.size
            have HD : Hid (RdS (fun b => wr.heap.size ≤ b ∧ b < W'.heap.size) W' o a' no c') := hrd.mono fun b hb => ⟨⟨by omega, hb.2⟩, rfl⟩
            clear uW hrd
            go_wp2_with fail
            exact step_done rfl HW.out HU.out (toV HV ⟨_, _, rfl, HD.out⟩)
          · obtain ⟨u0, u1, u2, u3, u4, u5, u6, u7, u8, ⟨c9, u9, l9, m9⟩, ⟨a10, c10, u10, r10⟩⟩ := hV
            simp only [u10]
            clear u0 u1 u2 u3 u4 u5 u6 u7 u8 u9 u10
            have HD := Lib.hid r10
            have HI := Lib.hid hI
            clear hI r10
            go_wp2_with fail
            exact step_done rfl HI.out (Below.refl _ _) (toV HV ⟨_, _, rfl, HD.out⟩)
        case fin =>
          intro x W hI hV
          rw [HV.out] at hV
          simp only [AllV, and_true, List.length_cons, List.length_nil, List.range, List.range.loop] at hV
          obtain ⟨u0, u1, u2, u3, u4, u5, u6, u7, u8, ⟨c9, u9, l9, m9⟩, ⟨a10, c10, u10, r10⟩, ⟨a11, c11, u11, r11⟩⟩ := hV
          simp only [getsD, List.getD_cons_succ, List.getD_cons_zero, List.length_cons, List.length_nil, List.range, List.range.loop, u0, u1, u2, u3, u4, u5, u6, u7, u8, u9, u10, u11, Act.put, List.setIfInBounds_toArray, List.set_cons_succ, List.set_cons_zero]
          clear u0 u1 u2 u3 u4 u5 u6 u7 u8 u9 u10 u11
          have HI := Lib.hid hI
          have HD := Lib.hid r11
          clear hI r10 r11
          go_wp2_with fail
          refine (HA.out _ _ _ (hg.go (upper HR.out.below HI.out hzr)) (HD.out.wide fun b hb => hb.2)).mono ?_
          rintro e W1 ⟨rfl, u1⟩
          have hz1 := u1.size
          have hzW := HI.out.size
          have HB1 := Lib.hid (up HI.out u1)
          have HD1 := Lib.hid (HD.out.freshB u1)
          have HO1 := Lib.hid ((HR.out.own.go HI.out).go u1)
          clear u1 HI HD
          have Hrd : Hid (∀ W, Below W1.heap.size W1 W → Rep.rd (fun b => b < W.heap.size ∧ ¬ b < w.heap.size ∧ u5.ownBlock ≠ some b) W (⟨0, o⟩ : Rec) [.int .i64 0, .slice a11 no c11]) := fun W hW => ⟨a11, no, c11, rfl, by unfold I64; simp only; omega, (HD1.out.freshB hW).mono fun b hb => ⟨⟨hb.2, by omega, fun e => by have := (HR.out.own.rowlt b e).2; omega⟩, rfl⟩⟩
          have Hu : Hid (∀ o, Below W1.heap.size W1 (W1.alloc o)) := fun o => (Below.refl _ _).alloc (Nat.le_refl _) o
          go_wp2_with (at_builtin; refine wpList_append_one rfl _ _ _ (by rfl) w.heap.size 64 i0 _ 32 Tryd.underlying62 Hi.out Hz0.out Hz1.out Hz2.out rfl u5 rs (by rfl) (HO1.out.go (Hu.out _)) W1.heap.size 1 _ [.int .i64 0, .slice a11 no c11] ⟨0, o⟩ (by rfl) (Blk.new W1 _) (Hrd.out _ (Hu.out _)) (by have := HR.out.len; unfold maxLen; omega) (by have := HR.out.len; omega) (by simp; omega) ?_)
          intro g cap w5 hown5 hgrow hat hlt5
          have hb5' : Below w.heap.size w w5 := (upper (upper HR.out.below HB1.out hzr) (Hu.out _) (by omega)).grown hgrow (by simp; omega) (fun g hg => (HR.out.own.rowlt g hg).1)
          have HR5 : Hid (RM w n (k + 1) s2 top (.slice (some ⟨g, 0, none⟩) (rs.length + 1) cap) (rs ++ [⟨0, o⟩]) w5) :=
            ⟨by omega, by omega, Hrep.out, G5.out, by omega, g6, HR.out.top0, HR.out.top1, by have := HR.out.len; simp; omega, hown5, hb5'⟩
          clear hown5 hgrow hat hb5' HR HB1 HD1 HO1 Hrd
          go_wp2_with fail
          go_roundw
          case rel => exact ⟨k + 1, s2, top, rs ++ [⟨0, o⟩], by go_num, rfl, rfl, HR5.out⟩
          case measure => simp [intOf]; omega
    · have hway : (k < n ∧ ¬ k < 20) ∨ ¬ k < n := by omega
      have hrc := HR.out.rc
      have hrc0 := rc_nonneg s
      obtain ⟨o0, o1, o2, o3⟩ := mkOp_ok (rc s + 1) [] (by omega) (by omega)
      have HO := Lib.hid (fun W => mkOp_new (rc s + 1) [] none 0 0 W (RdS.none' W) (by omega) (by omega))
      generalize mkOp (rc s + 1) [] = o at *
      have hrep2 := rep_add_miss HR.out.rep HR.out.text o0 (by omega)
      have HRn := Lib.hid (fun W => runes_any s W (by have := HR.out.size; omega))
      have HP1 := Lib.hid (fun a c W hg hr => replay_any rs a rs.length c W hg hr)
      have HP2 := Lib.hid (fun a c W hg hr => replay_any (rs ++ [⟨0, o⟩]) a (rs.length + 1) c W hg hr)
      rw [HR.out.rep] at HP1
      rw [hrep2] at HP2
      unfold repV at HP1 HP2
      simp only at HP1 HP2
      have hzr : w.heap.size ≤ wr.heap.size := HR.out.below.size
      obtain ⟨a5, c5, hsv⟩ := HR.out.own.form
      have HO5 := Lib.hid HR.out.own
      have HB := Lib.hid HR.out.below
      have hlen := HR.out.len
      clear o0 o1 o2 o3 hrep2 HR hlt
      subst hsv
      obtain ⟨a5', c5', he5, hr5⟩ := Own.rdw HO5.out
      injection he5 with he1 he2 he3
      subst he1 he3
      have HR5 := Lib.hid hr5
      clear hr5 he2
      generalize hno : o.length = no at *
      generalize hnr : rs.length = nr at *
      have Hnr := Lib.hid hnr
      clear hno hnr
      generalize rc s = rs' at *
      have iw : IntKind.i64.wrap (rs' + 1) = rs' + 1 := IntWalk.i64_in _ (by omega)
      have Iw := Lib.hid iw
      clear iw
      rcases hway with ⟨h1, h2⟩ | h1
      all_goals
        go_wp2_with fail
        refine (HP1.out _ _ _ (hg.go HB.out) HR5.out).mono ?_
        rintro e w1 ⟨rfl, u1⟩
        have HB1 := Lib.hid (up HB.out u1)
        have HO51 := Lib.hid (HO5.out.go u1)
        have hz1 := u1.size
        clear u1
        go_wp2_with fail
        refine (HRn.out _).mono ?_
        rintro e w2 ⟨rfl, u2⟩
        have HB2 := Lib.hid (up HB1.out u2)
        have HO52 := Lib.hid (HO51.out.go u2)
        have hz2 := u2.size
        clear u2
        have iw := Iw.out
        go_wp2_with fail
        refine (HO.out _).mono ?_
        rintro e w3 ⟨a3, c3, rfl, hrd, u3⟩
        have HB3 := Lib.hid (up HB2.out u3)
        have HO53 := Lib.hid (HO52.out.go u3)
        have hz3 := u3.size
        have HD := Lib.hid hrd
        clear u3 hrd iw
        have Hrd : Hid (∀ W, Below w3.heap.size w3 W → Rep.rd (fun b => b < W.heap.size ∧ ¬ b < w.heap.size ∧ (Value.slice a5 nr c5).ownBlock ≠ some b) W (⟨0, o⟩ : Rec) [.int .i64 0, .slice a3 no c3]) := fun W hW => ⟨a3, no, c3, rfl, by unfold I64; simp only; omega, (HD.out.freshB hW).mono fun b hb => ⟨⟨hb.2, by omega, fun e => by have := (HO52.out.rowlt b e).2; omega⟩, rfl⟩⟩
        have Hu : Hid (∀ o, Below w3.heap.size w3 (w3.alloc o)) := fun o => (Below.refl _ _).alloc (Nat.le_refl _) o
        have HQ : Hid (Own (· < w.heap.size) w.heap.size 64 (.slice a5 rs.length c5) rs w3) := by unfold Hid; rw [Hnr.out]; exact HO53.out
        go_wp2_with (at_builtin; refine wpList_append_one rfl _ _ _ (by rfl) w.heap.size 64 i0 _ 32 Tryd.underlying62 Hi.out Hz0.out Hz1.out Hz2.out rfl (.slice a5 nr c5) rs (by rfl) (HO53.out.go (Hu.out _)) w3.heap.size 1 _ [.int .i64 0, .slice a3 no c3] ⟨0, o⟩ (by rfl) (Blk.new w3 _) (Hrd.out _ (Hu.out _)) (by have := Hnr.out; unfold maxLen; omega) (by have := Hnr.out; omega) (by simp; omega) ?_)
        intro g cap w5 hown5 hgrow hat hlt5
        have hb5' : Below w.heap.size w w5 := (upper HB3.out (Hu.out _) (by omega)).grown hgrow (by simp; omega) (fun g hg => (HO53.out.rowlt g hg).1)
        have HB5 := Lib.hid hb5'
        obtain ⟨a6, c6, he6, hr6⟩ := Own.rdw hown5
        injection he6 with he1 he2 he3
        subst he1 he3
        have HR6 : Hid (RdS (· < w5.heap.size) w5 (rs ++ [⟨0, o⟩]) (some ⟨g, 0, none⟩) (nr + 1) cap) := by
          unfold Hid; have h := Hnr.out; simp at hr6; rw [h] at hr6; exact hr6
        have hn := Hnr.out
        rw [hn]
        clear hown5 hgrow hat hb5' hr6 he2 Hrd HD HQ hn
        go_wp2_with fail
        refine (HP2.out _ _ _ (hg.go HB5.out) HR6.out).mono ?_
        rintro e w6 ⟨rfl, u6⟩
        have HB6 := Lib.hid (up HB5.out u6)
        clear u6
        go_wp2_with fail
        go_ret
        exact ⟨rfl, HB6.out⟩
end Go.Proofs.YtndclmjpjcilmaaDoor
