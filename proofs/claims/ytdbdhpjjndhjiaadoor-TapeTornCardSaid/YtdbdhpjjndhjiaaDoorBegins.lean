/- The walk of wherrykeep.begins, where it holds. -/
import Derived.Test.YtdbdhpjjndhjiaaDoorTapeRecs
set_option linter.unusedSimpArgs false
namespace Go.Proofs.YtdbdhpjjndhjiaaDoor
open Go.RowKit

set_option maxRecDepth 100000 in
set_option maxHeartbeats 4000000 in
theorem begins_ok (p q : List Rec) (hlen : p.length ≤ q.length) (hpq : ∀ k (h : k < p.length) (h2 : k < q.length), q[k] = p[k]) (a1 a2 : Option Addr) (n1 c1 n2 c2 : Nat) (w : World) (h1 : RdS (· < w.heap.size) w p a1 n1 c1) (h2 : RdS (· < w.heap.size) w q a2 n2 c2) :
    Calls Tryd.prog 29 #[.slice a1 n1 c1, .slice a2 n2 c2] w fun e w' => e = .returned (.bool true) ∧ Below w.heap.size w w' := by
  have hm1 : n1 ≤ maxLen := by have := h1.2.1; have := h1.2.2.1; omega
  unfold maxLen at hm1
  have Hl1 := Lib.hid h1.1
  have Hl2 := Lib.hid h2.1
  have hle : n1 ≤ n2 := by have := Hl1.out; have := Hl2.out; omega
  have H1 := Lib.hid h1
  have H2 := Lib.hid h2
  have Hpq := Lib.hid hpq
  clear h1 h2 hpq hlen
  have hd : decide ((n2 : Int) < (n1 : Int)) = false := by simp; omega
  go_enter Tryd.func29, Tryd.ntmps29
  go_wp2_with fail
  go_loopw [13] (fun i wr => ∃ k : Nat, k ≤ n1 ∧ i = .int .i64 k ∧ Below w.heap.size w wr) (fun i _ => n1 - (intOf i).toNat)
  case atStart => exact ⟨0, by omega, rfl, Below.refl _ _⟩
  case round =>
    obtain ⟨k, hk, rfl, hb⟩ := hrel
    by_cases hlt : k < n1
    · obtain ⟨b, off, rfl, hAb, hbs, hcs⟩ := (H1.out.go hb).recs (by omega)
      obtain ⟨b2, off2, rfl, hAb2, hbs2, hcs2⟩ := (H2.out.go hb).recs (by omega)
      have hk1 : k < p.length := by have := Hl1.out; omega
      have hk2 : k < q.length := by have := Hl2.out; omega
      obtain ⟨xa, xn, xc, x1, hx, d0, d1⟩ := hcs k hk1
      obtain ⟨ya, yn, yc, y1, hy, f0, f1⟩ := hcs2 k hk2
      have hkn2 : k < n2 := by omega
      rw [Hpq.out k hk1 hk2] at hy f0
      have HS := Lib.hid (fun W (u : Below wr.heap.size wr W) => sameRecord_ok p[k] xa ya xn xc yn yc W (hx.go u) (hy.go u))
      generalize p[k] = rr at *
      have HB := Lib.hid hb
      clear hcs hcs2 hx hy hb x1 y1
      go_wp2_with fail
      refine region_lit2 (by kernel_rfl) (by kernel_rfl) (by kernel_rfl) [[], [], [0, 1], [0, 1, 2], [], [], [4, 5], [4, 5, 6], [0, 1, 2, 3, 4, 5, 6, 7], [0, 1, 2, 3, 4, 5, 6, 7, 8]] (by kernel_rfl) [some 16, some 17, some 18, some 19, some 20, some 21, some 22, some 23, some 24, some 25] (by kernel_rfl) [false, false, false, false, false, false, false, false, false, true] (by kernel_rfl)
        (fun W => Below wr.heap.size wr W)
        (fun i v W => match i with
          | 0 => v = .slice (some ⟨b, off, none⟩) n1 c1
          | 1 => v = .int .i64 (k : Int)
          | 2 => v = .pointer (some ⟨b, off + k * 2, none⟩)
          | 3 => v = .agg #[.int .i64 rr.epoch, .slice xa xn xc]
          | 4 => v = .slice (some ⟨b2, off2, none⟩) n2 c2
          | 5 => v = .int .i64 (k : Int)
          | 6 => v = .pointer (some ⟨b2, off2 + k * 2, none⟩)
          | 7 => v = .agg #[.int .i64 rr.epoch, .slice ya yn yc]
          | 8 => v = .bool true
          | _ => v = .bool false)
        (fun W W' => Below W.heap.size W W')
        [fun x => ⟨#[.slice (some ⟨b, off, none⟩) n1 c1, undef, undef, undef, undef, undef, undef, undef, undef, undef, undef, undef, undef, undef, undef, undef, undef], []⟩,
   fun x => ⟨#[undef, undef, undef, undef, undef, .int .i64 (k : Int), undef, undef, undef, undef, undef, undef, undef, undef, undef, undef, undef, undef], []⟩,
   fun x => ⟨#[undef, undef, undef, undef, undef, undef, undef, undef, undef, undef, undef, undef, undef, undef, undef, undef, x 0, x 1, undef], []⟩,
   fun x => ⟨#[undef, undef, undef, undef, undef, undef, undef, undef, undef, undef, undef, undef, undef, undef, undef, undef, undef, undef, x 2, undef], []⟩,
   fun x => ⟨#[undef, .slice (some ⟨b2, off2, none⟩) n2 c2, undef, undef, undef, undef, undef, undef, undef, undef, undef, undef, undef, undef, undef, undef, undef, undef, undef, undef, undef], []⟩,
   fun x => ⟨#[undef, undef, undef, undef, undef, .int .i64 (k : Int), undef, undef, undef, undef, undef, undef, undef, undef, undef, undef, undef, undef, undef, undef, undef, undef], []⟩,
   fun x => ⟨#[undef, undef, undef, undef, undef, undef, undef, undef, undef, undef, undef, undef, undef, undef, undef, undef, undef, undef, undef, undef, x 4, x 5, undef], []⟩,
   fun x => ⟨#[undef, undef, undef, undef, undef, undef, undef, undef, undef, undef, undef, undef, undef, undef, undef, undef, undef, undef, undef, undef, undef, undef, x 6, undef], []⟩,
   fun x => ⟨#[undef, undef, undef, undef, undef, undef, undef, undef, undef, undef, undef, undef, undef, undef, undef, undef, undef, undef, undef, x 3, undef, undef, undef, x 7, undef], []⟩,
   fun x => ⟨#[undef, undef, undef, undef, undef, undef, undef, undef, undef, undef, undef, undef, undef, undef, undef, undef, undef, undef, undef, undef, undef, undef, undef, undef, x 8, undef], []⟩]
        ?hF ?mono ?h0 ?step ?fin
      case hF =>
        exact ⟨fun x => ⟨by kernel_rfl, by kernel_rfl⟩, fun x => ⟨by kernel_rfl, by kernel_rfl⟩, fun x => ⟨by kernel_rfl, by kernel_rfl⟩, fun x => ⟨by kernel_rfl, by kernel_rfl⟩, fun x => ⟨by kernel_rfl, by kernel_rfl⟩, fun x => ⟨by kernel_rfl, by kernel_rfl⟩, fun x => ⟨by kernel_rfl, by kernel_rfl⟩, fun x => ⟨by kernel_rfl, by kernel_rfl⟩, fun x => ⟨by kernel_rfl, by kernel_rfl⟩, fun x => ⟨by kernel_rfl, by kernel_rfl⟩, trivial⟩
      case mono =>
        intro i hi v W W' hE hv
        match i, hi with
        | 0, _ | 1, _ | 2, _ | 3, _ | 4, _ | 5, _ | 6, _ | 7, _ | 8, _ => exact hv
        | m + 9, h => exact absurd h (by cases m <;> simp)
      case h0 => first | exact (Below.refl _ _).drew | exact Below.drew (by assumption) | (refine Below.drew ?_; assumption)
      case step =>
        refine ⟨?_, ?_, ?_, ?_, ?_, ?_, ?_, ?_, ?_, ?_, trivial⟩
        all_goals
          intro x W hI hV
          simp only [AllV, and_true] at hV
        · clear hV
          (try dsimp only)
          go_wp2_with fail
          exact step_done rfl hI (Below.refl _ _) rfl
        · clear hV
          (try dsimp only)
          go_wp2_with fail
          exact step_done rfl hI (Below.refl _ _) rfl
        · obtain ⟨u0, u1⟩ := hV
          simp only [u0, u1]
          clear u0 u1
          go_wp2_with fail
          exact step_done rfl hI (Below.refl _ _) rfl
        · obtain ⟨u0, u1, u2⟩ := hV
          simp only [u2]
          clear u0 u1 u2
          have e0 : W.cell? ⟨b, off + k * 2, none⟩ = some (.int .i64 rr.epoch) := (hI.cell (p := ⟨b, off + k * 2, none⟩) hbs).trans d0
          have e1 : W.cell? ⟨b, off + k * 2 + 1, none⟩ = some (.slice xa xn xc) := (hI.cell (p := ⟨b, off + k * 2 + 1, none⟩) hbs).trans d1
          have HI := Lib.hid hI
          clear hI d0 d1 f0 f1
          go_wp2_with fail
          exact step_done rfl HI.out (Below.refl _ _) rfl
        · clear hV
          (try dsimp only)
          go_wp2_with fail
          exact step_done rfl hI (Below.refl _ _) rfl
        · clear hV
          (try dsimp only)
          go_wp2_with fail
          exact step_done rfl hI (Below.refl _ _) rfl
        · obtain ⟨u4, u5⟩ := hV
          simp only [u4, u5]
          clear u4 u5
          go_wp2_with fail
          exact step_done rfl hI (Below.refl _ _) rfl
        · obtain ⟨u4, u5, u6⟩ := hV
          simp only [u6]
          clear u4 u5 u6
          have e0 : W.cell? ⟨b2, off2 + k * 2, none⟩ = some (.int .i64 rr.epoch) := (hI.cell (p := ⟨b2, off2 + k * 2, none⟩) hbs2).trans f0
          have e1 : W.cell? ⟨b2, off2 + k * 2 + 1, none⟩ = some (.slice ya yn yc) := (hI.cell (p := ⟨b2, off2 + k * 2 + 1, none⟩) hbs2).trans f1
          have HI := Lib.hid hI
          clear hI d0 d1 f0 f1
          go_wp2_with fail
          exact step_done rfl HI.out (Below.refl _ _) rfl
        · obtain ⟨u0, u1, u2, u3, u4, u5, u6, u7⟩ := hV
          simp only [u3, u7]
          clear u0 u1 u2 u3 u4 u5 u6 u7
          have HI := Lib.hid hI
          clear hI d0 d1 f0 f1
          go_wp2_with fail
          refine (HS.out W HI.out).mono ?_
          rintro e W' ⟨rfl, uW⟩
          have hs := HI.out.size
          have HW := Lib.hid uW
          have HU := Lib.hid (up HI.out uW)
          clear uW hs HI
          go_wp2_with fail
          exact step_done rfl HU.out HW.out rfl
        · obtain ⟨u0, u1, u2, u3, u4, u5, u6, u7, u8⟩ := hV
          simp only [u8]
          clear u0 u1 u2 u3 u4 u5 u6 u7 u8
          go_wp2_with fail
          exact step_done rfl hI (Below.refl _ _) rfl
      case fin =>
        intro x W hI hV
        simp only [AllV, and_true, List.length_cons, List.length_nil, List.range, List.range.loop] at hV
        obtain ⟨u0, u1, u2, u3, u4, u5, u6, u7, u8, u9⟩ := hV
        simp only [getsD, List.getD_cons_succ, List.getD_cons_zero, List.length_cons, List.length_nil, List.range, List.range.loop, u0, u1, u2, u3, u4, u5, u6, u7, u8, u9, Act.put, List.setIfInBounds_toArray, List.set_cons_succ, List.set_cons_zero]
        clear u0 u1 u2 u3 u4 u5 u6 u7 u8 u9
        have hz := HB.out.size
        have HN := Lib.hid (upper HB.out hI hz)
        clear hI d0 d1 f0 f1 hz
        go_wp2_with fail
        go_roundw
        case rel => exact ⟨k + 1, by omega, by go_num, HN.out⟩
        case measure => simp [intOf]; omega
    · have hkn : k = n1 := by omega
      subst hkn
      have HB := Lib.hid hb
      clear hb
      go_wp2_with fail
      go_ret
      exact ⟨rfl, HB.out⟩
end Go.Proofs.YtdbdhpjjndhjiaaDoor
