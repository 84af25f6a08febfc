/- The walk of BeginBad. -/
import Derived.Test.YtkbfhgcjimfgkaaDoorTreeLaw
import Derived.Test.YtkbfhgcjimfgkaaDoorBeginBad0
set_option linter.unusedVariables false
set_option linter.unusedSimpArgs false
namespace Go.Proofs.YtkbfhgcjimfgkaaDoor
open Go.RowKit

theorem bb_x : checkText ⟨#[120]⟩ = 0 := by kernel_rfl
theorem bb_ff : checkText ⟨#[255]⟩ = 4 := by kernel_rfl
theorem bb_laws {t : List Int} (h0 : checkTree t = 0) (h2 : 2 ≤ t.length) {b : Int} (hb : 1 ≤ b) (hb' : b ≤ 250) : beginE t 1 b ⟨#[120]⟩ = 4 ∧ beginE t 1 (250 + b) ⟨#[120]⟩ = 2 ∧ beginE t (-1) b ⟨#[120]⟩ = 13 ∧ beginE t 1 b ⟨#[255]⟩ = 4 := by
  unfold beginE
  rw [if_neg (by simpa using h0), if_neg (by omega), if_neg (by omega), bb_x, if_neg (by simp), if_pos ⟨by omega, by kernel_rfl⟩, if_neg (by simpa using h0), if_neg (by omega), if_pos (by omega), if_neg (by simpa using h0), if_pos (by omega), if_neg (by simpa using h0), if_neg (by omega), if_neg (by omega), bb_ff, if_pos (by simp)]
  exact ⟨rfl, rfl, rfl, rfl⟩
set_option maxRecDepth 100000 in
set_option maxHeartbeats 4000000 in
theorem beginBad_walk (w : World) (hg : Good w) (l : List Int) (a : Option Addr) (n c : Nat) (hr : RdS (· < w.heap.size) w l a n c) (nb : Int) (hnb : I64 nb) (nw : Int) (hnw : I64 nw) :
    Calls Tryd.prog 3 #[.slice a n c, .int .i64 nb, .int .i64 nw] w fun e w' => e = .returned (.bool true) ∧ Below w.heap.size w w' := by
  have hnl := hr.1
  have hnc := hr.2.1
  have hcm := hr.2.2.1
  unfold maxLen at hcm
  obtain ⟨N, hN⟩ : ∃ N : Nat, N = min n 5 := ⟨_, rfl⟩
  have hsub := hr.take 5 N hN
  have HT := Lib.hid (fun W (hW : Below w.heap.size w W) => tree_any (· < W.heap.size) a N c (l.take 5) W (fun _ h => h) (hsub.go hW))
  obtain ⟨t1, t2, t3⟩ := tree0_len l
  have t4 := tree0_ok l
  have hmin : min (n : Int) 5 = (N : Int) := by omega
  have hNc : (N : Int) ≤ (c : Int) := by omega
  have hN0 : (0 : Int) ≤ (N : Int) := by omega
  have hpb := pk_range nb 250 (by omega)
  have HPb := Lib.hid (fun W => (picked_any nb 250 W hnb (by omega) (by omega)).mono fun e w' (h : e = .returned (.int .i64 (pk nb 250)) ∧ W = w') => (⟨h.1, h.2 ▸ Below.refl _ _⟩ : e = .returned (.int .i64 (pk nb 250)) ∧ Below W.heap.size W w'))
  have hpw := pk_range nw 4 (by omega)
  have HPw := Lib.hid (fun W => (picked_any nw 4 W hnw (by omega) (by omega)).mono fun e w' (h : e = .returned (.int .i64 (pk nw 4)) ∧ W = w') => (⟨h.1, h.2 ▸ Below.refl _ _⟩ : e = .returned (.int .i64 (pk nw 4)) ∧ Below W.heap.size W w'))
  generalize pk nb 250 = B at *
  generalize pk nw 4 = K at *
  have HL := Lib.hid (bb_laws t4 t2 (b := 1 + B) (by omega) (by omega))
  have Hg := Lib.hid hg
  have h64 : ∀ x ∈ tree (l.take 5), I64 x := tree_64 _
  have H64 := Lib.hid h64
  have hTl : (tree (l.take 5)).length ≤ 6 := by omega
  have HTl := Lib.hid hTl
  have hT0 : tree0 l = tree (l.take 5) ++ [0] := rfl
  have HT0 := Lib.hid hT0
  have Ht1 := Lib.hid t1
  obtain ⟨i0, hi, hz0, hz1, hz2⟩ := info_parts info3
  have Hi := Lib.hid hi
  have Hz0 := Lib.hid hz0
  have Hz1 := Lib.hid hz1
  have Hz2 := Lib.hid hz2
  generalize tree (l.take 5) = T at *
  generalize tree0 l = T0 at *
  have hB : 0 ≤ B ∧ B < 250 := by omega
  clear hr hnl hN hsub t1 t2 t3 t4 hg h64 hTl hT0 hi hz0 hz1 hz2 hnb hnw hpb
  go_enter Tryd.func3, Tryd.ntmps3
  go_wp2_with fail
  refine (HT.out _ (Below.refl _ _)).mono ?_
  rintro e w1 ⟨v, rfl, ho, b1⟩
  have HO := Lib.hid (ints_own ho H64.out)
  have B1 := Lib.hid b1
  have hz1 := b1.size
  obtain ⟨ta, tc, rfl⟩ : ∃ ta tc, v = .slice ta T.length tc := by
    obtain ⟨a, c, h, -⟩ := HO.out.form
    exact ⟨a, c, h⟩
  clear ho b1 HT
  go_wp2_with (at_builtin; refine wpList_append_oneO rfl _ _ _ (by rfl) w.heap.size 3 i0 _ 8 Tryd.underlying23 Hi.out Hz0.out Hz1.out Hz2.out rfl (.slice ta T.length tc) T (by rfl) (HO.out.go ((Below.refl _ w1).alloc (Nat.le_refl _) _)) w1.heap.size 1 _ [.int .i64 0] (0 : Int) (by rfl) (Blk.new w1 _) ⟨rfl, by unfold I64; omega⟩ (by have := HTl.out; unfold maxLen; omega) (by have := HTl.out; omega) (by simp; omega) ?_)
  intro g2 o2 cap w2 hown hgrow hat hlt2
  rw [← HT0.out] at hown
  have HO2 := Lib.hid hown
  have B2 := Lib.hid ((B1.out.alloc hz1 (.cells #[.int .i64 0] 3)).grown hgrow (by simp; omega) (fun k hk => (HO.out.rowlt k hk).1))
  clear hown hgrow hat HO B1
  go_wp2_with fail
  refine (HPb.out _).mono ?_
  rintro e w3 ⟨rfl, b3⟩
  have HO3 := Lib.hid (HO2.out.go b3)
  have B3 := Lib.hid (B2.out.trans (b3.mono (by have := B2.out.size; omega)))
  clear b3 HO2 B2 HPb
  go_wp2_with fail
  refine (HPw.out _).mono ?_
  rintro e w4 ⟨rfl, b4⟩
  have HO4 := Lib.hid (HO3.out.go b4)
  have B4 := Lib.hid (B3.out.trans (b4.mono (by have := B3.out.size; omega)))
  clear b4 HO3 B3 HPw
  obtain ⟨ra, rc, hre, RT⟩ := HO4.out.rdI
  rw [Ht1.out] at hre RT
  injection hre with e1 e2 e3
  subst e1 e3
  have HBg := Lib.hid (fun me b s hm hb hs hE => begin_bad T0 (some ⟨g2, o2, none⟩) (T.length + 1) cap me b s w4 (Hg.out.go B4.out) RT hm hb hs hE)
  clear RT e2 HO4
  have hk : K = 0 ∨ K = 1 ∨ K = 2 ∨ K = 3 := by omega
  rcases hk with rfl | rfl | rfl | rfl
  · clear hpw
    have HB : Hid (Calls Tryd.prog 12 #[.slice (some ⟨g2, o2, none⟩) (T.length + 1) cap, .int .i64 (1), .int .i64 (1 + B), .string ⟨#[120]⟩] w4 fun e w' => e = .returned (.tuple #[.agg zeroTn, .int .i64 4]) ∧ Below w4.heap.size w4 w') := by
      have h := HBg.out (1) (1 + B) ⟨#[120]⟩ (by unfold I64; omega) (by unfold I64; omega) (by unfold strMax; decide) (by rw [HL.out.1]; decide)
      rw [HL.out.1] at h
      exact h
    clear HBg HL
    go_wp2_with fail
    refine HB.out.mono ?_
    rintro e w5 ⟨rfl, b5⟩
    have B5 := Lib.hid (B4.out.trans (b5.mono (by have := B4.out.size; omega)))
    have hz5 := B5.out.size
    clear b5 HB
    go_wp2_with fail
    go_ret
    exact ⟨rfl, B5.out.alloc hz5 _⟩
  · clear hpw
    have HB : Hid (Calls Tryd.prog 12 #[.slice (some ⟨g2, o2, none⟩) (T.length + 1) cap, .int .i64 (1), .int .i64 (250 + (1 + B)), .string ⟨#[120]⟩] w4 fun e w' => e = .returned (.tuple #[.agg zeroTn, .int .i64 2]) ∧ Below w4.heap.size w4 w') := by
      have h := HBg.out (1) (250 + (1 + B)) ⟨#[120]⟩ (by unfold I64; omega) (by unfold I64; omega) (by unfold strMax; decide) (by rw [HL.out.2.1]; decide)
      rw [HL.out.2.1] at h
      exact h
    clear HBg HL
    go_wp2_with fail
    refine HB.out.mono ?_
    rintro e w5 ⟨rfl, b5⟩
    have B5 := Lib.hid (B4.out.trans (b5.mono (by have := B4.out.size; omega)))
    have hz5 := B5.out.size
    clear b5 HB
    go_wp2_with fail
    go_ret
    exact ⟨rfl, B5.out.alloc hz5 _⟩
  · clear hpw
    have HB : Hid (Calls Tryd.prog 12 #[.slice (some ⟨g2, o2, none⟩) (T.length + 1) cap, .int .i64 (-1), .int .i64 (1 + B), .string ⟨#[120]⟩] w4 fun e w' => e = .returned (.tuple #[.agg zeroTn, .int .i64 13]) ∧ Below w4.heap.size w4 w') := by
      have h := HBg.out (-1) (1 + B) ⟨#[120]⟩ (by unfold I64; omega) (by unfold I64; omega) (by unfold strMax; decide) (by rw [HL.out.2.2.1]; decide)
      rw [HL.out.2.2.1] at h
      exact h
    clear HBg HL
    go_wp2_with fail
    refine HB.out.mono ?_
    rintro e w5 ⟨rfl, b5⟩
    have B5 := Lib.hid (B4.out.trans (b5.mono (by have := B4.out.size; omega)))
    have hz5 := B5.out.size
    clear b5 HB
    go_wp2_with fail
    go_ret
    exact ⟨rfl, B5.out.alloc hz5 _⟩
  · clear hpw
    have HB : Hid (Calls Tryd.prog 12 #[.slice (some ⟨g2, o2, none⟩) (T.length + 1) cap, .int .i64 (1), .int .i64 (1 + B), .string ⟨#[255]⟩] w4 fun e w' => e = .returned (.tuple #[.agg zeroTn, .int .i64 4]) ∧ Below w4.heap.size w4 w') := by
      have h := HBg.out (1) (1 + B) ⟨#[255]⟩ (by unfold I64; omega) (by unfold I64; omega) (by unfold strMax; decide) (by rw [HL.out.2.2.2]; decide)
      rw [HL.out.2.2.2] at h
      exact h
    clear HBg HL
    go_wp2_with fail
    refine HB.out.mono ?_
    rintro e w5 ⟨rfl, b5⟩
    have B5 := Lib.hid (B4.out.trans (b5.mono (by have := B4.out.size; omega)))
    have hz5 := B5.out.size
    clear b5 HB
    go_wp2_with fail
    go_ret
    exact ⟨rfl, B5.out.alloc hz5 _⟩
end Go.Proofs.YtkbfhgcjimfgkaaDoor
