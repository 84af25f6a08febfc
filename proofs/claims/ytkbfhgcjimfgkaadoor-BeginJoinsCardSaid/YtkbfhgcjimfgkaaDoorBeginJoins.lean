/- The walk of BeginJoins. -/
import Derived.Test.YtkbfhgcjimfgkaaDoorBeginLaw
import Derived.Test.YtkbfhgcjimfgkaaDoorKeep
set_option linter.unusedVariables false
set_option linter.unusedSimpArgs false
namespace Go.Proofs.YtkbfhgcjimfgkaaDoor
open Go.RowKit

set_option maxRecDepth 100000 in
set_option maxHeartbeats 8000000 in
theorem beginJoins_walk (w : World) (hg : Good w) (l : List Int) (a : Option Addr) (n c : Nat) (hr : RdS (· < w.heap.size) w l a n c) (nm : Int) (hnm : I64 nm) (nb : Int) (hnb : I64 nb) (s : Str) (hs : s.size ≤ maxLen) :
    Calls Tryd.prog 4 #[.slice a n c, .int .i64 nm, .int .i64 nb, .string s] w fun e w' => e = .returned (.bool true) ∧ Below w.heap.size w w' := by
  have HT := Lib.hid (fun W (hW : Below w.heap.size w W) => tree_any (· < W.heap.size) a n c l W (fun _ h => h) (hr.go hW))
  obtain ⟨t1, t2⟩ := tree_len l
  have t4 := tree_ok l
  have h64 : ∀ x ∈ tree l, I64 x := tree_64 _
  generalize tree l = T at *
  have hpm := pk_range nm T.length (by omega)
  have HPm := Lib.hid (fun W => (picked_any nm T.length W hnm (by omega) (by omega)).mono fun e w' (h : e = .returned (.int .i64 (pk nm T.length)) ∧ W = w') => (⟨h.1, h.2 ▸ Below.refl _ _⟩ : e = .returned (.int .i64 (pk nm T.length)) ∧ Below W.heap.size W w'))
  have hpb := pk_range nb 250 (by omega)
  have HPb := Lib.hid (fun W => (picked_any nb 250 W hnb (by omega) (by omega)).mono fun e w' (h : e = .returned (.int .i64 (pk nb 250)) ∧ W = w') => (⟨h.1, h.2 ▸ Below.refl _ _⟩ : e = .returned (.int .i64 (pk nb 250)) ∧ Below W.heap.size W w'))
  generalize pk nb 250 = B at *
  generalize pk nm T.length = KI at *
  obtain ⟨K, rfl⟩ : ∃ k : Nat, KI = (k : Int) := ⟨KI.toNat, by omega⟩
  have HLt := Lib.hid (fun W => letters_any s 20 W hs (by omega))
  obtain ⟨l1, l2, l3, l4⟩ := letters_ok s 20 (by omega)
  obtain ⟨C, hC⟩ : ∃ C, C = if K = 0 then letters s 20 else noText := ⟨_, rfl⟩
  have hC0 : checkText C = 0 := by
    rw [hC]
    split
    · exact l1
    · decide
  have hCe : 0 < K → emptyS C = true := fun h => by rw [hC, if_neg (by omega)]; exact emptyS_noText
  have hCs : C.size ≤ strMax := by
    rw [hC]
    unfold strMax
    split
    · omega
    · rw [noText_size]; omega
  obtain ⟨g1, g2, g3, g4, g5, g6⟩ := begin_plain (t := T) (k := K) (by omega) t4 (b := 1 + B) (by omega) (by omega) hC0 hCe
  have hEz : beginE T (K : Int) (1 + B) C = 0 := by
    unfold beginE
    rw [if_neg (by simpa using t4), if_neg (by omega), if_neg (by omega), if_neg (by simpa using hC0), if_neg]
    rintro ⟨h1, h2⟩
    rw [hCe (by omega)] at h2
    cases h2
  have hE13 : beginE T (T.length : Int) (1 + B) noText = 13 := by
    unfold beginE
    rw [if_neg (by simpa using t4), if_pos (by omega)]
  have HE13 := Lib.hid hE13
  have HC := Lib.hid hC
  have HG1 := Lib.hid g1
  have HG := Lib.hid (And.intro g2 (And.intro g3 (And.intro g4 (And.intro g5 g6))))
  have HBo := Lib.hid (fun (ra : Option Addr) (rc : Nat) W (hW : Good W) (hR : RdS (· < W.heap.size) W T ra T.length rc) => begin_ok T ra T.length rc K (1 + B) C W hW hR (by unfold I64; omega) hCs hEz)
  have HBb := Lib.hid (fun (ra : Option Addr) (rc : Nat) W (hW : Good W) (hR : RdS (· < W.heap.size) W T ra T.length rc) => begin_bad T ra T.length rc (T.length : Int) (1 + B) noText W hW hR (by unfold I64; omega) (by unfold I64; omega) (by rw [noText_size]; unfold strMax; omega) (by rw [hE13]; decide))
  have Hg := Lib.hid hg
  have H64 := Lib.hid h64
  have hTl : (T.length : Int) ≤ 7 := by omega
  have hB1 : 0 ≤ B ∧ B < 250 := by omega
  have hKT : (K : Int) < (T.length : Int) := by omega
  generalize beginT T (K : Int) (1 + B) C = X at *
  clear hr hnm hnb hs l1 l2 l3 l4 hC hC0 hCe hCs g1 g2 g3 g4 g5 g6 hEz hE13 hg h64 t4 hpm hpb t1 t2
  go_enter Tryd.func4, Tryd.ntmps4
  go_wp2_with fail
  refine (HT.out _ (Below.refl _ _)).mono ?_
  rintro e w1 ⟨v, rfl, ho, b1⟩
  have HO := ints_own ho H64.out
  obtain ⟨ra, rc, rfl, RT⟩ := HO.rdI
  have HRT := Lib.hid RT
  have hrc1 := RT.2.1
  have hrc2 := RT.2.2.1
  unfold maxLen at hrc2
  have B1 := Lib.hid b1
  clear ho b1 HT HO RT
  go_wp2_with fail
  refine (HPm.out _).mono ?_
  rintro e w2 ⟨rfl, b2⟩
  have B2 := Lib.hid (up B1.out b2)
  have HR2 := Lib.hid (HRT.out.go b2)
  clear b2 B1 HRT HPm
  go_wp2_with fail
  refine (HPb.out _).mono ?_
  rintro e w3 ⟨rfl, b3⟩
  have B3 := Lib.hid (up B2.out b3)
  have HR3 := Lib.hid (HR2.out.go b3)
  clear b3 B2 HR2 HPb
  go_upto_if 27 with fail
  go_cut [10, 12, 22] from 26 to 29 (fun s10 s12 _ W => s10 = .int .i64 (K : Int) ∧ s12 = .string C ∧ Below w.heap.size w W ∧ RdS (· < W.heap.size) W T ra T.length rc)
  case first =>
    by_cases hK0 : (K : Int) = 0
    · go_wp2_with fail
      refine (HLt.out _).mono ?_
      rintro e w4 ⟨rfl, b4⟩
      go_wp2_with fail
      go_meet
      case rel => exact ⟨(by rw [hK0]), (by rw [HC.out, if_pos (by omega)]), up B3.out b4, HR3.out.go b4⟩
    · go_wp2_with fail
      go_meet
      case rel => exact ⟨rfl, (by rw [HC.out, if_neg (by omega)]; rfl), B3.out, HR3.out⟩
  case rest =>
    obtain ⟨rfl, rfl, b4, r4⟩ := hcut
    have B4 := Lib.hid b4
    have HR4 := Lib.hid r4
    clear b4 r4 B3 HR3 HLt HC
    go_wp2_with fail
    refine (HBo.out ra rc wc (Hg.out.go B4.out) HR4.out).mono ?_
    rintro e w5 ⟨v, rfl, hv, b5⟩
    obtain ⟨a0, c0, a1, c1, a2, c2, a3, c3, a4, c4, rfl, hf, r0, r1, r2, r3, r5⟩ := hv.open
    have HV := Lib.hid hv
    have hlt : ∀ z, Fresh wc.heap.size w5 z → z < w5.heap.size ∧ w5.heap[z]? = w5.heap[z]? := fun z hz => ⟨hz.2, rfl⟩
    have HR5 := Lib.hid (And.intro (r0.mono hlt) (And.intro (r1.mono hlt) (And.intro (r2.mono hlt) (r3.mono hlt))))
    have Hf := Lib.hid hf
    have B5 := Lib.hid (up B4.out b5)
    have HT5 := Lib.hid (HR4.out.go b5)
    have hz5 := b5.size
    clear b5 hv r0 r1 r2 r3 r5 B4 HR4 HBo hf hlt
    go_wp2_with fail
    refine abs_run (fun W => Below w5.heap.size w5 W ∧ Blk w5.heap.size (.cells #[.int .i64 X.node.me, .int .i64 X.node.epoch, .int .i64 X.node.up, .bool X.node.ready, .string X.node.text, .slice a0 X.node.sides.length c0, .slice a1 X.node.undo.length c1, .slice a2 X.node.marks.length c2, .slice a3 X.posts.length c3, .slice a4 X.recs.length c4] 35 (0, 0)) W) ⟨(Below.refl _ _).alloc (Nat.le_refl _) _, Blk.new w5 _⟩ ?_
    rintro w6 ⟨b6, x6⟩
    have B6 := Lib.hid (up B5.out b6)
    have HT6 := Lib.hid (HT5.out.go b6)
    obtain ⟨r0, r1, r2, r3⟩ := HR5.out
    have HR6 := Lib.hid (And.intro (r0.go b6) (And.intro (r1.go b6) (And.intro (r2.go b6) (r3.go b6))))
    have X6 := Lib.hid x6
    obtain ⟨g, hgw⟩ : ∃ g, g = w5.heap.size := ⟨_, rfl⟩
    rw [← hgw] at X6
    rw [← hgw]
    clear b6 x6 r0 r1 r2 r3 HR5 HT5 B5 hz5 hgw
    refine (HBb.out ra rc w6 (Hg.out.go B6.out) HT6.out).mono ?_
    rw [HE13.out]
    rintro e w7 ⟨rfl, b7⟩
    have B7 := Lib.hid (up B6.out b7)
    have HT7 := Lib.hid (HT6.out.go b7)
    obtain ⟨r0, r1, r2, r3⟩ := HR6.out
    have HR7 := Lib.hid (And.intro (r0.go b7) (And.intro (r1.go b7) (And.intro (r2.go b7) (r3.go b7))))
    have X7 := Lib.hid (X6.out.go b7)
    clear b7 r0 r1 r2 r3 HR6 HT6 B6 X6 HBb HE13
    go_upto_region 9 with fail
    refine abs_w (fun W => Below w7.heap.size w7 W) ((Below.refl _ _).alloc (Nat.le_refl _) _) ?_
    rintro w8 b8
    have B8 := Lib.hid (up B7.out b8)
    have HT8 := Lib.hid (HT7.out.go b8)
    obtain ⟨r0, r1, r2, r3⟩ := HR7.out
    have HR8 := Lib.hid (And.intro (r0.go b8) (And.intro (r1.go b8) (And.intro (r2.go b8) (r3.go b8))))
    have X8 := Lib.hid (X7.out.go b8)
    clear b8 r0 r1 r2 r3 HR7 HT7 B7 X7
    obtain ⟨y0, y1, y2, y3, y4, y5, y6, y7, y8, y9⟩ := blk10_cells X8.out
    go_wp2_with fail
    refine (ndCheck_good T ra T.length rc X.node a0 c0 a1 c1 a2 c2 w8 (Hg.out.go B8.out) HT8.out HR8.out.1 HR8.out.2.1 HR8.out.2.2.1 Hf.out HG1.out).mono ?_
    rintro e w9 ⟨rfl, b9⟩
    have B9 := Lib.hid (up B8.out b9)
    have HT9 := Lib.hid (HT8.out.go b9)
    have HR9 := Lib.hid (HR8.out.2.2.2.go b9)
    have X9 := Lib.hid (X8.out.go b9)
    clear y0 y1 y2 y3 y4 y5 y6 y7 y8 y9 b9 B8 HT8 HR8 X8 HG1 Hf
    obtain ⟨y0, y1, y2, y3, y4, y5, y6, y7, y8, y9⟩ := blk10_cells X9.out
    obtain ⟨q1, q2, q3, q4, q5⟩ := HG.out
    rw [q3] at y1
    rw [q1] at y4
    rw [q2] at y3
    by_cases hK0 : 0 < K
    · have hK1 : ¬ (K : Int) = 0 := by omega
      have q6 := q5 hK0
      have hr := HR9.out
      rw [q6] at y8 hr
      obtain ⟨pb, po, xs, rfl, -, hpb, ⟨pa, pc, rfl, -⟩, hcl⟩ := hr.elem 0 (by simp)
      have z0 : w9.cell? ⟨pb, po, none⟩ = some (.int .i64 (T.getD K 0)) := by simpa using hcl 0 _ rfl
      have z1 : w9.cell? ⟨pb, po + 1, none⟩ = some (.int .i64 (4096 * (1 + B))) := by simpa [askPk] using hcl 1 _ rfl
      have z5 : w9.cell? ⟨pb, po + 5, none⟩ = some (.int .i64 2) := by simpa [askPk, jf] using hcl 5 _ rfl
      have hc3 := hr.2.1
      have hc4 := hr.2.2.1
      unfold maxLen at hc4
      obtain ⟨tb, to', rfl, -, htb, hct⟩ := HT9.out.int (by omega)
      have zk : w9.cell? ⟨tb, to' + K, none⟩ = some (.int .i64 (T.getD K 0)) := by
        have hlt : K < T.length := by omega
        have := (hct K hlt).2
        rwa [List.getD_eq_getElem?_getD, List.getElem?_eq_getElem hlt]
      simp only [List.length_cons, List.length_nil] at y8 hc3
      have hcI : (0 : Int) < (c3 : Int) := by omega
      have hcK : (K : Int) < (rc : Int) := by omega
      clear hcl hct hr q6
      go_upto_region 13 with fail
      go_quiet (fail)
      go_wp2_with fail
      go_ret
      all_goals first | exact ⟨rfl, B9.out⟩ | exact ⟨rfl, below_drewN B9.out _⟩ | exact ⟨by simp, B9.out⟩ | trace_state
    · have hK1 : (K : Int) = 0 := by omega
      rw [q4 (by omega)] at y8
      go_wp2_with fail
      go_ret
      all_goals first | exact ⟨rfl, B9.out⟩ | exact ⟨rfl, below_drewN B9.out _⟩ | exact ⟨by simp, B9.out⟩ | trace_state
end Go.Proofs.YtkbfhgcjimfgkaaDoor
