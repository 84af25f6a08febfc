/- The walk of node.Begin at what is not refused. -/
import Derived.Test.YtkbfhgcjimfgkaaDoorFirst
import Derived.Test.YtkbfhgcjimfgkaaDoorNdJoin
import Derived.Test.YtkbfhgcjimfgkaaDoorTurn
import Derived.Test.YtkbfhgcjimfgkaaDoorBeginBad0
set_option linter.unusedVariables false
set_option linter.unusedSimpArgs false
namespace Go.Proofs.YtkbfhgcjimfgkaaDoor
open Go.RowKit

def newSd (p : Int) : Sd := ⟨p, false, ⟨0, 0, []⟩, ⟨0, 1, [], [], 0⟩⟩
def beginN (t : List Int) (me births : Int) (s : Str) : Tn := ⟨⟨me, 4096 * births, 0, me == 0, s, (nbs t me).map newSd, [], []⟩, [], []⟩
def beginT (t : List Int) (me births : Int) (s : Str) : Tn := if 0 < me then (beginN t me births s).join else beginN t me births s
theorem infoSd : (Tryd.prog.info? 72).map (fun i => (i.zero, i.size, i.bytes)) = some (some (.agg #[.int .i64 0, .bool false, .int .i64 0, .int .i64 0, .slice none 0 0, .int .i64 0, .int .i64 0, .slice none 0 0, .slice none 0 0, .int .i64 0]), 10, 128) := by kernel_rfl
theorem RdS.reI {A A' : Nat → Prop} {w : World} {l : List Int} {a : Option Addr} {n c : Nat} (h : RdS A w l a n c) (hA : ∀ b off, a = some ⟨b, off, none⟩ → A' b) : RdS A' w l a n c :=
  ⟨h.1, h.2.1, h.2.2.1, h.2.2.2.1, fun hn => by
    obtain ⟨b, off, e, -, hb, he⟩ := h.2.2.2.2 hn
    exact ⟨b, off, e, hA b off e, hb, he⟩⟩
theorem beginE_zero {t : List Int} {me births : Int} {s : Str} (h : beginE t me births s = 0) : checkTree t = 0 ∧ 0 ≤ me ∧ me < t.length ∧ 1 ≤ births ∧ births ≤ 250 ∧ checkText s = 0 ∧ (0 < me → emptyS s = true) := by
  unfold beginE at h
  by_cases h1 : checkTree t = 0
  · rw [if_neg (by simpa using h1)] at h
    by_cases h2 : me < 0 ∨ (t.length : Int) ≤ me
    · rw [if_pos h2] at h; exact absurd h (by decide)
    · rw [if_neg h2] at h
      by_cases h3 : births < 1 ∨ 250 < births
      · rw [if_pos h3] at h; exact absurd h (by decide)
      · rw [if_neg h3] at h
        by_cases h4 : checkText s = 0
        · rw [if_neg (by simpa using h4)] at h
          by_cases h5 : 0 < me ∧ emptyS s = false
          · rw [if_pos h5] at h; exact absurd h (by decide)
          · refine ⟨h1, by omega, by omega, by omega, by omega, h4, fun hm => ?_⟩
            cases he : emptyS s with
            | true => rfl
            | false => exact absurd ⟨hm, he⟩ h5
        · rw [if_pos h4] at h; exact absurd h h4
  · rw [if_pos h1] at h; exact absurd h h1
/-- a side more -/
theorem WkG.addSide {base g : Nat} {t : Tn} {vs : Nat → Value} {w w' : World} {v' : Value} {y : Sd} (h : WkM base g t vs w) (hg : w.grownBy w' (vs 0).ownBlock) (hv : ∀ k, v'.ownBlock = some k → (vs 0).ownBlock = some k ∨ w.heap.size ≤ k) (hn : OwnO (WX base g vs) base v' (t.node.sides ++ [y]) w') :
    WkM base g { t with node := { t.node with sides := t.node.sides ++ [y] } } (fun q => if q = 0 then v' else vs q) (w'.setCell ⟨g, 5, none⟩ v') ∧ Touch (Mine g vs) w (w'.setCell ⟨g, 5, none⟩ v') ∧ ∀ z, Mine g (fun q => if q = 0 then v' else vs q) z → Mine g vs z ∨ w.heap.size ≤ z := by
  have h1 : WkG base g { t with node := { t.node with sides := t.node.sides ++ [y] } } vs (fun q => if q = 0 then v' else vs q) w' := h.grow (t' := { t with node := { t.node with sides := t.node.sides ++ [y] } }) (j := 0) (by omega) hg hv hn (fun i hi X v W h => by
    match i, hi with
    | 0, hi => exact absurd rfl hi
    | 1, _ => exact h
    | 2, _ => exact h
    | 3, _ => exact h
    | 4, _ => exact h
    | i + 5, _ => trivial) rfl h.fit
  have ht := touch1 (w := w') (g := g) (i := 5) v'
  refine ⟨h1.put ht (h1.box.set 5 v') (fun i X v W h => h) h.fit, ?_, ?_⟩
  · have hg' : Touch (Mine g vs) w w' := ⟨hg.os, hg.tape, hg.output, hg.size, fun k hk hs => hg.block k hk fun e => hs (.inr ⟨0, by omega, e.symm⟩)⟩
    exact hg'.trans (ht.mono fun k _ hk => .inl hk)
  · rintro z (hz | ⟨q, hq, hz⟩)
    · exact .inl (.inl hz)
    · by_cases e : q = 0
      · subst e
        simp only [if_true] at hz
        exact (hv z hz).imp_left fun h => .inr ⟨0, by omega, h⟩
      · simp only [if_neg e] at hz
        exact .inl (.inr ⟨q, hq, hz⟩)
set_option maxRecDepth 100000 in
set_option maxHeartbeats 4000000 in
theorem begin_ok (t : List Int) (a : Option Addr) (n c : Nat) (m : Nat) (births : Int) (s : Str) (w : World) (hg : Good w) (hr : RdS (· < w.heap.size) w t a n c) (hb : I64 births) (hs : s.size ≤ strMax) (hE : beginE t (m : Int) births s = 0) :
    Calls Tryd.prog 12 #[.slice a n c, .int .i64 (m : Int), .int .i64 births, .string s] w (TurnP (beginT t (m : Int) births s) w) := by
  obtain ⟨z1, -, z3, z4, z5, z6, z7⟩ := beginE_zero hE
  have hnl := hr.1
  have hm7 : t.length ≤ 7 := by
    unfold checkTree at z1
    by_cases h : t.length < 1 ∨ 7 < t.length
    · rw [if_pos h] at z1; exact absurd z1 (by decide)
    · omega
  have hmn : m < n := by omega
  have HT := Lib.hid (fun W (hW : Below w.heap.size w W) => checkTree_any (· < W.heap.size) a n c t W (hr.go hW))
  have HC := Lib.hid (fun W (hW : Below w.heap.size w W) => checkText_any s W (hg.go hW) hs)
  have HN := Lib.hid (fun W (hW : Below w.heap.size w W) => nbs_any t a n c m W (hr.go hW) hmn (by omega))
  rw [z1] at HT
  rw [z6] at HC
  have hm1 : ¬ (m : Int) < 0 := by omega
  have hm10 : (m : Int) ≤ 10 := by omega
  have hm2 : ¬ (n : Int) ≤ (m : Int) := by omega
  have hb1 : ¬ births < 1 := by omega
  have hb2 : ¬ 250 < births := by omega
  have hb3 : births ≤ 250 := by omega
  have hb4 : 1 ≤ births := by omega
  have Hg := Lib.hid hg
  have H2 := Lib.hid hg.size
  have Ht7 := Lib.hid hm7
  have Hz7 := Lib.hid z7
  clear z1 z3 z4 z5 z6 z7 hnl hm7 hmn hr hE hg
  go_enter Tryd.func12, Tryd.ntmps12
  go_wp2_with fail
  refine abs_run (fun W => Below w.heap.size w W ∧ Blk w.heap.size (.cells zeroTn 35 (0, 0)) W) ⟨(Below.refl _ _).alloc (Nat.le_refl _) _, Blk.new w _⟩ ?_
  rintro w1 ⟨b1, x1⟩
  have B1 := Lib.hid b1
  have X1 := Lib.hid x1
  have hx1 := x1.lt
  clear b1 x1
  refine (HT.out _ B1.out).mono ?_
  rintro e w1' ⟨rfl, rfl⟩
  go_wp2_with fail
  refine (HC.out _ B1.out).mono ?_
  rintro e w2 ⟨rfl, b2⟩
  have B2 := Lib.hid (up B1.out b2)
  have X2 := Lib.hid (X1.out.go b2)
  have hz12 := b2.size
  clear b2 X1
  go_upto_region 11 with fail
  go_cut [48] from 43 to 47 (fun s48 W => s48 = .bool false ∧ w2 = W)
  case first =>
    by_cases h0 : 0 < m
    · have h0' : (0 : Int) < (m : Int) := by omega
      have hs0 : s.toList.isEmpty = true := Hz7.out h0'
      go_wp2_with fail
      go_meet
      case rel => exact ⟨rfl, rfl⟩
    · have h0' : ¬ (0 : Int) < (m : Int) := by omega
      go_wp2_with fail
      go_meet
      case rel => exact ⟨rfl, rfl⟩
  case rest =>
    obtain ⟨rfl, rfl⟩ := hcut
    go_wp2_with fail
    refine abs_run (fun W => Below w2.heap.size w2 W ∧ Blk w2.heap.size (.cells #[.int .i64 (m : Int), .int .i64 (4096 * births), .int .i64 0, .bool ((m : Int) == 0), .string s, .slice none 0 0, .slice none 0 0, .slice none 0 0, .slice none 0 0, .slice none 0 0] 82 (0, 0)) W) ⟨(Below.refl _ _).alloc (Nat.le_refl _) _, Blk.new w2 _⟩ ?_
    rintro w3 ⟨b3, x3⟩
    have B3 := Lib.hid (up B2.out b3)
    have X3 := Lib.hid (X2.out.go b3)
    have hg3 := x3.lt
    have hz23 := b3.size
    have hw12 : w.heap.size < w1.heap.size := hx1
    have M3 := Lib.hid (WkM.new (base := w1.heap.size) x3 hz12 (by have := H2.out; omega) ⟨by unfold I64; omega, by unfold I64; omega, by unfold I64; omega, hs⟩)
    obtain ⟨g, hgw⟩ : ∃ g, g = w2.heap.size := ⟨_, rfl⟩
    rw [← hgw] at M3 hg3
    have Hgw := Lib.hid hgw
    clear b3 x3 X2 B2 HT HC hgw
    refine (HN.out w3 B3.out).mono ?_
    rintro e w4 ⟨v, rfl, ho, b4⟩
    obtain ⟨na, nc, rfl, hrn⟩ := ho.rdI
    have hrow := ho.rowlt
    have RN : Hid (RdS (NM g (fun _ => .slice none 0 0) w4) w4 (nbs t (m : Int)) na (nbs t (m : Int)).length nc) := hrn.reI fun b off e => ⟨by
        subst e
        exact (hrow b rfl).2, fun h => by
        subst e
        have := (hrow b rfl).1
        rcases h with h | ⟨q, hq, h⟩
        · omega
        · cases h⟩
    have hnm := hrn.2.2.1
    have hnn := hrn.2.1
    have B4 := Lib.hid (up B3.out b4)
    have X4 := Lib.hid (X3.out.go b4)
    have M4 := Lib.hid (M3.out.go b4)
    have hz34 := b4.size
    have hnl : (nbs t (m : Int)).length ≤ 10 := by
      unfold nbs
      have h1 := nbsAhead_len t (m : Int)
      have h2 := kidsTo_len t (m : Int) t.length
      rw [List.length_append]
      have := Ht7.out
      omega
    have HNP := Lib.hid (fun W => node_ptr g W)
    obtain ⟨i0, hi, hy0, hy1, hy2⟩ := info_parts infoSd
    have Hi := Lib.hid hi
    have Hy0 := Lib.hid hy0
    have Hy1 := Lib.hid hy1
    have Hy2 := Lib.hid hy2
    have hbT : Hid (beginN t (m : Int) births s = ⟨⟨(m : Int), 4096 * births, 0, (m : Int) == 0, s, (nbs t (m : Int)).map newSd, [], []⟩, [], []⟩) := rfl
    have hbT2 : Hid (beginT t (m : Int) births s = if 0 < (m : Int) then (beginN t (m : Int) births s).join else beginN t (m : Int) births s) := rfl
    have hnp : 0 < m → 0 < (nbs t (m : Int)).length := fun h => by
      unfold nbs nbsAhead
      rw [if_pos (by omega)]; simp
    have Hnp := Lib.hid hnp
    clear hnp
    generalize nbs t (m : Int) = NB0 at *
    generalize beginN t (m : Int) births s = TN at *
    generalize beginT t (m : Int) births s = TT at *
    have hNL : (NB0.length : Int) ≤ 10 := by omega
    rw [← Hgw.out]
    clear ho hrn hrow b4 B3 X3 M3 HN hi hy0 hy1 hy2
    go_wp2_with fail
    go_loopw [64] (fun vi wr => ∃ k : Nat, k ≤ NB0.length ∧ vi = .int .i64 (k : Int) ∧ WkS w1.heap.size g ⟨⟨(m : Int), 4096 * births, 0, (m : Int) == 0, s, (NB0.take k).map newSd, [], []⟩, [], []⟩ (fun _ => .slice none 0 0) w4 wr) (fun vi _ => NB0.length - (intOf vi).toNat)
    case atStart => exact ⟨0, by omega, rfl, WkM.stay M4.out⟩
    case round =>
      obtain ⟨k, hk, rfl, v1, m1, ht1, hm1⟩ := hrel
      by_cases hlt : k < NB0.length
      · have hlt' : (k : Int) < (NB0.length : Int) := by omega
        have R1 := RN.out.wk ht1 hm1
        obtain ⟨q, o, xs, rfl, hq1, hq2, ⟨rfl, hx64⟩, hq4⟩ := R1.elem k hlt
        have y0 : wr.cell? ⟨q, o + k, none⟩ = some (.int .i64 NB0[k]) := by simpa [Rep.n] using hq4 0 _ rfl
        obtain ⟨-, -, -, -, -, p5, -⟩ := blk10_cells m1.box
        have hgl := m1.lt
        have M1 := Lib.hid m1
        have HS1 := Lib.hid (And.intro ht1 hm1)
        have hnx : (NB0.take (k + 1)).map newSd = (NB0.take k).map newSd ++ [newSd NB0[k]] := by rw [List.take_succ_eq_append_getElem hlt, List.map_append]; rfl
        have Hnx := Lib.hid hnx
        have Hpl : Hid (((NB0.take k).map newSd).length ≤ 10) := by unfold Hid; rw [List.length_map, List.length_take]; omega
        have H64 := Lib.hid hx64
        have hfrz := m1.box.frozen
        have hkc : (k : Int) < (nc : Int) := by omega
        generalize NB0[k] = pr at *
        generalize (NB0.take k).map newSd = SL at *
        have hfit := Lib.hid m1.fit
        obtain ⟨va, vc, hv1⟩ : ∃ va vc, v1 0 = .slice va SL.length vc := by
          have h3 : OwnO (WX w1.heap.size g v1) w1.heap.size (v1 0) SL wr := m1.rows 0 (by omega)
          obtain ⟨a, c, h, -⟩ := h3.form
          exact ⟨a, c, h⟩
        clear m1 ht1 hm1 R1 hq1 hq4 hx64 hnx hv1
        go_wp2_with fail
        refine (HNP.out wr).mono ?_
        rintro e W' ⟨rfl, rfl⟩
        go_wp2_with fail
        refine (HNP.out wr).mono ?_
        rintro e W' ⟨rfl, rfl⟩
        have Hy : Hid (Rep.rd (fun z => z < (wr.alloc (.cells #[.int .i64 pr, .bool false, .int .i64 0, .int .i64 0, .slice none 0 0, .int .i64 0, .int .i64 1, .slice none 0 0, .slice none 0 0, .int .i64 0] 72)).heap.size ∧ ¬ WX w1.heap.size g v1 z ∧ (v1 0).ownBlock ≠ some z) (wr.alloc (.cells #[.int .i64 pr, .bool false, .int .i64 0, .int .i64 0, .slice none 0 0, .int .i64 0, .int .i64 1, .slice none 0 0, .slice none 0 0, .int .i64 0] 72)) (newSd pr) [.int .i64 pr, .bool false, .int .i64 0, .int .i64 0, .slice none 0 0, .int .i64 0, .int .i64 1, .slice none 0 0, .slice none 0 0, .int .i64 0]) :=
          ⟨none, 0, none, 0, none, 0, rfl, RdS.nil _ _, RdS.nil _ _, RdS.nil _ _, H64.out, ⟨by unfold I64; simp [newSd], by unfold I64; simp [newSd]⟩, by unfold I64; simp [newSd], by unfold I64; simp [newSd], by unfold I64; simp [newSd]⟩
        go_wp2_with (at_builtin; refine wpList_append_oneO rfl _ _ _ (by rfl) w1.heap.size 72 i0 _ 128 Tryd.underlying27 Hi.out Hy0.out Hy1.out Hy2.out rfl (v1 0) SL (by rfl) ((M1.out.rows 0 (by omega) : OwnO (WX w1.heap.size g v1) w1.heap.size (v1 0) SL wr).go ((Below.refl _ wr).alloc (Nat.le_refl _) _)) wr.heap.size 1 _ [.int .i64 pr, .bool false, .int .i64 0, .int .i64 0, .slice none 0 0, .int .i64 0, .int .i64 1, .slice none 0 0, .slice none 0 0, .int .i64 0] (newSd pr) (by rfl) (Blk.new wr _) Hy.out (by have := Hpl.out; unfold maxLen; omega) (by have := Hpl.out; omega) (by have := M1.out.gb; simp; omega) ?_)
        intro g2 o2 cap w5 hown hgrow hat hlt5
        have hM2 := M1.out.go ((Below.refl _ wr).alloc (Nat.le_refl _) (.cells #[.int .i64 pr, .bool false, .int .i64 0, .int .i64 0, .slice none 0 0, .int .i64 0, .int .i64 1, .slice none 0 0, .slice none 0 0, .int .i64 0] 72))
        obtain ⟨k1, k2, k3⟩ := WkG.addSide (v' := .slice (some ⟨g2, o2, none⟩) (SL.length + 1) cap) hM2 hgrow (fun k hk => by
          have e : g2 = k := by simpa [Value.ownBlock] using hk
          subst e
          exact hat.imp_right fun h => by simp; omega) hown
        have HW : Hid (WkS w1.heap.size g ⟨⟨(m : Int), 4096 * births, 0, (m : Int) == 0, s, (NB0.take (k + 1)).map newSd, [], []⟩, [], []⟩ (fun _ => .slice none 0 0) w4 (w5.setCell ⟨g, 5, none⟩ (.slice (some ⟨g2, o2, none⟩) (SL.length + 1) cap))) := by
          rw [Hnx.out]
          refine WkS.trans HS1.out.1 HS1.out.2 ⟨_, k1, ?_, fun z hz => ?_⟩
          · exact ((Touch.refl _ _).alloc _).trans k2
          · exact (k3 z hz).imp_right fun h => by simp at h; omega
        have hb5 := (hM2.box.grown hgrow (fun e => hM2.ne 0 (by omega) g e.symm rfl))
        obtain ⟨-, -, -, -, -, p5', -⟩ := blk10_cells hb5
        have hf5 := hb5.frozen
        have hgl5 := hb5.lt
        clear hown hgrow hat hM2 k1 k2 k3 hb5 p5 M1 Hy HS1
        go_wp2_with fail
        go_roundw
        case rel => exact ⟨k + 1, by omega, by push_cast; rfl, HW.out⟩
        case measure => simp [intOf]; omega
      · have hk2 : k = NB0.length := by omega
        have hE : NB0.take k = NB0 := by rw [hk2, List.take_length]
        rw [hE] at m1
        have hlt' : ¬ ((k : Int) < (NB0.length : Int)) := by omega
        have hTN : TN = ⟨⟨(m : Int), 4096 * births, 0, (m : Int) == 0, s, NB0.map newSd, [], []⟩, [], []⟩ := hbT.out
        rw [← hTN] at m1
        have hsl : TN.node.sides.length = NB0.length := by rw [hTN]; show (NB0.map newSd).length = _; rw [List.length_map]
        have hpo : TN.posts.length ≤ 1000000 := by rw [hTN]; simp
        have M1 := Lib.hid m1
        have hpos : 0 < m → 0 < TN.node.sides.length := fun h => by rw [hsl]; exact Hnp.out h
        have Hpos := Lib.hid hpos
        have Hpo := Lib.hid hpo
        have T1 : Hid (Touch (fun z => w1.heap.size ≤ z) w4 wr) := ht1.mono fun z _ hz => (M4.out.mine z hz).1
        have hGr : Good wr := (Hg.out.go B4.out).wk M4.out ht1
        have HGr := Lib.hid hGr
        clear m1 ht1 hm1 hE hsl hpo hpos hTN hGr
        by_cases h0 : 0 < m
        · have h0' : (0 : Int) < (m : Int) := by omega
          have HTT : Hid (TT = TN.join) := by unfold Hid; rw [hbT2.out, if_pos h0']
          go_wp2_with fail
          refine (ndJoin_any w1.heap.size g TN v1 wr HGr.out M1.out (Hpos.out h0) Hpo.out).mono ?_
          rintro e w6 ⟨rfl, v6, m6, ht6, hm6⟩
          rw [← HTT.out] at m6
          have hT6 : Touch (fun z => w1.heap.size ≤ z) w4 w6 := T1.out.trans (ht6.mono fun z _ hz => (M1.out.mine z hz).1)
          obtain ⟨a0, c0, a1, c1, a2, c2, a3, c3, a4, c4, e1, e2, e3, e4⟩ := turn_out m6 (X4.out.touch hT6 (by omega)) hw12 (Nat.le_refl _) (B4.out.trans (hT6.toBelow (by have := B4.out.size; omega) (fun z hz => by omega)))
          obtain ⟨p0, p1, p2, p3, p4, p5, p6, p7, p8, p9⟩ := blk10_cells (X4.out.touch hT6 (by omega))
          have pf := (X4.out.touch hT6 (by omega)).frozen
          have hz := (X4.out.touch hT6 (by omega)).lt
          obtain ⟨q0, q1, q2, q3, q4, q5, q6, q7, q8, q9⟩ := blk10_cells e1
          have G := Lib.hid (And.intro e2 (And.intro e3 e4))
          clear m6 ht6 hm6 hT6 e1 e2 e3 e4 HTT
          go_wp2_with fail
          refine abs_ret (fun W => Blk w.heap.size (.cells #[.int .i64 TT.node.me, .int .i64 TT.node.epoch, .int .i64 TT.node.up, .bool TT.node.ready, .string TT.node.text, .slice a0 TT.node.sides.length c0, .slice a1 TT.node.undo.length c1, .slice a2 TT.node.marks.length c2, .slice a3 TT.posts.length c3, .slice a4 TT.recs.length c4] 35 (0, 0)) W ∧ TnVal (Fresh w.heap.size W) TT (.agg #[.int .i64 TT.node.me, .int .i64 TT.node.epoch, .int .i64 TT.node.up, .bool TT.node.ready, .string TT.node.text, .slice a0 TT.node.sides.length c0, .slice a1 TT.node.undo.length c1, .slice a2 TT.node.marks.length c2, .slice a3 TT.posts.length c3, .slice a4 TT.recs.length c4]) W ∧ Below w.heap.size w W) G.out ?_
          rintro W ⟨y1, y2, y3⟩
          obtain ⟨k0, k1, k2, k3, k4, k5, k6, k7, k8, k9⟩ := blk10_cells y1
          exact bodyPost_ret (v := .tuple #[.agg #[.int .i64 TT.node.me, .int .i64 TT.node.epoch, .int .i64 TT.node.up, .bool TT.node.ready, .string TT.node.text, .slice a0 TT.node.sides.length c0, .slice a1 TT.node.undo.length c1, .slice a2 TT.node.marks.length c2, .slice a3 TT.posts.length c3, .slice a4 TT.recs.length c4], .int .i64 0]) (by simp [results, Tryd.results12, go_sem, k0, k1, k2, k3, k4, k5, k6, k7, k8, k9]) rfl ⟨_, rfl, y2, y3⟩
        · have h0' : ¬ (0 : Int) < (m : Int) := by omega
          have hTT : TT = TN := by rw [hbT2.out, if_neg h0']
          have m6 := M1.out
          rw [← hTT] at m6
          have hT6 := T1.out
          obtain ⟨a0, c0, a1, c1, a2, c2, a3, c3, a4, c4, e1, e2, e3, e4⟩ := turn_out m6 (X4.out.touch hT6 (by omega)) hw12 (Nat.le_refl _) (B4.out.trans (hT6.toBelow (by have := B4.out.size; omega) (fun z hz => by omega)))
          obtain ⟨p0, p1, p2, p3, p4, p5, p6, p7, p8, p9⟩ := blk10_cells (X4.out.touch hT6 (by omega))
          have pf := (X4.out.touch hT6 (by omega)).frozen
          have hz := (X4.out.touch hT6 (by omega)).lt
          obtain ⟨q0, q1, q2, q3, q4, q5, q6, q7, q8, q9⟩ := blk10_cells e1
          have G := Lib.hid (And.intro e2 (And.intro e3 e4))
          clear m6 hT6 e1 e2 e3 e4 hTT
          go_wp2_with fail
          refine abs_ret (fun W => Blk w.heap.size (.cells #[.int .i64 TT.node.me, .int .i64 TT.node.epoch, .int .i64 TT.node.up, .bool TT.node.ready, .string TT.node.text, .slice a0 TT.node.sides.length c0, .slice a1 TT.node.undo.length c1, .slice a2 TT.node.marks.length c2, .slice a3 TT.posts.length c3, .slice a4 TT.recs.length c4] 35 (0, 0)) W ∧ TnVal (Fresh w.heap.size W) TT (.agg #[.int .i64 TT.node.me, .int .i64 TT.node.epoch, .int .i64 TT.node.up, .bool TT.node.ready, .string TT.node.text, .slice a0 TT.node.sides.length c0, .slice a1 TT.node.undo.length c1, .slice a2 TT.node.marks.length c2, .slice a3 TT.posts.length c3, .slice a4 TT.recs.length c4]) W ∧ Below w.heap.size w W) G.out ?_
          rintro W ⟨y1, y2, y3⟩
          obtain ⟨k0, k1, k2, k3, k4, k5, k6, k7, k8, k9⟩ := blk10_cells y1
          exact bodyPost_ret (v := .tuple #[.agg #[.int .i64 TT.node.me, .int .i64 TT.node.epoch, .int .i64 TT.node.up, .bool TT.node.ready, .string TT.node.text, .slice a0 TT.node.sides.length c0, .slice a1 TT.node.undo.length c1, .slice a2 TT.node.marks.length c2, .slice a3 TT.posts.length c3, .slice a4 TT.recs.length c4], .int .i64 0]) (by simp [results, Tryd.results12, go_sem, k0, k1, k2, k3, k4, k5, k6, k7, k8, k9]) rfl ⟨_, rfl, y2, y3⟩
end Go.Proofs.YtkbfhgcjimfgkaaDoor
