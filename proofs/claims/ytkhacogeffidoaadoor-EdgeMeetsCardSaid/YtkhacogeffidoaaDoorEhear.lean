/- The walk of edge.Hear (printed by gen_ehear.py). -/
import Derived.Test.YtkhacogeffidoaaDoorEhP
import Derived.Test.YtkhacogeffidoaaDoorSend
import Derived.Deep.Cut
import Derived.Deep.CutRange
set_option linter.unusedVariables false
set_option linter.unusedSimpArgs false
namespace Go.Proofs.YtkhacogeffidoaaDoor
open Go.RowKit

theorem blk3_cells {w : World} {g T : Nat} {c0 c1 c2 : Value} (h : Blk g (.cells #[c0, c1, c2] T (0, 0)) w) : w.cell? ⟨g, 0, none⟩ = some c0 ∧ w.cell? ⟨g, 1, none⟩ = some c1 ∧ w.cell? ⟨g, 2, none⟩ = some c2 := ⟨h.cell 0, h.cell 1, h.cell 2⟩
/-- the end of all ways that refuse -/
theorem eh_end {w W : World} {g : Nat} (hB : Blk g (.cells #[.int .i64 0, .int .i64 0, .slice none 0 0] 71 (0, 0)) W) (hW : Below w.heap.size w W) (hg : w.heap.size ≤ g) (v0 v1 v2 : Value) :
    Blk g (.cells #[v0, v1, v2] 71 (0, 0)) (((W.setCell ⟨g, 0, none⟩ v0).setCell ⟨g, 1, none⟩ v1).setCell ⟨g, 2, none⟩ v2) ∧ Below w.heap.size w (((W.setCell ⟨g, 0, none⟩ v0).setCell ⟨g, 1, none⟩ v1).setCell ⟨g, 2, none⟩ v2) :=
  ⟨hB.set3 _ _ _, hW.trans ((touch3 (g := g) (w := W) v0 v1 v2).toBelow hW.size (fun k hk => by have : k = g := hk; omega))⟩
theorem foldE_cons {u : Bool} {p : Op} {ps : List Op} {o : Op} (h : stepE u p o = 0) : foldE u (p :: ps) o = foldE u ps (stepO u p o) := by simp [foldE, h]
theorem foldE_bad {u : Bool} {p : Op} {ps : List Op} {o : Op} (h : stepE u p o ≠ 0) : foldE u (p :: ps) o = stepE u p o := by simp [foldE, h]
set_option maxRecDepth 100000 in
set_option maxHeartbeats 16000000 in
theorem eh_main (s h : Int) (l : List Op) (o : Op) (k : Int) (u : Bool) (a ao : Option Addr) (n c no co : Nat) (w : World) (hg : Good w) (hr : RdS (· < w.heap.size) w l a n c) (hro : RdS (· < w.heap.size) w o ao no co) (hs : I64 s) (hh : I64 h) (hE : ehE0 s h l o k = 0) :
    Calls Tryd.prog 32 #[.agg #[.int .i64 s, .int .i64 h, .slice a n c], .slice ao no co, .int .i64 k, .bool u] w (EhP s h l o k u w) := by
  obtain ⟨e1, e2, e3, e4, e5⟩ := ehE0_zero hE
  obtain ⟨s0, s1, h0, h1, hls, hall⟩ := edgeCheck_all e1
  have hEE : ehE s h l o k u = foldE u (ehD s l k) o := by unfold ehE; rw [hE]; simp
  have hnl := hr.1
  obtain ⟨kk, hkk⟩ : ∃ kk : Nat, k - (s - (n : Int)) = (kk : Int) := ⟨(k - (s - (n : Int))).toNat, by omega⟩
  have hkn : kk ≤ n := by omega
  have hD : ehD s l k = l.drop kk := by unfold ehD; congr 1; omega
  have HEnd : Hid (EhP s h l o k u w = fun e w' => (foldE u (l.drop kk) o = 0 → ∃ a c b d, e = .returned (.tuple #[.agg #[.int .i64 s, .int .i64 (h + 1), .slice a (foldL u (l.drop kk) o).length c], .slice b (foldO u (l.drop kk) o).length d, .int .i64 0]) ∧
    RdS (fun z => w.heap.size ≤ z ∧ z < w'.heap.size) w' (foldL u (l.drop kk) o) a (foldL u (l.drop kk) o).length c ∧ RdS (fun z => w.heap.size ≤ z ∧ z < w'.heap.size) w' (foldO u (l.drop kk) o) b (foldO u (l.drop kk) o).length d ∧ Below w.heap.size w w') ∧
  (foldE u (l.drop kk) o ≠ 0 → e = .returned (.tuple #[.agg #[.int .i64 0, .int .i64 0, .slice none 0 0], .slice none 0 0, .int .i64 (foldE u (l.drop kk) o)]) ∧ Below w.heap.size w w')) := by
    unfold Hid; funext e w'; unfold EhP; rw [hEE, hD]
  have hDl : (l.drop kk).length = n - kk := by rw [List.length_drop]; omega
  have HC := Lib.hid (fun W hg hr => edge_any s h l a n c W hg hr hs hh)
  rw [e1] at HC
  have HK := Lib.hid (fun W hg hr => check_go o ao no co W hg hr)
  rw [e2] at HK
  have HW := Lib.hid (fun W hr => own_any s h l a n c W hr (fun o ho => by have := (check_zero (hall o ho)).1; omega) (by omega))
  have hno := hro.1
  subst hno
  have hlo : o.length ≤ 1000000000 := by have := (check_zero e2).1; omega
  have Hcl0 := Lib.hid (fun W hr => clone_any o ao o.length co W hr hlo)
  have Hr := Lib.hid hr
  have Hro := Lib.hid hro
  have Hg := Lib.hid hg
  have HDl := Lib.hid hDl
  have HTr := Lib.hid (fun p q a b c d W hg h1 h2 => transform_tot p q a b p.length c q.length d W hg h1 h2)
  have hh4 : (h == 1048576) = false := by simpa using e5
  have hlk : ¬ k < s - (n : Int) := by omega
  have hns : (n : Int) ≤ s := by omega
  have hks : ¬ s < k := by omega
  have hnc : n ≤ c := hr.2.1
  obtain ⟨DD, hDD⟩ : ∃ DD, DD = l.drop kk := ⟨_, rfl⟩
  generalize EhP s h l o k u w = POST at *
  have H64 := Lib.hid (And.intro s0 (And.intro s1 (And.intro h0 h1)))
  have HOwn : Hid (∀ base v W, Own (fun z => z < base) base 28 v l W → OwnO (fun z => z < base) base v l W) := fun base v W h => OwnO.of h
  have Hl := Lib.hid hnl
  have HDD := Lib.hid hDD
  clear hE hEE e1 e2 hall hr hro hs hh hls hD hDl hlo hg hnl
  go_enter Tryd.func32, Tryd.ntmps32
  go_wp2_with fail
  refine abs_run (fun W => Below w.heap.size w W ∧ Blk w.heap.size (.cells #[.int .i64 s, .int .i64 h, .slice a n c] 71 (0, 0)) W ∧ Blk (w.heap.size + 1) (.cells #[.int .i64 0, .int .i64 0, .slice none 0 0] 71 (0, 0)) W)
    ⟨by (repeat (first | exact Below.refl _ _ | assumption | (refine Below.drew ?_) | (refine below_drewN ?_ _) | (refine Below.alloc ?_ (by first | (simp; done) | (simp; omega) | omega) _) | (refine Below.setCell ?_ (by first | (simp; done) | (simp; omega) | omega) _) | (refine Below.trans ?_ (Below.mono (by assumption) (by first | (simp; done) | (simp; omega) | omega))))), (Blk.new _ _).alloc _, Blk.at _ _ _ (by simp)⟩ ?_
  rintro w1 ⟨b1, x1, y1⟩
  refine (HC.out _ (Hg.out.go b1) (Hr.out.go b1)).mono ?_
  rintro e w2 ⟨rfl, b2⟩
  have B2 := Lib.hid (up b1 b2)
  have X2 := Lib.hid (x1.go b2)
  have Y2 := Lib.hid (y1.go b2)
  clear b1 x1 y1 b2 HC
  go_wp2_with fail
  refine (HK.out _ (Hg.out.go B2.out) (Hro.out.go B2.out)).mono ?_
  rintro e w3 ⟨rfl, b3⟩
  have B3 := Lib.hid (up B2.out b3)
  have X3 := Lib.hid (X2.out.go b3)
  have Y3 := Lib.hid (Y2.out.go b3)
  clear b3 X2 Y2 B2 HK
  obtain ⟨q0, q1, q2⟩ := blk3_cells X3.out
  go_wp2_with fail
  refine (HW.out _ (Hr.out.go B3.out)).mono ?_
  rintro e w4 ⟨v, rfl, hown, b4⟩
  have B4 := Lib.hid (up B3.out b4)
  have Y4 := Lib.hid (Y3.out.go b4)
  have hz3 := Y3.out.lt
  have hz34 := b4.size
  have HO4 := Lib.hid (HOwn.out _ _ _ hown)
  clear b4 hown X3 Y3 B3 HW q0 q1 q2 HOwn
  obtain ⟨av, cv, rfl, hncv, hcm, hav⟩ := HO4.out.form
  have hln : l.length = n := Hl.out.symm
  rw [hln] at hncv HO4 ⊢
  clear hln
  go_upto_region 14 with fail
  have hOb : ∀ z, (Value.slice av n cv).ownBlock = some z → z < w4.heap.size := fun z hz => (HO4.out.rowlt z hz).2
  refine abs_w (fun W => Below w4.heap.size w4 W ∧ Blk w4.heap.size (.cells #[.int .i64 s, .int .i64 (h + 1), .slice av n cv] 71 (0, 0)) W) ⟨by (repeat (first | exact Below.refl _ _ | assumption | (refine Below.drew ?_) | (refine below_drewN ?_ _) | (refine Below.alloc ?_ (by first | (simp; done) | (simp; omega) | omega) _) | (refine Below.setCell ?_ (by first | (simp; done) | (simp; omega) | omega) _) | (refine Below.trans ?_ (Below.mono (by assumption) (by first | (simp; done) | (simp; omega) | omega))))), Blk.new w4 _⟩ ?_
  rintro w5 ⟨b5, z5⟩
  have B5 := Lib.hid (up B4.out b5)
  have Y5 := Lib.hid (Y4.out.go b5)
  have Z5 := Lib.hid z5
  have HO5 : Hid (OwnO (fun z => z < w3.heap.size ∨ z = w4.heap.size) w3.heap.size (.slice av n cv) l w5) := (HO4.out.more (X' := fun z => z < w3.heap.size ∨ z = w4.heap.size) (fun z hz h => by rcases h with h | h <;> omega)).go b5
  have hOne : Hid (∀ z, (Value.slice av n cv).ownBlock = some z → z ≠ w4.heap.size) := fun z hz e => by have := hOb z hz; omega
  have hz45 := z5.lt
  clear b5 z5 Y4 B4 HO4 hOb
  obtain ⟨S1, HS1⟩ : ∃ S1 : World → Prop, Hid (S1 = fun W => ∃ a' n' c', Blk w4.heap.size (.cells #[.int .i64 s, .int .i64 (h + 1), .slice a' n' c'] 71 (0, 0)) W ∧ n' = n - kk ∧ OwnO (fun z => z < w3.heap.size ∨ z = w4.heap.size) w3.heap.size (.slice a' n' c') DD W ∧ (∀ z, (Value.slice a' n' c').ownBlock = some z → z ≠ w4.heap.size) ∧ Blk (w.heap.size + 1) (.cells #[.int .i64 0, .int .i64 0, .slice none 0 0] 71 (0, 0)) W ∧ Below w.heap.size w W) := ⟨_, rfl⟩
  have Hmk : Hid (∀ a' n' c', n' = n - kk → OwnO (fun z => z < w3.heap.size ∨ z = w4.heap.size) w3.heap.size (.slice a' n' c') DD w5 → (Value.slice a' n' c').ownBlock = (Value.slice av n cv).ownBlock → S1 (w5.setCell ⟨w4.heap.size, 2, none⟩ (.slice a' n' c'))) := by
    intro a' n' c' hn' hO hb
    rw [HS1.out]
    have t := touch1 (w := w5) (g := w4.heap.size) (i := 2) (.slice a' n' c')
    have bz := B5.out.size
    exact ⟨a', n', c', Z5.out.set 2 _, hn', hO.touch t (fun k _ hs => ⟨.inr hs, fun e => hOne.out k (by rw [← hb]; exact e) hs⟩), fun z hz => hOne.out z (by rw [← hb]; exact hz), Y5.out.touch t (by omega), B5.out.trans (t.toBelow bz (fun z hz => by omega))⟩
  obtain ⟨q0, q1, q2⟩ := blk3_cells Z5.out
  have qf := Z5.out.frozen
  have hI : k - (s - (n : Int)) = (kk : Int) := hkk
  have hh2 : h + 1 ≤ 1048576 := by omega
  go_cut [] from 56 to 62 (fun W => S1 W)
  case first =>
    have hrow := HO5.out.row
    rcases hrow with ⟨a', hv, hl0, -⟩ | ⟨g, off, cap, hv, -, -, hcap, -⟩
    · injection hv with e1 e2 e3
      subst e1 e3
      have hk0 : kk = 0 := by omega
      have hal : Option.map (fun x : Addr => x.add 0) av = av := by cases av <;> simp [Addr.add]
      have G := Lib.hid (Hmk.out av 0 0 (by omega) (by rw [HDD.out, hk0]; rw [e2] at HO5; exact HO5.out) (by cases av <;> rfl))
      clear Hmk HO5 hOne hkk e2
      subst hk0
      have hn00 : (0 : Int) ≤ (n : Int) := by omega
      go_wp2_with fail
      go_meet
      case rel => exact G.out
    · injection hv with e1 e2 e3
      subst e1 e3
      rw [← e2] at hcap
      clear e2
      have hkI : (kk : Int) ≤ (n : Int) := by omega
      by_cases hkc : kk < cv
      · have hcI : (n : Int) ≤ (cv : Int) := by omega
        have e6 : off + kk * Rep.n Op = off + kk := by show off + kk * 1 = off + kk; omega
        have G := Lib.hid (Hmk.out (some ⟨g, off + kk, none⟩) (n - kk) (cv - kk) rfl (by rw [HDD.out]; have := HO5.out.drop_in hkn hkc; rwa [e6] at this) rfl)
        clear Hmk HO5 hOne
        go_wp2_with fail
        go_meet
        case rel => exact G.out
      · have hk0 : kk = n := by omega
        have hc0 : cv = n := by omega
        have G := Lib.hid (Hmk.out (some ⟨g, off, none⟩) 0 0 (by omega) (by rw [HDD.out]; exact HO5.out.drop_all hk0) rfl)
        clear Hmk HO5 hOne
        go_wp2_with fail
        go_meet
        case rel => exact G.out
  case rest =>
    rw [HS1.out] at hcut
    obtain ⟨a6, n6, c6, z6, hn6, o6, ne6, y6, b6⟩ := hcut
    obtain ⟨w6, rfl⟩ : ∃ x : World, x = wc := ⟨_, rfl⟩
    have B6 := Lib.hid b6
    have Y6 := Lib.hid y6
    have Z6 := Lib.hid z6
    have O6 := Lib.hid o6
    have N6 := Lib.hid ne6
    have hz6 := z6.lt
    have hn6b : n6 ≤ 1048576 := by omega
    have Hn6 := Lib.hid hn6
    clear hn6 b6 y6 z6 o6 ne6 HS1 Hmk HO5 Y5 Z5 B5 hOne q0 q1 q2 qf
    go_wp2_with fail
    refine (Hcl0.out _ (Hro.out.go B6.out)).mono ?_
    rintro e w7 ⟨a7, c7, rfl, r7, b7⟩
    have B7 := Lib.hid (up B6.out b7)
    have Y7 := Lib.hid (Y6.out.go b7)
    have Z7 := Lib.hid (Z6.out.go b7)
    have O7 := Lib.hid (O6.out.go b7)
    have hz67 := b7.size
    have R7 : Hid (RdS (fun z => w3.heap.size ≤ z ∧ z < w7.heap.size ∧ z ≠ w4.heap.size ∧ (Value.slice a6 n6 c6).ownBlock ≠ some z) w7 o a7 o.length c7) := r7.mono fun z hz => ⟨⟨by omega, hz.2, by omega, fun e => by have := (O6.out.rowlt z e).2; omega⟩, rfl⟩
    clear b7 r7 B6 Y6 Z6 O6 Hcl0
    obtain ⟨q0, q1, q2⟩ := blk3_cells Z7.out
    go_wp2_with fail
    go_loopw [1, 68] (fun vo vi wr => ∃ (i : Nat) (dn : List Op) (oc : Op) (ac : Option Addr) (cc : Nat), i ≤ n6 ∧ vi = .int .i64 i ∧ vo = .slice ac oc.length cc ∧ dn.length = i ∧ foldE u DD o = foldE u (DD.drop i) oc ∧ foldL u DD o = dn ++ foldL u (DD.drop i) oc ∧ foldO u DD o = foldO u (DD.drop i) oc ∧
      Below w.heap.size w wr ∧ Blk (w.heap.size + 1) (.cells #[.int .i64 0, .int .i64 0, .slice none 0 0] 71 (0, 0)) wr ∧ Blk w4.heap.size (.cells #[.int .i64 s, .int .i64 (h + 1), .slice a6 n6 c6] 71 (0, 0)) wr ∧ OwnO (fun z => z < w3.heap.size ∨ z = w4.heap.size) w3.heap.size (.slice a6 n6 c6) (dn ++ DD.drop i) wr ∧
      RdS (fun z => w3.heap.size ≤ z ∧ z < wr.heap.size ∧ z ≠ w4.heap.size ∧ (Value.slice a6 n6 c6).ownBlock ≠ some z) wr oc ac oc.length cc) (fun _ i _ => n6 - (intOf i).toNat)
    case atStart => exact ⟨0, [], o, a7, c7, by omega, rfl, rfl, rfl, by simp, by simp, by simp, B7.out, Y7.out, Z7.out, by simpa using O7.out, R7.out⟩
    case round =>
      obtain ⟨i, dn, oc, ac, cc, hi, rfl, rfl, hdn, f1, f2, f3, b8, y8, z8, o8, r8⟩ := hrel
      clear B7 Y7 Z7 O7 R7 q0 q1 q2
      have B8 := Lib.hid b8
      have Y8 := Lib.hid y8
      have Z8 := Lib.hid z8
      have O8 := Lib.hid o8
      have R8 := Lib.hid r8
      have F8 := Lib.hid (And.intro f1 (And.intro f2 f3))
      clear b8 y8 z8 o8 r8 f1 f2 f3
      have hDl : DD.length = n6 := by rw [HDD.out, HDl.out, Hn6.out]
      by_cases hlt : i < n6
      · have hiD : i < DD.length := by omega
        have hdr := Lib.hid (List.drop_eq_getElem_cons hiD)
        obtain ⟨pa, pn, hpv, hprd⟩ := O8.out.rd (A := fun z => w3.heap.size ≤ z ∧ z < wr.heap.size ∧ z ≠ w4.heap.size) (fun b hb hx => ⟨by omega, hb, fun e => hx (.inr e)⟩) (fun z hz => ⟨(O8.out.rowlt z hz).1, (O8.out.rowlt z hz).2, N6.out z hz⟩)
        injection hpv with g1 g2 g3
        subst g1 g3
        have hll : (dn ++ DD.drop i).length = n6 := by rw [List.length_append, List.length_drop]; omega
        rw [hll] at hprd
        obtain ⟨g, off, rfl, hAg, hgz, hcs⟩ := hprd.row (by omega)
        obtain ⟨pa', pn', pc', hpr, hpc⟩ := hcs i (by omega)
        have hgi : (dn ++ DD.drop i)[i]'(by omega) = DD[i] := by
          rw [List.getElem_append_right (by omega)]
          simp [hdn]
        rw [hgi] at hpr
        have hpn := hpr.1
        subst hpn
        generalize hpp : DD[i] = p at *
        have HPR := Lib.hid hpr
        have hzz := Z8.out.lt
        have hw3 : w.heap.size ≤ w3.heap.size := by omega
        clear hcs hprd hpr hgi g2
        have GD := Lib.hid (Hg.out.go B8.out)
        have hZ3 := Y8.out.lt
        have hx0 := Z8.out.frozen
        cases u with
        | true =>
          go_wp2_with fail
          refine (HTr.out p oc pa' ac pc' cc _ GD.out (HPR.out.wide fun z hz => hz.2.1) (R8.out.wide fun z hz => hz.2.1)).mono ?_
          rintro e w9 ⟨a1, c1, a2, c2, rfl, hA, hB, b9⟩
          have B9 := Lib.hid (up B8.out b9)
          have Y9 := Lib.hid (Y8.out.go b9)
          have Z9 := Lib.hid (Z8.out.go b9)
          have O9 := Lib.hid (O8.out.go b9)
          have hz9 := b9.size
          have RA := Lib.hid hA
          have RB := Lib.hid hB
          clear b9 hA hB B8 Y8 Z8 O8 R8 HPR GD
          have hsE : stepE true p oc = trE p oc := rfl
          by_cases hE : trE p oc = 0
          · have F9 : foldE true DD o = foldE true (DD.drop (i + 1)) (trB p oc) ∧ foldL true DD o = (dn ++ [trA p oc]) ++ foldL true (DD.drop (i + 1)) (trB p oc) ∧ foldO true DD o = foldO true (DD.drop (i + 1)) (trB p oc) := by
              obtain ⟨f1, f2, f3⟩ := F8.out
              rw [f1, f2, f3, hdr.out]
              refine ⟨foldE_cons (hsE.trans hE), ?_, rfl⟩
              simp [foldL, stepP, stepO]
            have FF := Lib.hid F9
            have hset : (dn ++ DD.drop i).set i (trA p oc) = (dn ++ [trA p oc]) ++ DD.drop (i + 1) := by
              rw [hdr.out, List.set_append_right _ _ (by omega), hdn, Nat.sub_self]
              simp
            have Hset := Lib.hid hset
            rw [hE] at *
            clear F9 hset hE hsE F8 hdr
            generalize trA p oc = pA at *
            generalize trB p oc = oB at *
            obtain ⟨q0, q1, q2⟩ := blk3_cells Z9.out
            have hff : w9.frozen? ⟨g, off + i, none⟩ = false := by
              rcases O9.out.row with ⟨a', hv, hl0, -⟩ | ⟨g', off', cap, hv, -, -, hcap, -, h5, -⟩
              · injection hv with _ e2 _
                omega
              · injection hv with e1 e2 e3
                injection e1 with e1
                injection e1 with e4 e5
                subst e4 e5
                exact (h5 i (by show i < cap * 1; omega)).2
            have hcc : (w9.cell? ⟨g, off + i, none⟩).isSome = true := by
              rcases O9.out.row with ⟨a', hv, hl0, -⟩ | ⟨g', off', cap, hv, -, -, hcap, -, h5, -⟩
              · injection hv with _ e2 _
                omega
              · injection hv with e1 e2 e3
                injection e1 with e1
                injection e1 with e4 e5
                subst e4 e5
                exact (h5 i (by show i < cap * 1; omega)).1
            obtain ⟨vc, hvc⟩ := Option.isSome_iff_exists.1 hcc
            have hgne : g ≠ w4.heap.size := N6.out g rfl
            have hg3 := (O9.out.rowlt g rfl).1
            have hg9 : g < w9.heap.size := (O9.out.rowlt g rfl).2
            go_wp2_with fail
            case roundEnd =>
              have hT := touch1 (w := w9) (g := g) (i := off + i) (.slice a1 pA.length c1)
              have hO := O9.out.set i (by omega) pA a1 pA.length c1 (RA.out.mono fun z hz => ⟨⟨hz.2, fun h => by rcases h with h | h <;> omega, by omega⟩, rfl⟩)
              rw [Hset.out] at hO
              have hzT := hT.size
              generalize w9.setCell ⟨g, off + i, none⟩ (.slice a1 pA.length c1) = WS at *
              have bz := B9.out.size
              refine ⟨⟨i + 1, dn ++ [pA], oB, _, _, by omega, by push_cast; rfl, rfl, by simp [hdn], FF.out.1, FF.out.2.1, FF.out.2.2, B9.out.trans (hT.toBelow bz (fun z hz => by omega)), Y9.out.touch hT (by omega), Z9.out.touch hT (fun e => hgne e.symm), hO, RB.out.mono fun z hz => ⟨⟨by omega, by omega, by omega, fun e => by
                have e' : g = z := by simpa [Value.ownBlock] using e
                omega⟩, hT.block z hz.2 (by omega)⟩⟩, ?_⟩
              simp [intOf]
              omega
          · have hEE : foldE true DD o = trE p oc := by
              rw [F8.out.1, hdr.out]
              exact foldE_bad (fun h => hE (hsE.symm.trans h))
            have hb : (trE p oc == 0) = false := by simpa using hE
            obtain ⟨j0, j1, j2⟩ := blk3_cells Y9.out
            have jf := Y9.out.frozen
            have hy9 := Y9.out.lt
            have GE := Lib.hid (eh_end Y9.out B9.out (by omega) (.int .i64 0) (.int .i64 0) (.slice none 0 0))
            have HE := Lib.hid (And.intro hEE hE)
            clear hEE hE hsE F8 hdr O9 RA RB
            generalize trE p oc = er at *
            go_wp2_with fail
            refine abs_ret (fun W => Blk (w.heap.size + 1) (.cells #[.int .i64 0, .int .i64 0, .slice none 0 0] 71 (0, 0)) W ∧ Below w.heap.size w W) GE.out ?_
            rintro W ⟨hB, hW⟩
            obtain ⟨k0, k1, k2⟩ := blk3_cells hB
            refine bodyPost_ret (v := .tuple #[.agg #[.int .i64 0, .int .i64 0, .slice none 0 0], .slice none 0 0, .int .i64 er]) (by simp [results, Tryd.results32, go_sem, k0, k1, k2]) rfl ?_
            rw [HEnd.out, ← HDD.out, HE.out.1]
            exact ⟨fun h => absurd h HE.out.2, fun _ => ⟨rfl, hW⟩⟩
        | false =>
          go_wp2_with fail
          refine (HTr.out oc p ac pa' cc pc' _ GD.out (R8.out.wide fun z hz => hz.2.1) (HPR.out.wide fun z hz => hz.2.1)).mono ?_
          rintro e w9 ⟨a1, c1, a2, c2, rfl, hA, hB, b9⟩
          have B9 := Lib.hid (up B8.out b9)
          have Y9 := Lib.hid (Y8.out.go b9)
          have Z9 := Lib.hid (Z8.out.go b9)
          have O9 := Lib.hid (O8.out.go b9)
          have hz9 := b9.size
          have RA := Lib.hid hB
          have RB := Lib.hid hA
          clear b9 hA hB B8 Y8 Z8 O8 R8 HPR GD
          have hsE : stepE false p oc = trE oc p := rfl
          by_cases hE : trE oc p = 0
          · have F9 : foldE false DD o = foldE false (DD.drop (i + 1)) (trA oc p) ∧ foldL false DD o = (dn ++ [trB oc p]) ++ foldL false (DD.drop (i + 1)) (trA oc p) ∧ foldO false DD o = foldO false (DD.drop (i + 1)) (trA oc p) := by
              obtain ⟨f1, f2, f3⟩ := F8.out
              rw [f1, f2, f3, hdr.out]
              refine ⟨foldE_cons (hsE.trans hE), ?_, rfl⟩
              simp [foldL, stepP, stepO]
            have FF := Lib.hid F9
            have hset : (dn ++ DD.drop i).set i (trB oc p) = (dn ++ [trB oc p]) ++ DD.drop (i + 1) := by
              rw [hdr.out, List.set_append_right _ _ (by omega), hdn, Nat.sub_self]
              simp
            have Hset := Lib.hid hset
            rw [hE] at *
            clear F9 hset hE hsE F8 hdr
            generalize trB oc p = pA at *
            generalize trA oc p = oB at *
            obtain ⟨q0, q1, q2⟩ := blk3_cells Z9.out
            have hff : w9.frozen? ⟨g, off + i, none⟩ = false := by
              rcases O9.out.row with ⟨a', hv, hl0, -⟩ | ⟨g', off', cap, hv, -, -, hcap, -, h5, -⟩
              · injection hv with _ e2 _
                omega
              · injection hv with e1 e2 e3
                injection e1 with e1
                injection e1 with e4 e5
                subst e4 e5
                exact (h5 i (by show i < cap * 1; omega)).2
            have hcc : (w9.cell? ⟨g, off + i, none⟩).isSome = true := by
              rcases O9.out.row with ⟨a', hv, hl0, -⟩ | ⟨g', off', cap, hv, -, -, hcap, -, h5, -⟩
              · injection hv with _ e2 _
                omega
              · injection hv with e1 e2 e3
                injection e1 with e1
                injection e1 with e4 e5
                subst e4 e5
                exact (h5 i (by show i < cap * 1; omega)).1
            obtain ⟨vc, hvc⟩ := Option.isSome_iff_exists.1 hcc
            have hgne : g ≠ w4.heap.size := N6.out g rfl
            have hg3 := (O9.out.rowlt g rfl).1
            have hg9 : g < w9.heap.size := (O9.out.rowlt g rfl).2
            go_wp2_with fail
            case roundEnd =>
              have hT := touch1 (w := w9) (g := g) (i := off + i) (.slice a2 pA.length c2)
              have hO := O9.out.set i (by omega) pA a2 pA.length c2 (RA.out.mono fun z hz => ⟨⟨hz.2, fun h => by rcases h with h | h <;> omega, by omega⟩, rfl⟩)
              rw [Hset.out] at hO
              have hzT := hT.size
              generalize w9.setCell ⟨g, off + i, none⟩ (.slice a2 pA.length c2) = WS at *
              have bz := B9.out.size
              refine ⟨⟨i + 1, dn ++ [pA], oB, _, _, by omega, by push_cast; rfl, rfl, by simp [hdn], FF.out.1, FF.out.2.1, FF.out.2.2, B9.out.trans (hT.toBelow bz (fun z hz => by omega)), Y9.out.touch hT (by omega), Z9.out.touch hT (fun e => hgne e.symm), hO, RB.out.mono fun z hz => ⟨⟨by omega, by omega, by omega, fun e => by
                have e' : g = z := by simpa [Value.ownBlock] using e
                omega⟩, hT.block z hz.2 (by omega)⟩⟩, ?_⟩
              simp [intOf]
              omega
          · have hEE : foldE false DD o = trE oc p := by
              rw [F8.out.1, hdr.out]
              exact foldE_bad (fun h => hE (hsE.symm.trans h))
            have hb : (trE oc p == 0) = false := by simpa using hE
            obtain ⟨j0, j1, j2⟩ := blk3_cells Y9.out
            have jf := Y9.out.frozen
            have hy9 := Y9.out.lt
            have GE := Lib.hid (eh_end Y9.out B9.out (by omega) (.int .i64 0) (.int .i64 0) (.slice none 0 0))
            have HE := Lib.hid (And.intro hEE hE)
            clear hEE hE hsE F8 hdr O9 RA RB
            generalize trE oc p = er at *
            go_wp2_with fail
            refine abs_ret (fun W => Blk (w.heap.size + 1) (.cells #[.int .i64 0, .int .i64 0, .slice none 0 0] 71 (0, 0)) W ∧ Below w.heap.size w W) GE.out ?_
            rintro W ⟨hB, hW⟩
            obtain ⟨k0, k1, k2⟩ := blk3_cells hB
            refine bodyPost_ret (v := .tuple #[.agg #[.int .i64 0, .int .i64 0, .slice none 0 0], .slice none 0 0, .int .i64 er]) (by simp [results, Tryd.results32, go_sem, k0, k1, k2]) rfl ?_
            rw [HEnd.out, ← HDD.out, HE.out.1]
            exact ⟨fun h => absurd h HE.out.2, fun _ => ⟨rfl, hW⟩⟩
      · have hiN : i = n6 := by omega
        obtain ⟨a9, c9, hpv9, hprd⟩ := O8.out.rd (A := fun z => w.heap.size ≤ z ∧ z < wr.heap.size ∧ z ≠ w.heap.size + 1) (fun b hb hx => ⟨by omega, hb, fun e => hx (.inl (by omega))⟩) (fun z hz => ⟨by have := (O8.out.rowlt z hz).1; omega, (O8.out.rowlt z hz).2, by have := (O8.out.rowlt z hz).1; omega⟩)
        have hdz : DD.drop i = [] := List.drop_of_length_le (by omega)
        rw [hdz, List.append_nil] at hprd hpv9
        injection hpv9 with g1 g2 g3
        subst g1 g3
        obtain ⟨f1, f2, f3⟩ := F8.out
        rw [hdz] at f1 f2 f3
        simp only [foldE, foldL, foldO, List.append_nil] at f1 f2 f3
        have FF := Lib.hid (And.intro f1 (And.intro f2 f3))
        have RP := Lib.hid hprd
        have hgl := Lib.hid g2
        clear f1 f2 f3 hprd hdz g2 F8 O8
        obtain ⟨q0, q1, q2⟩ := blk3_cells Z8.out
        obtain ⟨j0, j1, j2⟩ := blk3_cells Y8.out
        have jf := Y8.out.frozen
        have hy8 := Y8.out.lt
        have hz8 := B8.out.size
        have hyz := Y8.out.lt
        have hbad : ¬ ((i : Int) < (n6 : Int)) := by omega
        subst hiN
        go_wp2_with fail
        have GE := eh_end Y8.out B8.out (by omega) (.int .i64 s) (.int .i64 (h + 1)) (.slice a6 i c6)
        have hT := touch3 (g := w.heap.size + 1) (w := wr) (.int .i64 s) (.int .i64 (h + 1)) (.slice a6 i c6)
        refine abs_ret (fun W => Blk (w.heap.size + 1) (.cells #[.int .i64 s, .int .i64 (h + 1), .slice a6 i c6] 71 (0, 0)) W ∧ Below w.heap.size w W ∧ Touch (fun z => z = w.heap.size + 1) wr W) ⟨GE.1, GE.2, hT⟩ ?_
        rintro W ⟨hB, hW, hTW⟩
        obtain ⟨k0, k1, k2⟩ := blk3_cells hB
        refine bodyPost_ret (v := .tuple #[.agg #[.int .i64 s, .int .i64 (h + 1), .slice a6 i c6], .slice ac oc.length cc, .int .i64 0]) (by simp [results, Tryd.results32, go_sem, k0, k1, k2]) rfl ?_
        rw [HEnd.out, ← HDD.out, FF.out.1, FF.out.2.1, FF.out.2.2]
        refine ⟨fun _ => ⟨a6, c6, ac, cc, by rw [hdn], ?_, ?_, hW⟩, fun h => absurd rfl h⟩
        · rw [hdn]
          have hRP := RP.out
          rw [hdn] at hRP
          exact hRP.mono fun z hz => ⟨⟨hz.1, Nat.lt_of_lt_of_le hz.2.1 hTW.size⟩, hTW.block z hz.2.1 hz.2.2⟩
        · exact R8.out.mono fun z hz => ⟨⟨by omega, Nat.lt_of_lt_of_le hz.2.1 hTW.size⟩, hTW.block z hz.2.1 (by omega)⟩
end Go.Proofs.YtkhacogeffidoaaDoor
