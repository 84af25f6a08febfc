/- The walk of edge.Hear at a side that did nothing, and of EdgeAlone. -/
import Derived.Test.YtkhacogeffidoaaDoorSend
import Derived.Test.YtkhacogeffidoaaDoorAppLaw
import Derived.Test.YtkhacogeffidoaaDoorSameOp
set_option linter.unusedSimpArgs false
namespace Go.Proofs.YtkhacogeffidoaaDoor
open Go.RowKit

theorem own_form' {w : World} {base e size n : Nat} {v : Value} {xs : List Value} (h : w.ownsRow base e size v n xs) : ∃ a c, v = .slice a n c ∧ (a = none ∨ ∃ g off, a = some ⟨g, off, none⟩) := by
  rcases h.2 with ⟨hv, h0⟩ | ⟨g, cap, cur, hv, _⟩
  · exact ⟨none, 0, by rw [hv, h0], .inl rfl⟩
  · exact ⟨_, _, hv, .inr ⟨_, _, rfl⟩⟩
theorem edgeCheck_nil : edgeCheck 0 0 [] = 0 := by decide
set_option maxRecDepth 100000 in
set_option maxHeartbeats 4000000 in
theorem hear_alone (o : Op) (h : check o = 0) (ao : Option Addr) (no co : Nat) (u : Bool) (w : World) (hg : Good w) (hr : RdS (· < w.heap.size) w o ao no co) :
    Calls Tryd.prog 32 #[.agg #[.int .i64 0, .int .i64 0, .slice none 0 0], .slice ao no co, .int .i64 0, .bool u] w fun e w' => ∃ av cv a c, e = .returned (.tuple #[.agg #[.int .i64 0, .int .i64 1, .slice av 0 cv], .slice a no c, .int .i64 0]) ∧ RdS (· < w'.heap.size) w' o a no c ∧ Below w.heap.size w w' := by
  have HC := Lib.hid (fun W hg => edge_any 0 0 [] none 0 0 W hg (RdS.none' W) (by unfold I64; omega) (by unfold I64; omega))
  rw [edgeCheck_nil] at HC
  have HK := Lib.hid (fun W hg hr => check_go o ao no co W hg hr)
  rw [h] at HK
  have HW := Lib.hid (fun W => own_any 0 0 [] none 0 0 W (RdS.none' W) (fun o ho => by cases ho) (by simp))
  have hnl := hr.1
  have hlo : no ≤ 1000000000 := by have := (check_zero h).1; omega
  have HCl : Hid (∀ B W, B ≤ W.heap.size → RdS (· < W.heap.size) W o ao no co → Calls Tryd.prog 54 #[.slice ao no co] W fun e w' => ∃ a c, e = .returned (.slice a no c) ∧ RdS (fun b => B ≤ b ∧ b < w'.heap.size) w' o a no c ∧ Below W.heap.size W w') := fun B W hB hr => (clone_any o ao no co W hr hlo).mono fun e w' ⟨a, c, h1, h2, h3⟩ => ⟨a, c, by rw [h1, hnl], by rw [hnl]; exact h2.mono fun k hk => ⟨⟨Nat.le_trans hB hk.1, hk.2⟩, rfl⟩, h3⟩
  have g0 := Lib.hid hg
  have B0 := Lib.hid (Below.refl w.heap.size w)
  have ro0 := Lib.hid hr
  clear hg hr h hnl
  go_enter Tryd.func32, Tryd.ntmps32
  go_wp2_with fail
  refine abs_run (fun W => Below w.heap.size w W ∧ Blk w.heap.size (.cells #[.int .i64 0, .int .i64 0, .slice none 0 0] 71 (0, 0)) W ∧ Blk (w.heap.size + 1) (.cells #[.int .i64 0, .int .i64 0, .slice none 0 0] 71 (0, 0)) W) ⟨(by (repeat (first | exact Below.refl _ _ | assumption | (refine Below.drew ?_) | (refine below_drewN ?_ _) | (refine Below.alloc ?_ (by first | (simp; done) | (simp; omega) | omega) _) | (refine Below.setCell ?_ (by first | (simp; done) | (simp; omega) | omega) _) | (refine Below.trans ?_ (Below.mono (by assumption) (by first | (simp; done) | (simp; omega) | omega)))))), (Blk.new w _).alloc _, Blk.at (w.alloc _) _ (w.heap.size + 1) (by simp)⟩ ?_
  rintro w1 ⟨hb, be, bo⟩
  have B1 := Lib.hid (up B0.out hb)
  have g1 := Lib.hid (g0.out.below' hb)
  have ro1 := Lib.hid (ro0.out.go hb)
  have be1 := Lib.hid be
  have bo1 := Lib.hid bo
  clear B0 g0 ro0 hb be bo
  refine (HC.out _ g1.out).mono ?_
  rintro e w2 ⟨rfl, hb⟩
  have B2 := Lib.hid (up B1.out hb)
  have g2 := Lib.hid (g1.out.below' hb)
  have ro2 := Lib.hid (ro1.out.go hb)
  have be2 := Lib.hid (be1.out.go hb)
  have bo2 := Lib.hid (bo1.out.go hb)
  clear B1 g1 ro1 be1 bo1 hb
  go_wp2_with fail
  refine (HK.out _ g2.out ro2.out).mono ?_
  rintro e w3 ⟨rfl, hb⟩
  have B3 := Lib.hid (up B2.out hb)
  have g3 := Lib.hid (g2.out.below' hb)
  have ro3 := Lib.hid (ro2.out.go hb)
  have be3 := Lib.hid (be2.out.go hb)
  have bo3 := Lib.hid (bo2.out.go hb)
  clear B2 g2 ro2 be2 bo2 hb
  have q0 := be3.out.cell 0
  have q1 := be3.out.cell 1
  have q2 := be3.out.cell 2
  simp only [List.getElem?_toArray, List.getElem?_cons_zero, List.getElem?_cons_succ] at q0 q1 q2
  go_wp2_with fail
  refine (HW.out _).mono ?_
  rintro e w4 ⟨v, rfl, hown, hb⟩
  obtain ⟨xs, how, -⟩ := hown.row
  obtain ⟨av, cv, rfl, hfv⟩ := own_form' how
  have hal : Option.map (fun x : Addr => x.add 0) av = av := by cases av <;> simp [Addr.add]
  clear how
  have B4 := Lib.hid (up B3.out hb)
  have g4 := Lib.hid (g3.out.below' hb)
  have ro4 := Lib.hid (ro3.out.go hb)
  have be4 := Lib.hid (be3.out.go hb)
  have bo4 := Lib.hid (bo3.out.go hb)
  clear B3 g3 ro3 be3 bo3 hb
  simp only [List.length_nil]
  go_wp2_with fail
  refine abs_run (fun W => Below w4.heap.size w4 W ∧ Blk w4.heap.size (.cells #[.int .i64 0, .int .i64 1, .slice av 0 cv] 71 (0, 0)) W) ⟨(by (repeat (first | exact Below.refl _ _ | assumption | (refine Below.drew ?_) | (refine below_drewN ?_ _) | (refine Below.alloc ?_ (by first | (simp; done) | (simp; omega) | omega) _) | (refine Below.setCell ?_ (by first | (simp; done) | (simp; omega) | omega) _) | (refine Below.trans ?_ (Below.mono (by assumption) (by first | (simp; done) | (simp; omega) | omega)))))), Blk.new w4 _⟩ ?_
  rintro w5 ⟨hb, bv⟩
  have B5 := Lib.hid (up B4.out hb)
  have g5 := Lib.hid (g4.out.below' hb)
  have ro5 := Lib.hid (ro4.out.go hb)
  have be5 := Lib.hid (be4.out.go hb)
  have bo5 := Lib.hid (bo4.out.go hb)
  have bv5 := Lib.hid bv
  clear B4 g4 ro4 be4 bo4 hb bv
  refine (HCl.out (w.heap.size + 2) _ bo5.out.lt ro5.out).mono ?_
  rintro e w6 ⟨a2, c2, rfl, ro, hb⟩
  have B6 := Lib.hid (up B5.out hb)
  have g6 := Lib.hid (g5.out.below' hb)
  have be6 := Lib.hid (be5.out.go hb)
  have bo6 := Lib.hid (bo5.out.go hb)
  have bv6 := Lib.hid (bv5.out.go hb)
  have ro6 := Lib.hid ro
  clear B5 g5 ro5 be5 bo5 bv5 hb ro
  clear q0 q1 q2 hal
  have p0 := bv6.out.cell 0
  have p1 := bv6.out.cell 1
  have p2 := bv6.out.cell 2
  have o0 := bo6.out.cell 0
  have o1 := bo6.out.cell 1
  have o2 := bo6.out.cell 2
  simp only [List.getElem?_toArray, List.getElem?_cons_zero, List.getElem?_cons_succ] at p0 p1 p2 o0 o1 o2
  have o3 := bo6.out.frozen
  have l3 := bo6.out.lt
  go_wp2_with fail
  go_loopw [1, 68] (fun v i wr => v = .slice a2 no c2 ∧ i = .int .i64 0 ∧ wr = w6) (fun _ _ _ => 0)
  case atStart => exact ⟨rfl, rfl, rfl⟩
  case round =>
    obtain ⟨rfl, rfl, rfl⟩ := hrel
    go_wp2_with fail
    refine abs_ret (fun W => Blk (w.heap.size + 1) (.cells #[.int .i64 0, .int .i64 1, .slice av 0 cv] 71 (0, 0)) W ∧ RdS (· < W.heap.size) W o a2 no c2 ∧ Below w.heap.size w W) ⟨((bo6.out.set 0 _).set 1 _).set 2 _, ?_, ?_⟩ ?_
    · refine ro6.out.mono fun b hb => ⟨by have := hb.2; simpa using this, ?_⟩
      have := hb.1
      rw [Below.heap_setCell _ _ _ _ (by show b ≠ w.heap.size + 1; omega), Below.heap_setCell _ _ _ _ (by show b ≠ w.heap.size + 1; omega), Below.heap_setCell _ _ _ _ (by show b ≠ w.heap.size + 1; omega)]
    · exact ((B6.out.setCell (p := ⟨w.heap.size + 1, 0, none⟩) (by show w.heap.size ≤ w.heap.size + 1; omega) _).setCell (p := ⟨w.heap.size + 1, 1, none⟩) (by show w.heap.size ≤ w.heap.size + 1; omega) _).setCell (p := ⟨w.heap.size + 1, 2, none⟩) (by show w.heap.size ≤ w.heap.size + 1; omega) _
    rintro W ⟨hB, hT, hW⟩
    have f0 : W.cell? ⟨w.heap.size + 1, 0, none⟩ = some (.int .i64 0) := hB.cell 0
    have f1 : W.cell? ⟨w.heap.size + 1, 1, none⟩ = some (.int .i64 1) := hB.cell 1
    have f2 : W.cell? ⟨w.heap.size + 1, 2, none⟩ = some (.slice av 0 cv) := hB.cell 2
    refine bodyPost_ret (v := .tuple #[.agg #[.int .i64 0, .int .i64 1, .slice av 0 cv], .slice a2 no c2, .int .i64 0]) (by simp [results, Tryd.results32, go_sem, f0, f1, f2]) rfl ?_
    exact ⟨_, _, _, _, rfl, hT, hW⟩
theorem hear_go (o : Op) (h : check o = 0) (ao : Option Addr) (co : Nat) (u : Bool) (w : World) (hg : Good w) (hr : RdS (· < w.heap.size) w o ao o.length co) :
    Calls Tryd.prog 32 #[.agg #[.int .i64 0, .int .i64 0, .slice none 0 0], .slice ao o.length co, .int .i64 0, .bool u] w fun e w' => ∃ av cv a c, e = .returned (.tuple #[.agg #[.int .i64 0, .int .i64 1, .slice av 0 cv], .slice a o.length c, .int .i64 0]) ∧ RdS (· < w'.heap.size) w' o a o.length c ∧ Below w.heap.size w w' := hear_alone o h ao o.length co u w hg hr
set_option maxRecDepth 100000 in
set_option maxHeartbeats 4000000 in
theorem edgeAlone_walk (w : World) (hg : Good w) (s : Str) (hs : s.size ≤ maxLen) (a : Option Addr) (n c : Nat) (l : List Raw) (hr : RdS (· < w.heap.size) w l a n c) (u : Bool) :
    Calls Tryd.prog 10 #[.string s, .slice a n c, .bool u] w fun e w' => e = .returned (.bool true) ∧ Below w.heap.size w w' := by
  have HL := Lib.hid (fun W => letters_any s 20 W hs (by omega))
  rw [show ((20 : Nat) : Int) = 20 from rfl] at HL
  obtain ⟨s0, s1, s2, s3⟩ := letters_ok s 20 (by omega)
  have HR := Lib.hid (fun W => runes_any (letters s 20) W (by omega))
  generalize letters s 20 = S at *
  generalize rc S = K at *
  obtain ⟨o0, o1, o2, o3⟩ := mkOp_ok K l (by omega) (by omega)
  have HO := Lib.hid (fun W (h : RdS (· < W.heap.size) W l a n c) => mkOp_go K l a n c W h (by omega) (by omega))
  generalize mkOp K l = o at *
  have HH := Lib.hid (fun ao co W hg hr => hear_go o o0 ao co u W hg hr)
  have HS := Lib.hid (fun a b c d W h1 h2 => sameOp_ok o a b o.length c o.length d W h1 h2)
  have g0 := Lib.hid hg
  have B0 := Lib.hid (Below.refl w.heap.size w)
  have rl0 := Lib.hid hr
  clear hg hr s0 hs o0 o1 o2 o3
  generalize o.length = no at *
  go_enter Tryd.func10, Tryd.ntmps10
  go_wp2_with fail
  refine (HL.out _).mono ?_
  rintro e w1 ⟨rfl, hb⟩
  have B1 := Lib.hid (up B0.out hb)
  have g1 := Lib.hid (g0.out.below' hb)
  have rl1 := Lib.hid (rl0.out.go hb)
  clear B0 g0 rl0 hb
  go_wp2_with fail
  refine (HR.out _).mono ?_
  rintro e w2 ⟨rfl, hb⟩
  have B2 := Lib.hid (up B1.out hb)
  have g2 := Lib.hid (g1.out.below' hb)
  have rl2 := Lib.hid (rl1.out.go hb)
  clear B1 g1 rl1 hb
  go_wp2_with fail
  refine (HO.out _ rl2.out).mono ?_
  rintro e w3 ⟨ao, co, rfl, ro, hb⟩
  have B3 := Lib.hid (up B2.out hb)
  have g3 := Lib.hid (g2.out.below' hb)
  have rl3 := Lib.hid (rl2.out.go hb)
  have ro3 := Lib.hid ro
  clear B2 g2 rl2 hb ro
  clear rl3
  go_wp2_with fail
  refine (HH.out _ _ _ g3.out ro3.out).mono ?_
  rintro e w4 ⟨av, cv, ap, cp, rfl, rp, hb⟩
  have B4 := Lib.hid (up B3.out hb)
  have g4 := Lib.hid (g3.out.below' hb)
  have ro4 := Lib.hid (ro3.out.go hb)
  have rp4 := Lib.hid rp
  clear B3 g3 ro3 hb rp
  go_wp2_with fail
  refine abs_run (fun W => Below w4.heap.size w4 W ∧ Blk w4.heap.size (.cells #[.int .i64 0, .int .i64 1, .slice av 0 cv] 71 (0, 0)) W) ⟨(by (repeat (first | exact Below.refl _ _ | assumption | (refine Below.drew ?_) | (refine below_drewN ?_ _) | (refine Below.alloc ?_ (by first | (simp; done) | (simp; omega) | omega) _) | (refine Below.setCell ?_ (by first | (simp; done) | (simp; omega) | omega) _) | (refine Below.trans ?_ (Below.mono (by assumption) (by first | (simp; done) | (simp; omega) | omega)))))), Blk.new w4 _⟩ ?_
  rintro w5 ⟨hb, be⟩
  have B5 := Lib.hid (up B4.out hb)
  have g5 := Lib.hid (g4.out.below' hb)
  have ro5 := Lib.hid (ro4.out.go hb)
  have rp5 := Lib.hid (rp4.out.go hb)
  have be5 := Lib.hid be
  clear B4 g4 ro4 rp4 hb be
  refine (HS.out _ _ _ _ _ ro5.out rp5.out).mono ?_
  rintro e w6 ⟨rfl, hb⟩
  have B6 := Lib.hid (up B5.out hb)
  have g6 := Lib.hid (g5.out.below' hb)
  have ro6 := Lib.hid (ro5.out.go hb)
  have rp6 := Lib.hid (rp5.out.go hb)
  have be6 := Lib.hid (be5.out.go hb)
  clear B5 g5 ro5 rp5 be5 hb
  have q0 := be6.out.cell 0
  have q1 := be6.out.cell 1
  have q2 := be6.out.cell 2
  simp only [List.getElem?_toArray, List.getElem?_cons_zero, List.getElem?_cons_succ] at q0 q1 q2
  go_wp2_with fail
  go_ret
  exact ⟨rfl, B6.out⟩
end Go.Proofs.YtkhacogeffidoaaDoor
