/- The walk of FrameBare. -/
import Derived.Test.YtndclmjpjcilmaaDoorFrameMake
import Derived.Test.YtndclmjpjcilmaaDoorOpBad
set_option linter.unusedSimpArgs false
namespace Go.Proofs.YtndclmjpjcilmaaDoor
open Go.RowKit

def oddF : Nat → Fr
  | 0 => ⟨1, 0, 1, [], ⟨#[]⟩⟩
  | 1 => ⟨1, 0, 0, [], ⟨#[120]⟩⟩
  | 2 => ⟨2, 0, 0, [], ⟨#[]⟩⟩
  | 3 => ⟨2, 0, 1, [], ⟨#[120]⟩⟩
  | 4 => ⟨3, 1, 1, [], ⟨#[]⟩⟩
  | _ => ⟨3, 0, 1, [⟨1, 1, ⟨#[]⟩⟩], ⟨#[]⟩⟩
theorem ct_e : checkText ⟨#[]⟩ = 0 := by unfold checkText; rw [if_neg (by rw [valid_e]; decide), if_neg (by rw [rc_e]; decide)]
theorem ct_x : checkText ⟨#[120]⟩ = 0 := by unfold checkText; rw [if_neg (by rw [valid_x]; decide), if_neg (by rw [rc_x]; decide)]
theorem ck_1 : check [⟨1, 1, ⟨#[]⟩⟩] = 0 := by simp [check, checkFrom, partOk, em_e, sumF, sumT, lenF, lenT]
theorem oddF_check (i : Nat) (hi : i < 6) : checkFrame (oddF i).kind (oddF i).heard (oddF i).epoch (oddF i).op (oddF i).text = 4 := by
  match i, hi with
  | 0, _ | 1, _ | 2, _ | 3, _ | 4, _ => simp [oddF, checkFrame, num, check_nil, ct_e, ct_x, frameOdd, em_e, em_x]
  | 5, _ => simp [oddF, checkFrame, num, ck_1, ct_e, ct_x, frameOdd, em_e, em_x]
theorem frame0_check : checkFrame 0 0 0 [] ⟨#[]⟩ = 3 := by simp [checkFrame]
theorem noText_ok : checkText noText = 0 := ct_e
theorem frame_ok (r : Raw) (l : List Raw) : checkFrame (frameOf r l).kind (frameOf r l).heard (frameOf r l).epoch (frameOf r l).op (frameOf r l).text = 0 ∧
    I64 (frameOf r l).kind ∧ I64 (frameOf r l).heard ∧ I64 (frameOf r l).epoch ∧ (frameOf r l).text.size ≤ strMax ∧ (frameOf r l).op.length ≤ 8001 := by
  have ra := pk_range r.a 5000 (by omega)
  have rb := pk_range r.b 5000 (by omega)
  have rb5 := pk_range r.b 50 (by omega)
  have rc' := pk_range r.c 20 (by omega)
  unfold frameOf
  by_cases h0 : pk (r.kind.tdiv 4) 3 = 0
  · rw [if_pos h0]
    refine ⟨?_, by unfold I64; simp only; omega, by unfold I64; simp only; omega, by unfold I64; simp only; omega, by rw [noText_size]; omega, by simp⟩
    have a1 : num (pk r.b 5000) = true := by simp [num]; omega
    have a2 : num (1 + pk r.a 5000) = true := by simp [num]; omega
    have a3 : decide (0 < 1 + pk r.a 5000) = true := by simp; omega
    simp [checkFrame, a1, a2, check_nil, noText_ok, frameOdd, a3, emptyS_noText]
  · rw [if_neg h0]
    by_cases h1 : pk (r.kind.tdiv 4) 3 = 1
    · rw [if_pos h1]
      have hl := letters_ok r.text 20 (by omega)
      refine ⟨?_, by unfold I64; simp only; omega, by unfold I64; simp only; omega, by unfold I64; simp only; omega, by unfold strMax; simp only; omega, by simp⟩
      have a1 : num 0 = true := by simp [num]
      have a2 : num (1 + pk r.a 5000) = true := by simp [num]; omega
      have a3 : decide (0 < 1 + pk r.a 5000) = true := by simp; omega
      simp [checkFrame, a1, a2, check_nil, hl.1, frameOdd, a3]
    · rw [if_neg h1]
      have ho := mkOp_ok (pk r.c 20) l rc'.1 (by omega)
      have hz := check_zero ho.1
      refine ⟨?_, by unfold I64; simp only; omega, by unfold I64; simp only; omega, by unfold I64; simp only; omega, by rw [noText_size]; omega, hz.1⟩
      have a1 : num (pk r.b 50) = true := by simp [num]; omega
      have a2 : num 0 = true := by simp [num]
      simp [checkFrame, a1, a2, ho.1, noText_ok, frameOdd, emptyS_noText]

theorem abs_calls {P : Program} {f : Nat} {vs : Array Value} {F : Ending → World → Prop} {W0 : World} (Q : World → Prop) (hQ : Q W0) (k : ∀ W, Q W → Calls P f vs W F) : Calls P f vs W0 F := k _ hQ
def frCells (f : Fr) (v : Value) : List Value := [.int .i64 f.kind, .int .i64 f.heard, .int .i64 f.epoch, v, .string f.text]
def oddV (B : Nat) (j : Nat) : Value := if j = 5 then .slice (some ⟨B, 0, none⟩) 1 1 else .slice none 0 0
def oddCells (B : Nat) : List Value := frCells (oddF 0) (oddV B 0) ++ frCells (oddF 1) (oddV B 1) ++ frCells (oddF 2) (oddV B 2) ++ frCells (oddF 3) (oddV B 3) ++ frCells (oddF 4) (oddV B 4) ++ frCells (oddF 5) (oddV B 5)
theorem odd_at (B j : Nat) (hj : j < 6) : (oddCells B)[j * 5]? = some (.int .i64 (oddF j).kind) ∧ (oddCells B)[j * 5 + 1]? = some (.int .i64 (oddF j).heard) ∧ (oddCells B)[j * 5 + 2]? = some (.int .i64 (oddF j).epoch) ∧ (oddCells B)[j * 5 + 3]? = some (oddV B j) ∧ (oddCells B)[j * 5 + 4]? = some (.string (oddF j).text) := by
  match j, hj with
  | 0, _ | 1, _ | 2, _ | 3, _ | 4, _ | 5, _ => exact ⟨rfl, rfl, rfl, rfl, rfl⟩
theorem oddF_fit (j : Nat) (hj : j < 6) : I64 (oddF j).kind ∧ I64 (oddF j).heard ∧ I64 (oddF j).epoch ∧ (oddF j).text.size ≤ strMax := by
  have h1 : ∀ x : Int, 0 ≤ x → x ≤ 5000 → I64 x := fun x h h' => by unfold I64; omega
  have h2 : (⟨#[120]⟩ : ByteArray).size ≤ strMax := by unfold strMax; decide
  have h3 : (⟨#[]⟩ : ByteArray).size ≤ strMax := by unfold strMax; decide
  match j, hj with
  | 0, _ | 1, _ | 2, _ | 3, _ | 4, _ | 5, _ => exact ⟨h1 _ (by simp [oddF]) (by simp [oddF]), h1 _ (by simp [oddF]) (by simp [oddF]), h1 _ (by simp [oddF]) (by simp [oddF]), by first | exact h2 | exact h3⟩
theorem oddV_form (B j : Nat) (hj : j < 6) : ∃ a n c, oddV B j = .slice a n c ∧ ∀ (W : World) (t : Nat), W.heap[B]? = some (.cells #[.int .i64 1, .int .i64 1, .string ⟨#[]⟩] t (0, 0)) → RdS (· < W.heap.size) W (oddF j).op a n c := by
  have hn : ∀ W : World, RdS (· < W.heap.size) W ([] : Op) none 0 0 := fun W => RdS.nil _ _
  match j, hj with
  | 0, _ | 1, _ | 2, _ | 3, _ | 4, _ => exact ⟨none, 0, 0, rfl, fun W _ _ => hn W⟩
  | 5, _ =>
    refine ⟨some ⟨B, 0, none⟩, 1, 1, rfl, fun W t h => ?_⟩
    refine RdS.of_cells (l := [⟨1, 1, ⟨#[]⟩⟩]) (t := t) (by rw [h]; rfl) ?_ (Array.getElem?_eq_some_iff.1 h).1 (by simp)
    intro p hp
    simp only [List.mem_singleton] at hp
    subst hp
    exact ⟨by unfold I64; simp only; omega, by unfold I64; simp only; omega, by unfold strMax; decide⟩

set_option maxRecDepth 100000 in
set_option maxHeartbeats 3000000 in
theorem frameBare_walk (w : World) (hg : Good w) (r : Raw) (hk : r.ok) (a : Option Addr) (n c : Nat) (l : List Raw) (hr : RdS (· < w.heap.size) w l a n c) (which : Int) (hw : I64 which) :
    Calls Tryd.prog 6 #[rawV r, .slice a n c, .int .i64 which] w fun e w' => e = .returned (.bool true) ∧ Below w.heap.size w w' := by
  have HF := Lib.hid (fun W h => frame_go r l a n c W h hk)
  obtain ⟨f0, f1, f2, f3, f4, f5⟩ := frame_ok r l
  generalize frameOf r l = f at *
  obtain ⟨fk, fh, fe, fo, ft⟩ := f
  have HP := Lib.hid (fun W => picked_any which 6 W hw (by omega) (by omega))
  have rp := pk_range which 6 (by omega)
  clear hw
  generalize pk which 6 = i at *
  obtain ⟨j, rfl⟩ := Int.eq_ofNat_of_zero_le rp.1
  have hj : j < 6 := by omega
  obtain ⟨k, xa, xb, xc, t⟩ := r
  clear hk
  simp only at f0 f1 f2 f3 f4 f5
  unfold rawV at *
  simp only at *
  go_enter Tryd.func6, Tryd.ntmps6
  go_wp2_with fail
  have hr1 := hr.go ((Below.refl _ _).alloc (Nat.le_refl _) (.cells #[.int .i64 k, .int .i64 xa, .int .i64 xb, .int .i64 xc, .string t] 46))
  refine (HF.out _ hr1).mono ?_
  rintro e w1 ⟨a1, c1, rfl, hrd, hb1⟩
  have hB1 : Below w.heap.size w w1 := ((Below.refl _ _).alloc (Nat.le_refl _) _).trans (hb1.mono (by simp))
  have hg1 := hg.below' hB1
  have hrd1 : RdS (· < w1.heap.size) w1 fo a1 fo.length c1 := hrd.wide (fun b hb => hb.2)
  clear hb1 hrd hr1 hr HF
  generalize hfl : fo.length = m at *
  have Hfl := Lib.hid hfl
  clear hfl
  go_wp2_with fail
  have key : ∀ W : World, Below w1.heap.size w1 W → ∀ (k h e : Int) (o : Op) (t : Str) (a : Option Addr) (n c : Nat), RdS (· < W.heap.size) W o a n c → I64 k → I64 h → I64 e → t.size ≤ strMax →
      Calls Tryd.prog 23 #[.agg #[.int .i64 k, .int .i64 h, .int .i64 e, .slice a n c, .string t]] W fun ee w' => ee = .returned (.int .i64 (checkFrame k h e o t)) ∧ Below W.heap.size W w' :=
    fun W hW k h e o t a n c hr h1 h2 h3 h4 => checkFrame_any _ k h e o t a n c W (hg1.below' hW) (fun _ h => h) hr h1 h2 h3 h4
  have Key := Lib.hid key
  clear key
  refine abs_calls (fun W => Below w1.heap.size w1 W ∧ W.heap[w1.heap.size + 1]? = some (.cells #[.int .i64 1, .int .i64 1, .string ⟨#[]⟩] 28 (0, 0)) ∧ W.heap[w1.heap.size + 2]? = some (.cells (oddCells (w1.heap.size + 1)).toArray 48 (0, 0))) ?hQ ?_
  case hQ =>
    refine ⟨by (repeat (first | exact Below.refl _ _ | assumption | (refine Below.drew ?_) | (refine below_drewN ?_ _) | (refine Below.alloc ?_ (by first | (simp; done) | (simp; omega) | omega) _) | (refine Below.setCell ?_ (by first | (simp; done) | (simp; omega) | omega) _) | (refine Below.trans ?_ (Below.mono (by assumption) (by first | (simp; done) | (simp; omega) | omega))))), ?_, ?_⟩
    · exact (Below.heap_alloc _ _ (w1.heap.size + 1) (by simp)).trans (heap_new_at _ _ _ (by simp))
    · exact heap_new_at _ _ _ (by simp)
  rintro W ⟨hW, hP, hO⟩
  obtain ⟨av, an, ac, hav, hard⟩ := oddV_form (w1.heap.size + 1) j hj
  obtain ⟨d0, d1, d2, d3, d4⟩ := odd_at (w1.heap.size + 1) j hj
  rw [hav] at d3
  obtain ⟨g1, g2, g3, g4⟩ := oddF_fit j hj
  have hoc := oddF_check j hj
  have Hc : Hid (∀ W', Below W.heap.size W W' → (W'.cell? ⟨w1.heap.size + 2, j * 5, none⟩ = some (.int .i64 (oddF j).kind) ∧ W'.cell? ⟨w1.heap.size + 2, j * 5 + 1, none⟩ = some (.int .i64 (oddF j).heard) ∧ W'.cell? ⟨w1.heap.size + 2, j * 5 + 2, none⟩ = some (.int .i64 (oddF j).epoch) ∧ W'.cell? ⟨w1.heap.size + 2, j * 5 + 3, none⟩ = some (.slice av an ac) ∧ W'.cell? ⟨w1.heap.size + 2, j * 5 + 4, none⟩ = some (.string (oddF j).text)) ∧
      RdS (· < W'.heap.size) W' (oddF j).op av an ac ∧ w1.heap.size + 2 < W'.heap.size) := by
    unfold Hid
    intro W' hW'
    have hlt := (Array.getElem?_eq_some_iff.1 hO).1
    have hO' := (hW'.block _ hlt).trans hO
    have hP' := (hW'.block _ (by omega)).trans hP
    refine ⟨⟨?_, ?_, ?_, ?_, ?_⟩, hard W' _ hP', by have := hW'.size; omega⟩
    · rw [cell_of_row _ _ _ _ _ _ hO']; simpa using d0
    · rw [cell_of_row _ _ _ _ _ _ hO']; simpa using d1
    · rw [cell_of_row _ _ _ _ _ _ hO']; simpa using d2
    · rw [cell_of_row _ _ _ _ _ _ hO']; simpa using d3
    · rw [cell_of_row _ _ _ _ _ _ hO']; simpa using d4
  have HoC := Lib.hid hoc
  have Hck := Lib.hid (by have := Key.out W hW fk fh fe fo ft a1 m c1 (hrd1.go hW) f1 f2 f3 f4; rw [f0] at this; exact this)
  have HBW := Lib.hid (hB1.trans (hW.mono hB1.size))
  have HW := Lib.hid hW
  clear hP hO d0 d1 d2 d3 d4 hoc hard hrd1 hav f0
  generalize oddF j = F at *
  obtain ⟨ok, oh, oe, oo, ot⟩ := F
  simp only at *
  refine Hck.out.mono ?_
  rintro e W2 ⟨rfl, hb2⟩
  obtain ⟨⟨e0, e1, e2, e3, e4⟩, hrd2, hl2⟩ := Hc.out W2 hb2
  have hB2 := HBW.out.trans (hb2.mono HBW.out.size)
  have hW2 := HW.out.trans (hb2.mono HW.out.size)
  clear hW hb2 Hck Hc HBW HW
  go_wp2_with fail
  refine (HP.out _).mono ?_
  rintro e W3 ⟨rfl, rfl⟩
  clear HP
  go_wp2_with fail
  refine (Key.out _ hW2 ok oh oe oo ot av an ac hrd2 g1 g2 g3 g4).mono ?_
  rintro e W4 ⟨rfl, hb4⟩
  rw [HoC.out]
  have hB4 := hB2.trans (hb4.mono hB2.size)
  have hW4 := hW2.trans (hb4.mono hW2.size)
  clear hb4 hB2 hW2 e0 e1 e2 e3 e4 hrd2
  go_wp2_with fail
  refine (Key.out _ hW4 0 0 0 [] ⟨#[]⟩ none 0 0 (RdS.nil _ _) (by unfold I64; omega) (by unfold I64; omega) (by unfold I64; omega) (by unfold strMax; decide)).mono ?_
  rintro e W5 ⟨rfl, hb5⟩
  rw [frame0_check]
  have hB5 := hB4.trans (hb5.mono hB4.size)
  clear hb5 hB4 hW4
  go_wp2_with fail
  go_ret
  exact ⟨rfl, hB5⟩
end Go.Proofs.YtndclmjpjcilmaaDoor
