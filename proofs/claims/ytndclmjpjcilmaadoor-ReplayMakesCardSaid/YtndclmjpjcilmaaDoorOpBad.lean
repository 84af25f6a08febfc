/- The walk of OpBad. -/
import Derived.Test.YtndclmjpjcilmaaDoorOpLaw
import Derived.Deep.RegionWith
import Derived.Deep.RegionHeld3
set_option linter.unusedSimpArgs false
namespace Go.Proofs.YtndclmjpjcilmaaDoor
open Go.RowKit

/-- parts that lie in a block of the call's own -/
theorem RdS.of_cells {w : World} {l : Op} {b t : Nat} {A : Nat → Prop} (h : w.heap[b]? = some (.cells (flat l).toArray t (0, 0))) (hp : ∀ p ∈ l, I64 p.kind ∧ I64 p.n ∧ p.text.size ≤ strMax) (hA : A b) (hl : l.length ≤ 1000) :
    RdS A w l (some ⟨b, 0, none⟩) l.length l.length := by
  refine ⟨rfl, Nat.le_refl _, by unfold maxLen; omega, (fun h => by cases h), fun _ => ⟨b, 0, rfl, hA, (Array.getElem?_eq_some_iff.1 h).1, fun i x hx => ⟨partCells x, ⟨rfl, hp x (List.mem_of_getElem? hx)⟩, fun j u hu => ?_⟩⟩⟩
  obtain ⟨h1, h2, h3⟩ := flat_at l i x hx
  rw [cell_of_row w b _ _ t (0, 0) h]
  simp only [Rep.n, Nat.zero_add, List.getElem?_toArray]
  match j, hu with
  | 0, hu => simp [partCells] at hu; rw [← hu]; exact h1
  | 1, hu => simp [partCells] at hu; rw [← hu]; exact h2
  | 2, hu => simp [partCells] at hu; rw [← hu]; exact h3
theorem RdS.nil {α : Type} [Rep α] (A : Nat → Prop) (w : World) : RdS (α := α) A w [] none 0 0 := ⟨rfl, Nat.le_refl _, by unfold maxLen; omega, fun _ => rfl, fun h => absurd h (by omega)⟩

def xS : Str := ⟨#[120]⟩
def bad : Nat → Int → Op
  | 0, k => [⟨1, k, ⟨#[]⟩⟩, ⟨1, 1, ⟨#[]⟩⟩]
  | 1, k => [⟨3, k, ⟨#[]⟩⟩, ⟨2, 0, ⟨#[120]⟩⟩]
  | 2, _ => [⟨2, 0, ⟨#[]⟩⟩]
  | 3, _ => [⟨1, 0, ⟨#[]⟩⟩]
  | 4, k => [⟨3, k, ⟨#[120]⟩⟩]
  | 5, k => [⟨4, k, ⟨#[]⟩⟩]
  | 6, _ => [⟨2, 0, ⟨#[255]⟩⟩]
  | 7, k => [⟨1, 4000 + k, ⟨#[]⟩⟩]
  | _, k => [⟨1, 4000, ⟨#[]⟩⟩, ⟨3, k, ⟨#[]⟩⟩]
def badErr : Nat → Int
  | 3 => 2
  | 5 => 3
  | 7 => 2
  | 8 => 1
  | _ => 4
theorem check_nil : check [] = 0 := rfl
theorem valid_x : valid ⟨#[120]⟩ = true := rfl
theorem valid_e : valid ⟨#[]⟩ = true := rfl
theorem valid_ff : valid ⟨#[255]⟩ = false := rfl
theorem rc_x : rc ⟨#[120]⟩ = 1 := rfl
theorem rc_e : rc ⟨#[]⟩ = 0 := rfl
theorem em_e : emptyS ⟨#[]⟩ = true := by rw [emptyS_iff]; rfl
theorem em_x : emptyS ⟨#[120]⟩ = false := by
  cases h : emptyS ⟨#[120]⟩ with
  | false => rfl
  | true => rw [emptyS_iff] at h; exact absurd h (by decide)
theorem bad_check (i : Nat) (hi : i < 9) (k : Int) (h1 : 1 ≤ k) (h2 : k ≤ 50) : check (bad i k) = badErr i := by
  have a1 : ¬ (k < 1 ∨ 4000 < k) := by omega
  have a2 : (4000 + k < 1 ∨ 4000 < 4000 + k) := by omega
  have a3 : 4000 < 4000 + k := by omega
  match i, hi with
  | 0, _ => simp [check, bad, badErr, checkFrom, partOk, checkText, valid_x, valid_e, valid_ff, rc_x, rc_e, em_e, em_x, clash, a1]
  | 1, _ => simp [check, bad, badErr, checkFrom, partOk, checkText, valid_x, valid_e, valid_ff, rc_x, rc_e, em_e, em_x, clash, a1]
  | 2, _ => simp [check, bad, badErr, checkFrom, partOk, checkText, valid_x, valid_e, valid_ff, rc_x, rc_e, em_e, em_x, clash]
  | 3, _ => simp [check, bad, badErr, checkFrom, partOk, checkText, valid_x, valid_e, valid_ff, rc_x, rc_e, em_e, em_x, clash]
  | 4, _ => simp [check, bad, badErr, checkFrom, partOk, checkText, valid_x, valid_e, valid_ff, rc_x, rc_e, em_e, em_x, clash, a1]
  | 5, _ => simp [check, bad, badErr, checkFrom, partOk, checkText, valid_x, valid_e, valid_ff, rc_x, rc_e, em_e, em_x, clash]
  | 6, _ => simp [check, bad, badErr, checkFrom, partOk, checkText, valid_x, valid_e, valid_ff, rc_x, rc_e, em_e, em_x, clash]
  | 7, _ => simp [check, bad, badErr, checkFrom, partOk, checkText, valid_x, valid_e, valid_ff, rc_x, rc_e, em_e, em_x, clash, a3]
  | 8, _ => simp [check, bad, badErr, checkFrom, partOk, checkText, valid_x, valid_e, valid_ff, rc_x, rc_e, em_e, em_x, clash, a1, sumF, sumT, lenF, lenT, a3]

theorem abs_w {P : Program} {c : Code} {K : _} {fr : _} {W0 : World} (Q : World → Prop) (hQ : Q W0) (k : ∀ W, Q W → Code.wp P c K fr W) : Code.wp P c K fr W0 := k _ hQ
theorem alloc_sz (w : World) (o : Obj) : (w.alloc o).heap.size = w.heap.size + 1 := by
  show (w.heap.push o).size = _
  rw [Array.size_push]
theorem alloc_at (w : World) (o : Obj) (i : Nat) : (w.alloc o).heap[i]? = if i = w.heap.size then some o else w.heap[i]? := by
  show (w.heap.push o)[i]? = _
  rw [Array.getElem?_push]

set_option maxRecDepth 100000 in
set_option maxHeartbeats 1500000 in
theorem opBad_walk (w : World) (hg : Good w) (which : Int) (hw : I64 which) (m : Int) (hm : I64 m) :
    Calls Tryd.prog 4 #[.int .i64 which, .int .i64 m] w fun e w' => e = .returned (.bool true) ∧ Below w.heap.size w w' := by
  have Hp1 := Lib.hid (fun W => picked_any m 50 W hm (by omega) (by omega))
  have Hp2 := Lib.hid (fun W => picked_any which 9 W hw (by omega) (by omega))
  have r1 := pk_range m 50 (by omega)
  have r2 := pk_range which 9 (by omega)
  clear hw hm
  generalize pk m 50 = q at *
  generalize pk which 9 = i at *
  go_enter Tryd.func4, Tryd.ntmps4
  go_wp2_with fail
  refine (Hp1.out _).mono ?_
  rintro e w1 ⟨rfl, rfl⟩
  have hk : 1 ≤ 1 + q ∧ 1 + q ≤ 50 := by omega
  have hbad := fun j hj => bad_check j hj (1 + q) hk.1 hk.2
  go_wp2_with fail
  refine (Hp2.out _).mono ?_
  rintro e w2 ⟨rfl, rfl⟩
  go_wp2_with fail
  obtain ⟨j, rfl⟩ := Int.eq_ofNat_of_zero_le r2.1
  have hj : j < 9 := by omega
  -- what lies in memory now
  have key : ∀ (W : World) (O E : Nat), (∀ b, b < 9 → W.heap[w.heap.size + b]? = some (.cells (flat (bad b (1 + q))).toArray 28 (0, 0))) →
      W.heap[O]? = some (.cells ((List.range 9).map fun b => Value.slice (some ⟨w.heap.size + b, 0, none⟩) (bad b (1 + q)).length (bad b (1 + q)).length).toArray 30 (0, 0)) →
      W.heap[E]? = some (.cells ((List.range 9).map fun b => Value.int .i64 (badErr b)).toArray 24 (0, 0)) → O < W.heap.size → E < W.heap.size → Below w.heap.size w W →
      ∀ n, w.heap.size + 9 ≤ W.heap.size → n = (bad j (1 + q)).length →
      W.cell? ⟨O, j, none⟩ = some (.slice (some ⟨w.heap.size + j, 0, none⟩) n n) ∧ W.cell? ⟨E, j, none⟩ = some (.int .i64 (badErr j)) ∧
      (∀ W', Below W.heap.size W W' → Calls Tryd.prog 16 #[.slice (some ⟨w.heap.size + j, 0, none⟩) n n] W' fun e w' => e = .returned (.int .i64 (badErr j)) ∧ Below W'.heap.size W' w') ∧
      (∀ W', Below W.heap.size W W' → Calls Tryd.prog 16 #[.slice none 0 0] W' fun e w' => e = .returned (.int .i64 0) ∧ Below W'.heap.size W' w') := by
    intro W O E hB hO hE hOl hEl hb n hsz hn
    subst hn
    have hp : ∀ p ∈ bad j (1 + q), I64 p.kind ∧ I64 p.n ∧ p.text.size ≤ strMax := by
      intro p hp
      have h1 : ∀ x : Int, 0 ≤ x → x ≤ 5000 → I64 x := fun x h h' => by unfold I64; omega
      have h2 : (⟨#[120]⟩ : ByteArray).size ≤ strMax := by unfold strMax; decide
      have h3 : (⟨#[]⟩ : ByteArray).size ≤ strMax := by unfold strMax; decide
      have h4 : (⟨#[255]⟩ : ByteArray).size ≤ strMax := by unfold strMax; decide
      match j, hj with
      | 0, _ | 1, _ | 2, _ | 3, _ | 4, _ | 5, _ | 6, _ | 7, _ | 8, _ =>
        simp only [bad, List.mem_cons, List.not_mem_nil, or_false] at hp
        (first | (obtain rfl | rfl := hp) | (obtain rfl := hp)) <;> exact ⟨h1 _ (by simp only; omega) (by simp only; omega), h1 _ (by simp only; omega) (by simp only; omega), by first | exact h2 | exact h3 | exact h4⟩
    have hl : (bad j (1 + q)).length ≤ 1000 := by
      match j, hj with
      | 0, _ | 1, _ | 2, _ | 3, _ | 4, _ | 5, _ | 6, _ | 7, _ | 8, _ => simp [bad]
    have hr := RdS.of_cells (A := fun b => b < W.heap.size) (hB j hj) hp (by omega) hl
    refine ⟨?_, ?_, fun W' hW' => ?_, fun W' hW' => ?_⟩
    · rw [cell_of_row W O j _ _ _ hO]
      simp only [List.getElem?_toArray, List.getElem?_map, List.getElem?_range hj, Option.map_some]
    · rw [cell_of_row W E j _ _ _ hE]
      simp only [List.getElem?_toArray, List.getElem?_map, List.getElem?_range hj, Option.map_some]
    · have := check_any _ _ _ _ _ W' ((hg.below' hb).below' hW') (fun b h => Nat.lt_of_lt_of_le h hW'.size) (hr.below (fun _ h => h) hW')
      rw [bad_check j hj _ hk.1 hk.2] at this
      exact this
    · have := check_any (fun _ => False) [] none 0 0 W' ((hg.below' hb).below' hW') (fun b h => h.elim) (RdS.nil _ _)
      rw [check_nil] at this
      exact this
  refine abs_w (fun W => Below w.heap.size w W ∧ w.heap.size + 1 + 1 + 1 + 1 + 1 + 1 + 1 + 1 + 1 + 1 < W.heap.size ∧ W.cell? ⟨w.heap.size + 1 + 1 + 1 + 1 + 1 + 1 + 1 + 1 + 1, j, none⟩ = some (.slice (some ⟨w.heap.size + j, 0, none⟩) (bad j (1 + q)).length (bad j (1 + q)).length) ∧ W.cell? ⟨w.heap.size + 1 + 1 + 1 + 1 + 1 + 1 + 1 + 1 + 1 + 1, j, none⟩ = some (.int .i64 (badErr j)) ∧
      (∀ W', Below W.heap.size W W' → Calls Tryd.prog 16 #[.slice (some ⟨w.heap.size + j, 0, none⟩) (bad j (1 + q)).length (bad j (1 + q)).length] W' fun e w' => e = .returned (.int .i64 (badErr j)) ∧ Below W'.heap.size W' w') ∧
      (∀ W', Below W.heap.size W W' → Calls Tryd.prog 16 #[.slice none 0 0] W' fun e w' => e = .returned (.int .i64 0) ∧ Below W'.heap.size W' w')) ?hQ ?_
  case hQ =>
    refine ⟨(by (repeat (first | exact Below.refl _ _ | assumption | (refine Below.drew ?_) | (refine below_drewN ?_ _) | (refine Below.alloc ?_ (by first | (simp; done) | (simp; omega) | omega) _) | (refine Below.setCell ?_ (by first | (simp; done) | (simp; omega) | omega) _) | (refine Below.trans ?_ (Below.mono (by assumption) (by first | (simp; done) | (simp; omega) | omega)))))), (by simp), key _ (w.heap.size + 1 + 1 + 1 + 1 + 1 + 1 + 1 + 1 + 1) (w.heap.size + 1 + 1 + 1 + 1 + 1 + 1 + 1 + 1 + 1 + 1) ?g1 ?g2 ?g3 ?g4 ?g5 ?g6 _ ?g7 rfl⟩
    case g1 =>
      intro b hb
      match b, hb with
      | 0, _ | 1, _ | 2, _ | 3, _ | 4, _ | 5, _ | 6, _ | 7, _ | 8, _ =>
        simp only [alloc_at, alloc_sz]
        repeat rw [if_neg (by omega)]
        try rw [if_pos (by omega)]
        simp [flat, bad, partCells]
    case g2 =>
      simp only [alloc_at, alloc_sz]
      repeat rw [if_neg (by omega)]
      try rw [if_pos (by omega)]
      simp [bad, List.range_succ]
    case g3 =>
      simp only [alloc_at, alloc_sz]
      repeat rw [if_neg (by omega)]
      try rw [if_pos (by omega)]
      simp [badErr, List.range_succ]
    case g4 => simp
    case g5 => simp
    case g6 => (repeat (first | exact Below.refl _ _ | assumption | (refine Below.drew ?_) | (refine below_drewN ?_ _) | (refine Below.alloc ?_ (by first | (simp; done) | (simp; omega) | omega) _) | (refine Below.setCell ?_ (by first | (simp; done) | (simp; omega) | omega) _) | (refine Below.trans ?_ (Below.mono (by assumption) (by first | (simp; done) | (simp; omega) | omega)))))
    case g7 => simp
  clear key
  generalize badErr j = er
  have Her : (er == er) = true := by simp
  clear hbad Hp1 Hp2 hg
  generalize (bad j (1 + q)).length = n
  generalize w.heap.size + 1 + 1 + 1 + 1 + 1 + 1 + 1 + 1 + 1 = O
  rintro W ⟨hb, hE, hcO, hcE, h1, h2⟩
  have hO : O < W.heap.size := by omega
  have hb0 := hb
  have Hb := Lib.hid hb
  have H1 := Lib.hid h1
  have H2 := Lib.hid h2
  clear h1 h2 hb
  have hs0 : w.heap.size ≤ W.heap.size := hb0.size
  have hS0 : W.drew.cell? ⟨O, j, none⟩ = some (.slice (some ⟨w.heap.size + j, 0, none⟩) n n) ∧ W.drew.cell? ⟨O + 1, j, none⟩ = some (.int .i64 er) ∧ Below W.heap.size W W.drew := ⟨hcO, hcE, (Below.refl _ _).drew⟩
  have hstep : ∀ w1 w2 : World, (w1.cell? ⟨O, j, none⟩ = some (.slice (some ⟨w.heap.size + j, 0, none⟩) n n) ∧ w1.cell? ⟨O + 1, j, none⟩ = some (.int .i64 er) ∧ Below W.heap.size W w1) → Below w1.heap.size w1 w2 →
      (w2.cell? ⟨O, j, none⟩ = some (.slice (some ⟨w.heap.size + j, 0, none⟩) n n) ∧ w2.cell? ⟨O + 1, j, none⟩ = some (.int .i64 er) ∧ Below W.heap.size W w2) := by
    rintro w1 w2 ⟨a1, a2, a3⟩ hb
    have hz := a3.size
    exact ⟨((bcell hb).1 O j (by omega)).trans a1, ((bcell hb).1 (O + 1) j (by omega)).trans a2, a3.trans (hb.mono hz)⟩
  have Hstep := Lib.hid hstep
  clear hstep
  have H1b := Lib.hid (p := (∀ w1 : World, (w1.cell? ⟨O, j, none⟩ = some (.slice (some ⟨w.heap.size + j, 0, none⟩) n n) ∧ w1.cell? ⟨O + 1, j, none⟩ = some (.int .i64 er) ∧ Below W.heap.size W w1) → Calls Tryd.prog 16 #[.slice (some ⟨w.heap.size + j, 0, none⟩) n n] w1 fun e w' => e = .returned (.int .i64 er) ∧ Below w1.heap.size w1 w')) fun w1 h => H1.out w1 h.2.2
  have H2b := Lib.hid (p := (∀ w1 : World, (w1.cell? ⟨O, j, none⟩ = some (.slice (some ⟨w.heap.size + j, 0, none⟩) n n) ∧ w1.cell? ⟨O + 1, j, none⟩ = some (.int .i64 er) ∧ Below W.heap.size W w1) → Calls Tryd.prog 16 #[.slice none 0 0] w1 fun e w' => e = .returned (.int .i64 0) ∧ Below w1.heap.size w1 w')) fun w1 h => H2.out w1 h.2.2
  clear H1 H2
  go_region_held3 (fun w' => w'.cell? ⟨O, j, none⟩ = some (.slice (some ⟨w.heap.size + j, 0, none⟩) n n) ∧ w'.cell? ⟨O + 1, j, none⟩ = some (.int .i64 er) ∧ Below W.heap.size W w') (first | assumption | exact hS0)
    (first
      | (go_at_call_of 16 (some (⟨w.heap.size + j, 0, none⟩ : Addr)); refine (H1b.out _ (by first | assumption | exact hS0)).mono ?_; rintro e W2 ⟨rfl, hb2⟩; have hS2 := Hstep.out _ _ (by first | assumption | exact hS0) hb2; clear hb2)
      | (go_at_call 16; refine (H2b.out _ (by first | assumption | exact hS0)).mono ?_; rintro e W3 ⟨rfl, hb3⟩; have hS3 := Hstep.out _ _ (by first | assumption | exact hS0) hb3; have hS4 := hS3.2.2; clear hb3))
  all_goals
    go_wp2_with fail
    go_ret
    exact ⟨rfl, Hb.out.trans (Below.mono (by assumption) hs0)⟩
end Go.Proofs.YtndclmjpjcilmaaDoor
