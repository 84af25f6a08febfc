/- The walk of tape.Crash at a fine tape. -/
import Derived.Test.YtdbdhpjjndhjiaaDoorTaped
set_option linter.unusedSimpArgs false
namespace Go.Proofs.YtdbdhpjjndhjiaaDoor
open Go.RowKit

theorem RdS.cap {α : Type} [Rep α] {A : Nat → Prop} {w : World} {l : List α} {a : Option Addr} {n c : Nat} (hr : RdS A w l a n c) : RdS A w l a n n := by
  obtain ⟨h1, h2, h3, h4, h5⟩ := hr
  exact ⟨h1, Nat.le_refl _, by omega, fun h => by have := h4 h; omega, h5⟩
theorem open_flat (l : Bs) (s : Int) (a : Option Addr) (c : Nat) (w : World) (hr : RdS (· < w.heap.size) w l a l.length c) (h0 : 0 ≤ s) (h1 : s ≤ l.length) (h2 : l.length ≤ 8388608) :
    Calls Tryd.prog 38 #[.agg #[.slice a l.length c, .int .i64 s]] w fun e w' => ∃ a' c', e = .returned (.tuple #[.agg #[.slice a' l.length c', .int .i64 s], .bool true]) ∧ Flat a' ∧ RdS (fun b => w.heap.size ≤ b ∧ b < w'.heap.size) w' l a' l.length c' ∧ Below w.heap.size w w' :=
  (open_ok l s a c w hr h0 h1 h2).mono fun e w' ⟨_, h, a', c', hv, hf, h3, h4⟩ => ⟨a', c', by rw [h, hv], hf, h3, h4⟩
set_option maxRecDepth 100000 in
set_option maxHeartbeats 4000000 in
theorem crash_new (l : Bs) (s keep : Int) (m : Nat) (a : Option Addr) (c : Nat) (w : World) (hr : RdS (· < w.heap.size) w l a l.length c) (h0 : 0 ≤ s) (h1 : s ≤ l.length) (h2 : l.length ≤ 8388608)
    (k0 : 0 ≤ keep) (k1 : keep ≤ 1000) (hm : (m : Int) = s + min keep (l.length - s)) :
    Calls Tryd.prog 19 #[.agg #[.slice a l.length c, .int .i64 s], .int .i64 keep] w fun e w' => ∃ a' c', e = .returned (.tuple #[.agg #[.slice a' m c', .int .i64 m], .int .i64 0]) ∧ RdS (fun b => w.heap.size ≤ b ∧ b < w'.heap.size) w' (l.take m) a' m c' ∧ Below w.heap.size w w' := by
  have HO := Lib.hid (fun a c W h => open_flat l s a c W h h0 h1 h2)
  have hml : m ≤ l.length := by omega
  have g0 := Lib.hid trivial
  have B0 := Lib.hid (Below.refl w.heap.size w)
  have ra0 := Lib.hid hr
  have d1 : decide (keep < 0) = false := by simp; omega
  clear hr
  go_enter Tryd.func19, Tryd.ntmps19
  go_wp2_with fail
  refine abs_run (fun W => Below w.heap.size w W ∧ Blk (w.heap.size + 1) (.cells #[.slice none 0 0, .int .i64 0] 27 (0, 0)) W) ⟨by (repeat (first | exact Below.refl _ _ | assumption | (refine Below.drew ?_) | (refine below_drewN ?_ _) | (refine Below.alloc ?_ (by first | (simp; done) | (simp; omega) | omega) _) | (refine Below.setCell ?_ (by first | (simp; done) | (simp; omega) | omega) _) | (refine Below.trans ?_ (Below.mono (by assumption) (by first | (simp; done) | (simp; omega) | omega))))), Blk.at (w.alloc _) _ (w.heap.size + 1) (by simp)⟩ ?_
  rintro W ⟨hb, bo⟩
  refine (HO.out _ _ _ (ra0.out.go hb)).mono ?_
  rintro e W2 ⟨ad, cd, rfl, fd, rd, hb2⟩
  have y0 := bo.lt
  have y9 := hb.size
  have rd : RdS (fun b => (w.heap.size ≤ b ∧ b ≠ w.heap.size + 1) ∧ b < W2.heap.size) W2 l ad l.length cd := rd.mono fun b hb => ⟨⟨⟨by have := hb.1; omega, by have := hb.1; omega⟩, hb.2⟩, rfl⟩
  clear y9
  have bo2 := bo.go hb2
  have HB2 := Lib.hid (up hb hb2)
  have HBo := Lib.hid bo2
  have HR := Lib.hid rd
  have o0 : W2.cell? ⟨w.heap.size + 1, 0, none⟩ = some (.slice none 0 0) := bo2.cell 0
  have o1 : W2.cell? ⟨w.heap.size + 1, 1, none⟩ = some (.int .i64 0) := bo2.cell 1
  have o2 : ∀ i, W2.frozen? ⟨w.heap.size + 1, i, none⟩ = false := bo2.frozen
  have z0 := bo2.lt
  have hdn := rd.2.1
  have hcn := rd.2.2.2.1
  have HU := Lib.hid ((rd.upto m hml).cap)
  clear hb bo hb2 bo2 rd
  have i1 : (0 : Int) ≤ (m : Int) := by omega
  have i2 : (m : Int) ≤ (cd : Int) := by omega
  rcases fd with rfl | ⟨b, off, rfl⟩
  · have hc0 := hcn rfl
    subst hc0
    have hm0 : m = 0 := by omega
    clear hcn
    go_wp2_with fail
    simp only [← hm, Int.toNat_natCast]
    refine abs_ret (fun W => Blk (w.heap.size + 1) (.cells #[.slice none m m, .int .i64 m] 27 (0, 0)) W ∧ RdS (fun b => w.heap.size ≤ b ∧ b < W.heap.size) W (l.take m) none m m ∧ Below w.heap.size w W) ⟨((HBo.out.set 0 _).set 1 _).alloc _, HU.out.mono fun k hk => ?_, ((HB2.out.setCell (p := ⟨w.heap.size + 1, 0, none⟩) (by show w.heap.size ≤ w.heap.size + 1; omega) _).setCell (p := ⟨w.heap.size + 1, 1, none⟩) (by show w.heap.size ≤ w.heap.size + 1; omega) _).alloc (by simp; omega) _⟩ ?_
    · have y1 := hk.1.2
      refine ⟨⟨hk.1.1, by simp; have := hk.2; omega⟩, ?_⟩
      refine (((Below.refl _ _).alloc (Nat.le_refl _) _).block k (by simp; exact hk.2)).trans ?_
      rw [Below.heap_setCell _ _ _ _ (by show k ≠ w.heap.size + 1; omega), Below.heap_setCell _ _ _ _ (by show k ≠ w.heap.size + 1; omega)]
    rintro W ⟨hB, hT, hW⟩
    have f0 : W.cell? ⟨w.heap.size + 1, 0, none⟩ = some (.slice none m m) := hB.cell 0
    have f1 : W.cell? ⟨w.heap.size + 1, 1, none⟩ = some (.int .i64 m) := hB.cell 1
    refine bodyPost_ret (v := .tuple #[.agg #[.slice none m m, .int .i64 m], .int .i64 0]) (by simp [results, Tryd.results19, go_sem, f0, f1]) rfl ?_
    exact ⟨_, _, rfl, hT, hW⟩
  · clear hcn
    go_wp2_with fail
    simp only [← hm, Int.toNat_natCast]
    refine abs_ret (fun W => Blk (w.heap.size + 1) (.cells #[.slice (some ⟨b, off, none⟩) m m, .int .i64 m] 27 (0, 0)) W ∧ RdS (fun b => w.heap.size ≤ b ∧ b < W.heap.size) W (l.take m) (some ⟨b, off, none⟩) m m ∧ Below w.heap.size w W) ⟨((HBo.out.set 0 _).set 1 _).alloc _, HU.out.mono fun k hk => ?_, ((HB2.out.setCell (p := ⟨w.heap.size + 1, 0, none⟩) (by show w.heap.size ≤ w.heap.size + 1; omega) _).setCell (p := ⟨w.heap.size + 1, 1, none⟩) (by show w.heap.size ≤ w.heap.size + 1; omega) _).alloc (by simp; omega) _⟩ ?_
    · have y1 := hk.1.2
      refine ⟨⟨hk.1.1, by simp; have := hk.2; omega⟩, ?_⟩
      refine (((Below.refl _ _).alloc (Nat.le_refl _) _).block k (by simp; exact hk.2)).trans ?_
      rw [Below.heap_setCell _ _ _ _ (by show k ≠ w.heap.size + 1; omega), Below.heap_setCell _ _ _ _ (by show k ≠ w.heap.size + 1; omega)]
    rintro W ⟨hB, hT, hW⟩
    have f0 : W.cell? ⟨w.heap.size + 1, 0, none⟩ = some (.slice (some ⟨b, off, none⟩) m m) := hB.cell 0
    have f1 : W.cell? ⟨w.heap.size + 1, 1, none⟩ = some (.int .i64 m) := hB.cell 1
    refine bodyPost_ret (v := .tuple #[.agg #[.slice (some ⟨b, off, none⟩) m m, .int .i64 m], .int .i64 0]) (by simp [results, Tryd.results19, go_sem, f0, f1]) rfl ?_
    exact ⟨_, _, rfl, hT, hW⟩
theorem crash_ok (l : Bs) (s keep : Int) (m : Nat) (a : Option Addr) (c : Nat) (w : World) (hr : RdS (· < w.heap.size) w l a l.length c) (h0 : 0 ≤ s) (h1 : s ≤ l.length) (h2 : l.length ≤ 8388608)
    (k0 : 0 ≤ keep) (k1 : keep ≤ 1000) (hm : (m : Int) = s + min keep (l.length - s)) :
    Calls Tryd.prog 19 #[.agg #[.slice a l.length c, .int .i64 s], .int .i64 keep] w fun e w' => ∃ a' c', e = .returned (.tuple #[.agg #[.slice a' m c', .int .i64 m], .int .i64 0]) ∧ RdS (· < w'.heap.size) w' (l.take m) a' m c' ∧ Below w.heap.size w w' :=
  (crash_new l s keep m a c w hr h0 h1 h2 k0 k1 hm).mono fun e w' ⟨a', c', h1, h3, h4⟩ => ⟨a', c', h1, h3.wide fun k hk => hk.2, h4⟩
set_option maxRecDepth 100000 in
set_option maxHeartbeats 4000000 in
theorem crash_neg (l : Bs) (s keep : Int) (a : Option Addr) (c : Nat) (w : World) (hr : RdS (· < w.heap.size) w l a l.length c) (h0 : 0 ≤ s) (h1 : s ≤ l.length) (h2 : l.length ≤ 8388608) (k0 : keep < 0) :
    Calls Tryd.prog 19 #[.agg #[.slice a l.length c, .int .i64 s], .int .i64 keep] w fun e w' => e = .returned (.tuple #[.agg #[.slice none 0 0, .int .i64 0], .int .i64 2]) ∧ Below w.heap.size w w' := by
  have HO := Lib.hid (fun a c W h => open_flat l s a c W h h0 h1 h2)
  have ra0 := Lib.hid hr
  have d1 : decide (keep < 0) = true := by simp; omega
  clear hr
  go_enter Tryd.func19, Tryd.ntmps19
  go_wp2_with fail
  refine abs_run (fun W => Below w.heap.size w W ∧ Blk (w.heap.size + 1) (.cells #[.slice none 0 0, .int .i64 0] 27 (0, 0)) W) ⟨by (repeat (first | exact Below.refl _ _ | assumption | (refine Below.drew ?_) | (refine below_drewN ?_ _) | (refine Below.alloc ?_ (by first | (simp; done) | (simp; omega) | omega) _) | (refine Below.setCell ?_ (by first | (simp; done) | (simp; omega) | omega) _) | (refine Below.trans ?_ (Below.mono (by assumption) (by first | (simp; done) | (simp; omega) | omega))))), Blk.at (w.alloc _) _ (w.heap.size + 1) (by simp)⟩ ?_
  rintro W ⟨hb, bo⟩
  refine (HO.out _ _ _ (ra0.out.go hb)).mono ?_
  rintro e W2 ⟨ad, cd, rfl, fd, rd, hb2⟩
  have bo2 := bo.go hb2
  have HB2 := Lib.hid (up hb hb2)
  have HBo := Lib.hid bo2
  have o0 : W2.cell? ⟨w.heap.size + 1, 0, none⟩ = some (.slice none 0 0) := bo2.cell 0
  have o1 : W2.cell? ⟨w.heap.size + 1, 1, none⟩ = some (.int .i64 0) := bo2.cell 1
  have o2 : ∀ i, W2.frozen? ⟨w.heap.size + 1, i, none⟩ = false := bo2.frozen
  have z0 := bo2.lt
  clear hb bo hb2 bo2 rd
  go_wp2_with fail
  refine abs_ret (fun W => Blk (w.heap.size + 1) (.cells #[.slice none 0 0, .int .i64 0] 27 (0, 0)) W ∧ Below w.heap.size w W) ⟨((HBo.out.set 0 _).set 1 _).alloc _, ((HB2.out.setCell (p := ⟨w.heap.size + 1, 0, none⟩) (by show w.heap.size ≤ w.heap.size + 1; omega) _).setCell (p := ⟨w.heap.size + 1, 1, none⟩) (by show w.heap.size ≤ w.heap.size + 1; omega) _).alloc (by simp; omega) _⟩ ?_
  rintro W ⟨hB, hW⟩
  have f0 : W.cell? ⟨w.heap.size + 1, 0, none⟩ = some (.slice none 0 0) := hB.cell 0
  have f1 : W.cell? ⟨w.heap.size + 1, 1, none⟩ = some (.int .i64 0) := hB.cell 1
  refine bodyPost_ret (v := .tuple #[.agg #[.slice none 0 0, .int .i64 0], .int .i64 2]) (by simp [results, Tryd.results19, go_sem, f0, f1]) rfl ?_
  exact ⟨rfl, hW⟩
end Go.Proofs.YtdbdhpjjndhjiaaDoor
