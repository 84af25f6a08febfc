/- The walk of wherrykeep.taped at fine records. -/
import Derived.Test.YtdbdhpjjndhjiaaDoorTapeApp
set_option linter.unusedSimpArgs false
namespace Go.Proofs.YtdbdhpjjndhjiaaDoor
open Go.RowKit

/-- what a tape of these records holds -/
def tapeB (rs : List Rec) : Bs := (rs.map entry).flatten
theorem entry_len {x : Rec} (h : checkRecord x = 0) : (entry x).length ≤ 40013 ∧ 4 ≤ (entry x).length := by
  have := rec_len h
  simp [entry, hdr]; omega
theorem tapeB_next (rs : List Rec) (k : Nat) (h : k < rs.length) : tapeB (rs.take (k + 1)) = tapeB (rs.take k) ++ entry rs[k] := by
  rw [List.take_succ_eq_append_getElem h]
  simp only [tapeB, List.map_append, List.flatten_append, List.map_cons, List.map_nil, List.flatten_cons, List.flatten_nil, List.append_nil]
theorem tapeB_len (rs : List Rec) (h : ∀ r ∈ rs, checkRecord r = 0) : (tapeB rs).length ≤ 40013 * rs.length := by
  induction rs with
  | nil => simp [tapeB]
  | cons r rs ih =>
    have h1 := entry_len (h r (by simp))
    have h2 := ih fun x hx => h x (by simp [hx])
    simp [tapeB] at h2 ⊢
    omega
set_option maxRecDepth 100000 in
set_option maxHeartbeats 4000000 in
theorem taped_ok (rs : List Rec) (a : Option Addr) (n c : Nat) (w : World) (hg : Good w) (hr : RdS (· < w.heap.size) w rs a n c) (hn : n ≤ 100) (hrs : ∀ r ∈ rs, checkRecord r = 0 ∧ I64 r.epoch) :
    Calls Tryd.prog 15 #[.slice a n c] w fun e w' => ∃ a' c', e = .returned (.tuple #[.agg #[.slice a' (tapeB rs).length c', .int .i64 0], .bool true]) ∧ RdS (· < w'.heap.size) w' (tapeB rs) a' (tapeB rs).length c' ∧ Below w.heap.size w w' := by
  have hnl := hr.1
  have hnc := hr.2.1
  have hcm := hr.2.2.1
  unfold maxLen at hcm
  have Hl := Lib.hid hnl
  have Hr := Lib.hid hr
  have Hrs := Lib.hid hrs
  have HG := Lib.hid hg
  clear hnl hr hrs hg
  go_enter Tryd.func15, Tryd.ntmps15
  go_wp2_with fail
  go_loopw [11] (fun i wr => ∃ k : Nat, k ≤ n ∧ i = .int .i64 k ∧ ∃ ax cx, Blk (w.heap.size + 1) (.cells #[.slice ax (tapeB (rs.take k)).length cx, .int .i64 0] 27 (0, 0)) wr ∧ RdS (fun b => w.heap.size + 1 < b ∧ b < wr.heap.size) wr (tapeB (rs.take k)) ax (tapeB (rs.take k)).length cx ∧ Blk w.heap.size (.cells #[.slice none 0 0, .int .i64 0] 27 (0, 0)) wr ∧ Below w.heap.size w wr) (fun i _ => n - (intOf i).toNat)
  case atStart => exact ⟨0, by omega, rfl, none, 0, Blk.at (w.alloc _) _ (w.heap.size + 1) (by simp), RdS.empty _ _ _, (Blk.new w _).alloc _, by (repeat (first | exact Below.refl _ _ | assumption | (refine Below.drew ?_) | (refine below_drewN ?_ _) | (refine Below.alloc ?_ (by first | (simp; done) | (simp; omega) | omega) _) | (refine Below.setCell ?_ (by first | (simp; done) | (simp; omega) | omega) _) | (refine Below.trans ?_ (Below.mono (by assumption) (by first | (simp; done) | (simp; omega) | omega)))))⟩
  case round =>
    obtain ⟨k, hk, rfl, ax, cx, bt, rd, br, hb⟩ := hrel
    by_cases hlt : k < n
    · obtain ⟨b, off, rfl, hAb, hbs, hcs⟩ := (Hr.out.go hb).recs (by omega)
      have hkl : k < rs.length := by have := Hl.out; omega
      obtain ⟨xa, xn, xc, x1, hx, d0, d1⟩ := hcs k hkl
      have x0 := (Hrs.out rs[k] (List.getElem_mem hkl)).1
      have hz := hb.size
      have hel := entry_len x0
      have hrl := rec_len x0
      have htl : (tapeB (rs.take k)).length ≤ 40013 * k := by
        have h := tapeB_len (rs.take k) (fun r hr => (Hrs.out r (List.mem_of_mem_take hr)).1)
        rw [List.length_take] at h
        exact Nat.le_trans h (Nat.mul_le_mul_left _ (by omega))
      have Hnext := Lib.hid (tapeB_next rs k hkl)
      generalize tapeB (rs.take k) = l at *
      generalize rs[k] = x at *
      have HA := Lib.hid (fun W (u : Below wr.heap.size wr W) => append_ok l 0 x ax xa cx xn xc W (HG.out.go (upper hb u hz)) ((rd.wide fun k hk => hk.2).go u) (by omega) (by omega) (hx.go u) x0 x1 (by omega))
      have HR := Lib.hid rd
      have HBt := Lib.hid bt
      have HBr := Lib.hid br
      have HB := Lib.hid hb
      have e0 : wr.cell? ⟨w.heap.size + 1, 0, none⟩ = some (.slice ax l.length cx) := bt.cell 0
      have e1 : wr.cell? ⟨w.heap.size + 1, 1, none⟩ = some (.int .i64 0) := bt.cell 1
      have z0 := bt.lt
      obtain ⟨N, hN⟩ : ∃ N, N = (l ++ entry x).length := ⟨_, rfl⟩
      have hNl : l.length < N := by rw [hN, List.length_append]; omega
      have d3 : decide ((N : Int) ≤ (l.length : Int)) = false := by simp; omega
      have HN := Lib.hid hN
      clear hcs rd bt br hb hx x0 x1 hN
      go_wp2_with fail
      refine abs_run (fun W => Below wr.heap.size wr W ∧ Blk wr.heap.size (.cells #[.int .i64 x.epoch, .slice xa xn xc] 33 (0, 0)) W) ⟨by (repeat (first | exact Below.refl _ _ | assumption | (refine Below.drew ?_) | (refine below_drewN ?_ _) | (refine Below.alloc ?_ (by first | (simp; done) | (simp; omega) | omega) _) | (refine Below.setCell ?_ (by first | (simp; done) | (simp; omega) | omega) _) | (refine Below.trans ?_ (Below.mono (by assumption) (by first | (simp; done) | (simp; omega) | omega))))), Blk.new _ _⟩ ?_
      rintro W ⟨u, -⟩
      refine (HA.out W u).mono ?_
      rintro e W2 ⟨_, rfl, a2, c2, rfl, f2, r2, u2⟩
      rw [← HN.out] at r2 ⊢
      have hz1 := u.size
      have hz2 := u2.size
      have u3 := up u u2
      have bt2 := HBt.out.go u3
      have br2 := HBr.out.go u3
      have hb2 := upper HB.out u3 hz
      have HR2 := Lib.hid r2
      have HBt2 := Lib.hid bt2
      have HBr2 := Lib.hid br2
      have HB2 := Lib.hid hb2
      have q0 : W2.cell? ⟨w.heap.size + 1, 0, none⟩ = some (.slice ax l.length cx) := bt2.cell 0
      have q1 : W2.cell? ⟨w.heap.size + 1, 1, none⟩ = some (.int .i64 0) := bt2.cell 1
      have q2 : ∀ i, W2.frozen? ⟨w.heap.size + 1, i, none⟩ = false := bt2.frozen
      have z2 : w.heap.size + 1 < W2.heap.size := by omega
      have c0 : ∀ o, (W2.alloc o).cell? ⟨w.heap.size + 1, 0, none⟩ = some (.slice ax l.length cx) := fun o => (bt2.alloc o).cell 0
      clear e0 e1 d0 d1 r2 bt2 br2 hb2 u u2 u3 HA HR HBt HBr HB
      go_wp2_with fail
      go_roundw
      case rel =>
        refine ⟨k + 1, by omega, by go_num, a2, c2, ?_⟩
        rw [Hnext.out, ← HN.out]
        refine ⟨((HBt2.out.set 0 _).set 1 _).alloc _, HR2.out.mono fun b hb => ?_, ((HBr2.out.other (p := ⟨w.heap.size + 1, 0, none⟩) (by show w.heap.size + 1 ≠ w.heap.size; omega) _).other (p := ⟨w.heap.size + 1, 1, none⟩) (by show w.heap.size + 1 ≠ w.heap.size; omega) _).alloc _, ((HB2.out.setCell (p := ⟨w.heap.size + 1, 0, none⟩) (by show w.heap.size ≤ w.heap.size + 1; omega) _).setCell (p := ⟨w.heap.size + 1, 1, none⟩) (by show w.heap.size ≤ w.heap.size + 1; omega) _).alloc (by simp; omega) _⟩
        have y1 := hb.1
        have y2 := hb.2
        refine ⟨⟨by omega, by simp; omega⟩, ?_⟩
        refine (((Below.refl _ _).alloc (Nat.le_refl _) _).block b (by simp; omega)).trans ?_
        rw [Below.heap_setCell _ _ _ _ (by show b ≠ w.heap.size + 1; omega), Below.heap_setCell _ _ _ _ (by show b ≠ w.heap.size + 1; omega)]
      case measure => simp [intOf]; omega
    · have hkn : k = rs.length := by have := Hl.out; omega
      have ht : rs.take k = rs := by rw [hkn, List.take_length]
      rw [ht] at bt rd
      have hk2 : k = n := by omega
      have e0 : wr.cell? ⟨w.heap.size + 1, 0, none⟩ = some (.slice ax (tapeB rs).length cx) := bt.cell 0
      have e1 : wr.cell? ⟨w.heap.size + 1, 1, none⟩ = some (.int .i64 0) := bt.cell 1
      have o0 : wr.cell? ⟨w.heap.size, 0, none⟩ = some (.slice none 0 0) := br.cell 0
      have o1 : wr.cell? ⟨w.heap.size, 1, none⟩ = some (.int .i64 0) := br.cell 1
      have o2 : ∀ i, wr.frozen? ⟨w.heap.size, i, none⟩ = false := br.frozen
      have HR := Lib.hid rd
      have HBr := Lib.hid br
      have HB := Lib.hid hb
      obtain ⟨N, hN⟩ : ∃ N, N = (tapeB rs).length := ⟨_, rfl⟩
      rw [← hN] at HR e0
      have HN := Lib.hid hN
      clear hkn ht bt rd br hb hN
      go_wp2_with fail
      refine abs_ret (fun W => Blk w.heap.size (.cells #[.slice ax N cx, .int .i64 0] 27 (0, 0)) W ∧ RdS (· < W.heap.size) W (tapeB rs) ax N cx ∧ Below w.heap.size w W) ⟨(HBr.out.set 0 _).set 1 _, HR.out.mono fun b hb => ?_, (HB.out.setCell (p := ⟨w.heap.size, 0, none⟩) (Nat.le_refl _) _).setCell (p := ⟨w.heap.size, 1, none⟩) (Nat.le_refl _) _⟩ ?_
      · have y1 := hb.1
        refine ⟨by simpa using hb.2, ?_⟩
        rw [Below.heap_setCell _ _ _ _ (by show b ≠ w.heap.size; omega), Below.heap_setCell _ _ _ _ (by show b ≠ w.heap.size; omega)]
      rintro W ⟨hB, hT, hW⟩
      have f0 : W.cell? ⟨w.heap.size, 0, none⟩ = some (.slice ax N cx) := hB.cell 0
      have f1 : W.cell? ⟨w.heap.size, 1, none⟩ = some (.int .i64 0) := hB.cell 1
      refine bodyPost_ret (v := .tuple #[.agg #[.slice ax N cx, .int .i64 0], .bool true]) (by simp [results, Tryd.results15, go_sem, f0, f1]) rfl ?_
      rw [← HN.out]
      exact ⟨ax, cx, rfl, hT, hW⟩
end Go.Proofs.YtdbdhpjjndhjiaaDoor
