/- The walks of (*wire.writer).put, text, op. -/
import Derived.Test.YtdbdhpjjndhjiaaDoorWire
import Derived.Test.YtdbdhpjjndhjiaaDoorOwn
import Derived.Test.YtdbdhpjjndhjiaaDoorBits
import Derived.Test.YtdbdhpjjndhjiaaDoorLib
import Derived.Lib.AppendStr
import Derived.Outline
set_option linter.unusedSimpArgs false
namespace Go.Proofs.YtdbdhpjjndhjiaaDoor
open Go.RowKit

def bb (l : Bs) : List Value := l.map fun x => .int .u8 (x.toNat : Int)
theorem bb_len (l : Bs) : (bb l).length = l.length := by simp [bb]
theorem bb_app (a b : Bs) : bb (a ++ b) = bb a ++ bb b := by simp [bb]
theorem infoU8 : (Tryd.prog.info? 5).map (fun i => (i.zero, i.size, i.bytes)) = some (some (.int .u8 0), 1, 1) := by kernel_rfl
/-- all blocks but b that hold no bytes are as they were -/
def Rest (b : Nat) (w w' : World) : Prop := ∀ k cs t f, w.heap[k]? = some (.cells cs t f) → t ≠ 5 → k ≠ b → w'.heap[k]? = w.heap[k]?
theorem Rest.refl (b : Nat) (w : World) : Rest b w w := fun _ _ _ _ _ _ _ => rfl
theorem Rest.trans {b : Nat} {a c d : World} (h : Rest b a c) (k : Rest b c d) : Rest b a d := fun i cs t f h1 h2 h3 => (k i cs t f ((h i cs t f h1 h2 h3).trans h1) h2 h3).trans (h i cs t f h1 h2 h3)
/-- block b is a writer in which bytes stand -/
structure Wr (D b : Nat) (v : Value) (l : Bs) (w : World) : Prop where
  base : D ≤ b
  blk : Blk b (.cells #[v] 79 (0, 0)) w
  own : w.ownsRow D 5 1 v l.length (bb l)
theorem Wr.form {D b : Nat} {v : Value} {l : Bs} {w : World} (h : Wr D b v l w) : ∃ a c, v = .slice a l.length c := by
  rcases h.own.2 with ⟨hv, h0⟩ | ⟨g, cap, cur, hv, _⟩
  · exact ⟨none, 0, by rw [hv, h0]⟩
  · exact ⟨_, _, hv⟩
/-- a row of bytes is no block of another type -/
theorem row_other {w : World} {D : Nat} {v : Value} {n : Nat} {xs : List Value} (hown : w.ownsRow D 5 1 v n xs) {k : Nat} {cs : Array Value} {t : Nat} {f : Nat × Nat} (hk : w.heap[k]? = some (.cells cs t f)) (ht : t ≠ 5) : some k ≠ v.ownBlock := by
  intro e
  rcases hown.2 with ⟨hv, _⟩ | ⟨g, cap, cur, hv, _, hg, _⟩
  · rw [hv] at e; cases e
  · rw [hv] at e
    have e2 : k = g := by simpa [Value.ownBlock] using e
    subst e2
    rw [hk] at hg
    injection hg with hg
    injection hg with _ h2
    exact ht h2
/-- what a call of a writer leaves -/
def WrP (D b : Nat) (l : Bs) (w : World) (e : Ending) (w' : World) : Prop := e = .returned (.tuple #[]) ∧ (∃ v', Wr D b v' l w') ∧ Below D w w' ∧ Rest b w w'
/-- bytes were appended, and the writer's slice is the new one -/
theorem Wr.put {D b : Nat} {v : Value} {l l' : Bs} {w w1 w2 : World} {v' : Value} (h : Wr D b v l w) (hb : Below w.heap.size w w1) (hown : w2.ownsRow D 5 1 v' l'.length (bb l')) (hg : w1.grownBy w2 v.ownBlock) :
    Wr D b v' l' (w2.setCell ⟨b, 0, none⟩ v') ∧ Below D w (w2.setCell ⟨b, 0, none⟩ v') ∧ Rest b w (w2.setCell ⟨b, 0, none⟩ v') := by
  have hlt := h.blk.lt
  have hz := hb.size
  have hDb := h.base
  have hb2 : Blk b (.cells #[v] 79 (0, 0)) w2 := (h.blk.go hb).grown hg (row_other h.own h.blk (by decide))
  refine ⟨⟨h.base, hb2.set 0 v', ?_⟩, ?_, ?_⟩
  · refine ⟨hown.1, ?_⟩
    rcases hown.2 with hn | ⟨g, cap, cur, hv, hgD, hgh, rest⟩
    · exact .inl hn
    · refine .inr ⟨g, cap, cur, hv, hgD, ?_, rest⟩
      have hne : g ≠ b := by
        intro e; subst e
        rw [show w2.heap[g]? = _ from hb2] at hgh
        injection hgh with hgh
        injection hgh with _ h2
        revert h2; decide
      exact (Below.heap_setCell _ _ _ _ hne).trans hgh
  · exact ((hb.mono (by omega)).grown hg (by omega) (fun g hg => (h.own.lt g hg).1)).setCell (p := ⟨b, 0, none⟩) hDb _
  · intro k cs t f hk ht hkb
    have hkl : k < w.heap.size := (Array.getElem?_eq_some_iff.1 hk).1
    rw [Below.heap_setCell _ _ _ _ hkb, hg.block k (by omega) (row_other h.own hk ht), hb.block k hkl]
theorem numB_le (n : Nat) : (numB n).length ≤ n + 1 := by
  induction n using Nat.strongRecOn with
  | _ n ih =>
    by_cases h : n < 128
    · rw [numB_small h]; simp
    · rw [numB_big h, List.length_cons]
      have := ih (n / 128) (by omega)
      omega

set_option maxRecDepth 100000 in
set_option maxHeartbeats 2000000 in
theorem put_any (D b : Nat) (v : Value) (l : Bs) (n : Nat) (w : World) (h : Wr D b v l w) (hD : D ≤ w.heap.size) (hn : n ≤ 1000000000000) (hl : l.length ≤ 1000000000000) :
    Calls Tryd.prog 36 #[.pointer (some ⟨b, 0, none⟩), .int .i64 (n : Int)] w (WrP D b (l ++ numB n) w) := by
  obtain ⟨i0, hi, hz0, hz1, hz2⟩ := info_parts infoU8
  have HE : Hid (∀ m v1 l1 W, Wr D b v1 l1 W → l1 ++ numB m = l ++ numB n → m < 128 → Below D w W → Rest b w W → l1 ++ [UInt8.ofNat m] = l ++ numB n) := by
    intro m v1 l1 W _ h1 h2 _ _
    rw [← h1, numB_small h2]
  have hnl := numB_le n
  generalize hL : l ++ numB n = L at *
  have hLl : L.length ≤ 3000000000000 := by rw [← hL, List.length_append]; omega
  have H0 := Lib.hid h
  have HL := Lib.hid hL
  clear h hL hnl hl
  go_enter Tryd.func36, Tryd.ntmps36
  go_wp2_with fail
  go_loopw [1] (fun i wr => ∃ (m : Nat) (v1 : Value) (l1 : Bs), i = .int .i64 m ∧ m ≤ n ∧ Wr D b v1 l1 wr ∧ l1 ++ numB m = L ∧ Below D w wr ∧ Rest b w wr) (fun i _ => (intOf i).toNat)
  case atStart => exact ⟨n, v, l, rfl, by omega, H0.out, HL.out, Below.refl _ _, Rest.refl _ _⟩
  case round =>
    obtain ⟨m, v1, l1, rfl, hmn, hwr, hll, hb, hr⟩ := hrel
    obtain ⟨ta, tc, rfl⟩ := hwr.form
    have hl1 : l1.length ≤ 3000000000000 := by rw [← hll, List.length_append] at hLl; omega
    have hown := hwr.own
    have c0 : wr.cell? ⟨b, 0, none⟩ = some (.slice ta l1.length tc) := hwr.blk.cell 0
    have f0 : wr.frozen? ⟨b, 0, none⟩ = false := hwr.blk.frozen 0
    have hbl := hwr.blk.lt
    have hbD := hb.size
    have Hwr := Lib.hid hwr
    have Hll := Lib.hid hll
    have Hb := Lib.hid hb
    have Hr := Lib.hid hr
    clear hwr hll hb hr H0 HL
    by_cases h128 : 128 ≤ m
    · have ha := and127 m (by omega)
      have ho : bits .or .i64 ((m : Int) % 128) 128 = (m : Int) % 128 + 128 := by
        have := or128 (m % 128) (by omega)
        rw [show (((m % 128 : Nat) : Int)) = (m : Int) % 128 from by omega] at this
        rw [this]; omega
      have hm2 : m % 128 < 128 := by omega
      go_wp2_with (at_builtin; refine wpList_append_own _ rfl _ _ 25 rfl D 5 i0 (.int .u8 0) 1 1 Tryd.underlying25 hi hz0 hz1 hz2 rfl (by decide) _ _ _ rfl (hown.alloc _) ⟨wr.heap.size, 0, none⟩ 1 1 [.int .u8 ((m : Int) % 128 + 128)] rfl rfl ?c1 ?c2 ?c3 ?c4 ?c5 ?_)
      case c1 => exact cell_one_new _ _ _
      case c2 => intro u hu; simp at hu; subst hu; rfl
      case c3 => unfold maxLen; omega
      case c4 => omega
      case c5 => simp; omega
      intro v' w1 hown' hgrow _
      have eB : bb l1 ++ [Value.int .u8 ((m : Int) % 128 + 128)] = bb (l1 ++ [UInt8.ofNat (m % 128 + 128)]) := by
        rw [bb_app]; simp only [bb, List.map_cons, List.map_nil, List.append_cancel_left_eq]
        rw [ofNat_toNat' (by omega)]; simp
      rw [eB] at hown'
      obtain ⟨tb, tn, td, rfl⟩ : ∃ tb tn td, v' = .slice tb tn td := by
        rcases hown'.2 with ⟨hv, _⟩ | ⟨g, cap, cur, hv, _⟩
        · exact ⟨none, 0, 0, hv⟩
        · exact ⟨_, _, _, hv⟩
      have hlen : (l1 ++ [UInt8.ofNat (m % 128 + 128)]).length = l1.length + 1 := by simp
      rw [← hlen] at hown'
      obtain ⟨p1, p2, p3⟩ := Hwr.out.put ((Below.refl _ _).alloc (Nat.le_refl _) _) hown' hgrow
      have q := ((Hwr.out.blk).alloc (.cells #[.int .u8 ((m : Int) % 128 + 128)] 5)).grown hgrow (row_other hown Hwr.out.blk (by decide))
      have d0 : w1.cell? ⟨b, 0, none⟩ = some (.slice ta l1.length tc) := q.cell 0
      have f1 : w1.frozen? ⟨b, 0, none⟩ = false := q.frozen 0
      have hfin : Hid ((l1 ++ [UInt8.ofNat (m % 128 + 128)]) ++ numB (m / 128) = L) := by
        unfold Hid
        have hbig := numB_big (n := m) (by omega)
        rw [← Hll.out, hbig, List.append_assoc]; rfl
      have P1 := Lib.hid p1
      have P2 := Lib.hid (Hb.out.trans p2)
      have P3 := Lib.hid (Hr.out.trans p3)
      clear p1 p2 p3 q hown' hgrow hown Hwr Hll Hb Hr eB hlen ha ho
      go_wp2_with fail
      go_roundw
      case rel => exact ⟨m / 128, _, _, by go_num, by omega, P1.out, hfin.out, P2.out, P3.out⟩
      case measure => simp [intOf]; omega
    · have hm8 : m < 128 := by omega
      go_wp2_with (at_builtin; refine wpList_append_own _ rfl _ _ 25 rfl D 5 i0 (.int .u8 0) 1 1 Tryd.underlying25 hi hz0 hz1 hz2 rfl (by decide) _ _ _ rfl (hown.alloc _) ⟨wr.heap.size, 0, none⟩ 1 1 [.int .u8 (m : Int)] rfl rfl ?c1 ?c2 ?c3 ?c4 ?c5 ?_)
      case c1 => exact cell_one_new _ _ _
      case c2 => intro u hu; simp at hu; subst hu; rfl
      case c3 => unfold maxLen; omega
      case c4 => omega
      case c5 => simp; omega
      intro v' w1 hown' hgrow _
      have eB : bb l1 ++ [Value.int .u8 (m : Int)] = bb (l1 ++ [UInt8.ofNat m]) := by
        rw [bb_app]; simp only [bb, List.map_cons, List.map_nil, List.append_cancel_left_eq]
        rw [ofNat_toNat' (by omega)]
      rw [eB] at hown'
      obtain ⟨tb, tn, td, rfl⟩ : ∃ tb tn td, v' = .slice tb tn td := by
        rcases hown'.2 with ⟨hv, _⟩ | ⟨g, cap, cur, hv, _⟩
        · exact ⟨none, 0, 0, hv⟩
        · exact ⟨_, _, _, hv⟩
      have hlen : (l1 ++ [UInt8.ofNat m]).length = l1.length + 1 := by simp
      rw [← hlen] at hown'
      obtain ⟨p1, p2, p3⟩ := Hwr.out.put ((Below.refl _ _).alloc (Nat.le_refl _) _) hown' hgrow
      have q := ((Hwr.out.blk).alloc (.cells #[.int .u8 (m : Int)] 5)).grown hgrow (row_other hown Hwr.out.blk (by decide))
      have d0 : w1.cell? ⟨b, 0, none⟩ = some (.slice ta l1.length tc) := q.cell 0
      have f1 : w1.frozen? ⟨b, 0, none⟩ = false := q.frozen 0
      have hfin : l1 ++ [UInt8.ofNat m] = L := by rw [← Hll.out, numB_small hm8]
      rw [hfin] at p1
      have P1 : Hid (WrP D b L w (.returned (.tuple #[])) (w1.setCell ⟨b, 0, none⟩ (.slice tb tn td))) := ⟨rfl, ⟨_, p1⟩, Hb.out.trans p2, Hr.out.trans p3⟩
      clear p1 p2 p3 q hown' hgrow hown Hwr Hll Hb Hr eB hlen hfin
      generalize WrP D b L w = WP at *
      go_wp2_with fail
      go_end0
      exact P1.out
end Go.Proofs.YtdbdhpjjndhjiaaDoor
