/- The cable's steps, at a cable that stands as Once says. -/
import Derived.Test.YtkhacogeffidoaaDoorWinLaw
import Derived.Test.YtkhacogeffidoaaDoorCabTick
import Derived.Test.YtkhacogeffidoaaDoorCabCome0
import Derived.Test.YtkhacogeffidoaaDoorCabCome1
import Derived.Test.YtkhacogeffidoaaDoorOnceInv
set_option linter.unusedVariables false
set_option linter.unusedSimpArgs false
namespace Go.Proofs.YtkhacogeffidoaaDoor
open Go.RowKit

def CabP (base g E m : Nat) (w : World) : Prop := ∃ c vs, CabM base g c vs w ∧ Once E c ∧ c.f0.length ≤ m ∧ c.f1.length ≤ m
theorem CabP.go {base g E m : Nat} {w w' : World} (h : CabP base g E m w) (hb : Below w.heap.size w w') : CabP base g E m w' := by
  obtain ⟨c, vs, h1, h2⟩ := h
  exact ⟨c, vs, h1.go hb, h2⟩
theorem Once.more {E E' : Nat} {c : Cb} (h : Once E c) (hE : E ≤ E') : Once E' c := ⟨Nat.le_trans h.1 hE, h.2⟩
theorem CabP.more {base g E m E' m' : Nat} {w : World} (h : CabP base g E m w) (hE : E ≤ E') (hm : m ≤ m') : CabP base g E' m' w := by
  obtain ⟨c, vs, h1, h2, h3, h4⟩ := h
  exact ⟨c, vs, h1, h2.more hE, Nat.le_trans h3 hm, Nat.le_trans h4 hm⟩
theorem CabG.rows {base g : Nat} {c : Cb} {us vs : Nat → Value} {w : World} (h : CabG base g c us vs w) : ∀ q, q < 6 → ∀ z, (vs q).ownBlock = some z → base ≤ z ∧ z < w.heap.size := fun q hq z hz => by
  match q, hq with
  | 0, _ => exact h.o0.rowlt z hz
  | 1, _ => exact h.o1.rowlt z hz
  | 2, _ => exact h.o2.rowlt z hz
  | 3, _ => exact h.o3.rowlt z hz
  | 4, _ => exact h.o4.rowlt z hz
  | 5, _ => exact h.o5.rowlt z hz
  | q + 6, h => omega
theorem lk_kinds {l : Lk} (h : l.check = 0) : (∀ f ∈ l.sent, f.kind ≠ 0) ∧ ∀ f ∈ l.queue, f.kind ≠ 0 := by
  obtain ⟨_, _, _, _, _, _, _, _, _, l10, l11, _⟩ := lk_zero h
  unfold frsOk at l10 l11
  rw [List.all_eq_true] at l10 l11
  exact ⟨fun f hf => kind_ne (by have := l10 f hf; simpa using this), fun f hf => kind_ne (by have := l11 f hf; simpa using this)⟩
theorem mem_cut {L : List Pkt} {k : Nat} {copied : Bool} : ∀ q ∈ (if copied then L else L.take k ++ L.drop (k + 1)), q ∈ L := by
  intro q hq
  cases copied with
  | true => exact hq
  | false =>
    rcases List.mem_append.1 (show q ∈ L.take k ++ L.drop (k + 1) from hq) with h | h
    · exact List.mem_of_mem_take h
    · exact List.mem_of_mem_drop h
theorem len_cut {L : List Pkt} {k : Nat} {copied : Bool} : (if copied then L else L.take k ++ L.drop (k + 1)).length ≤ L.length := by
  cases copied with
  | true => exact Nat.le_refl _
  | false =>
    show (L.take k ++ L.drop (k + 1)).length ≤ _
    rw [List.length_append, List.length_take, List.length_drop]; omega
theorem st_send (base g E m : Nat) (side : Int) (hs : side = 0 ∨ side = 1) (f : Fr) (fa : Option Addr) (fc : Nat) (w0 w : World) (hg : Good w) (hp : CabP base g E m w0) (hb : Below w0.heap.size w0 w) (hE : E ≤ 400) (hm : m ≤ 100000) (hf : FrOk f) (hfr : RdS (fun z => w0.heap.size ≤ z ∧ z < w.heap.size) w f.op fa f.op.length fc) :
    Calls Tryd.prog 16 #[.pointer (some ⟨g, 0, none⟩), .int .i64 side, .agg #[.int .i64 f.kind, .int .i64 f.heard, .int .i64 f.epoch, .slice fa f.op.length fc, .string f.text]] w fun e w' => e = .returned (.bool true) ∧ CabP base g (E + 1) (m + 16) w' ∧ Below base w w' := by
  obtain ⟨c, vs, m0, ho, h0, h1⟩ := hp
  have hgw := m0.lt
  have hgb := m0.gb
  have hfree : RdS (Free base g vs w) w f.op fa f.op.length fc := hfr.mono fun z hz => ⟨⟨by omega, hz.2, by omega, fun q hq e => by have := (m0.rows q hq z e).2; omega⟩, rfl⟩
  obtain ⟨q1, q2, q3, q4, q5, q6, q7, q8, -⟩ := ho.ok (by omega)
  rcases hs with rfl | rfl
  · obtain ⟨k1, k2, k3⟩ := ho.send hE hf
    refine (cab_send0 base g c vs f fa fc w hg (m0.go hb) hfree q3 hf.2 (by omega) (by omega) (by omega) (by omega)).mono ?_
    rintro e w' ⟨rfl, ⟨vs', m'⟩, hb'⟩
    exact ⟨by rw [k1]; rfl, ⟨_, vs', m', k2, by show c.f0.length ≤ _; omega, by show (c.f1 ++ _).length ≤ _; rw [List.length_append]; omega⟩, hb'⟩
  · obtain ⟨k1, k2, k3⟩ := ho.turn.send hE hf
    refine (cab_send1 base g c vs f fa fc w hg (m0.go hb) hfree q4 hf.2 (by omega) (by have := k3; show (c.e1.sendP f).length ≤ 1000; exact Nat.le_trans this (by omega)) (by omega) (by omega)).mono ?_
    rintro e w' ⟨rfl, ⟨vs', m'⟩, hb'⟩
    refine ⟨by rw [show c.e1.sendE f = 0 from k1]; rfl, ⟨_, vs', m', k2.turn, ?_, by show c.f1.length ≤ _; omega⟩, hb'⟩
    show (c.f0 ++ c.e1.sendP f).length ≤ _
    have : (c.e1.sendP f).length ≤ 8 := k3
    rw [List.length_append]; omega
set_option maxRecDepth 100000 in
theorem cab_nil0 (base g : Nat) (c : Cb) (vs : Nat → Value) (pick : Int) (copied : Bool) (w : World) (h : CabM base g c vs w) (h0 : c.f0 = []) :
    Calls Tryd.prog 28 #[.pointer (some ⟨g, 0, none⟩), .int .i64 0, .int .i64 pick, .bool copied] w fun e w' => e = .returned (.bool true) ∧ Below w.heap.size w w' := by
  obtain ⟨_, _, _, _, _, _, _, _, bM, -⟩ := h.box
  obtain ⟨-, -, p10, p11, p12, p13, p14, p15⟩ := blk16_cells bM
  obtain ⟨va, vn, hv, -⟩ := h.o0.form
  rw [hv, h0] at p10
  clear h bM hv
  go_enter Tryd.func28, Tryd.ntmps28
  go_wp2_with fail
  go_ret
  exact ⟨rfl, Below.refl _ _⟩
set_option maxRecDepth 100000 in
theorem cab_nil1 (base g : Nat) (c : Cb) (vs : Nat → Value) (pick : Int) (copied : Bool) (w : World) (h : CabM base g c vs w) (h0 : c.f1 = []) :
    Calls Tryd.prog 28 #[.pointer (some ⟨g, 0, none⟩), .int .i64 1, .int .i64 pick, .bool copied] w fun e w' => e = .returned (.bool true) ∧ Below w.heap.size w w' := by
  obtain ⟨_, _, _, _, _, _, _, _, bM, -⟩ := h.box
  obtain ⟨-, -, p10, p11, p12, p13, p14, p15⟩ := blk16_cells bM
  obtain ⟨va, vn, hv, -⟩ := h.o1.form
  rw [hv, h0] at p11
  clear h bM hv
  go_enter Tryd.func28, Tryd.ntmps28
  go_wp2_with fail
  go_ret
  exact ⟨rfl, Below.refl _ _⟩
theorem st_come (base g E m : Nat) (side : Int) (hs : side = 0 ∨ side = 1) (pick : Int) (hpi : I64 pick) (copied : Bool) (w : World) (hG : ∀ W, Below base w W → Good W) (hp : CabP base g E m w) (hE : E ≤ 400) (hm : m ≤ 100000) :
    Calls Tryd.prog 28 #[.pointer (some ⟨g, 0, none⟩), .int .i64 side, .int .i64 pick, .bool copied] w fun e w' => e = .returned (.bool true) ∧ CabP base g E (m + 16) w' ∧ Below base w w' := by
  obtain ⟨c, vs, m0, ho, h0, h1⟩ := hp
  have hgw := m0.lt
  have hgb := m0.gb
  obtain ⟨q1, q2, q3, q4, q5, q6, q7, q8, q9, q10⟩ := ho.ok (by omega)
  have hbb : ∀ {W : World}, Below w.heap.size w W → Below base w W := fun hb => (Touch.of_belowC hb).toBelow (by omega) (fun z hz => by omega)
  rcases hs with rfl | rfl
  · by_cases hn : c.f0 = []
    · refine (cab_nil0 base g c vs pick copied w m0 hn).mono ?_
      rintro e w' ⟨rfl, hb⟩
      exact ⟨rfl, (CabP.go ⟨c, vs, m0, ho, h0, h1⟩ hb).more (Nat.le_refl _) (by omega), hbb hb⟩
    · have hl := List.length_pos_iff.2 hn
      have hr := pk_range pick c.f0.length (by omega)
      obtain ⟨k, hk⟩ : ∃ k : Nat, pk pick c.f0.length = (k : Int) := ⟨(pk pick c.f0.length).toNat, by omega⟩
      have hkl : k < c.f0.length := by omega
      have hpm := List.getElem_mem hkl
      obtain ⟨a1, a2, a3, a4⟩ := ho.come hE hpm _ (mem_cut (k := k) (copied := copied))
      obtain ⟨b1, -⟩ := a3.ok (by omega)
      obtain ⟨d1, d2⟩ := lk_kinds b1
      refine (cab_come0 base g c vs pick copied k _ w hG m0 hpi hkl hk (List.getElem?_eq_getElem hkl) a1 q3 a2.2.2 (by omega) d1 d2 (by omega) (by omega) (by omega) (by omega)).mono ?_
      rintro e w' ⟨rfl, ⟨vs', m'⟩, hb'⟩
      refine ⟨rfl, ⟨_, vs', m', a3, ?_, ?_⟩, hb'⟩
      · exact Nat.le_trans len_cut (by omega)
      · show (c.f1 ++ _).length ≤ _
        rw [List.length_append]; omega
  · by_cases hn : c.f1 = []
    · refine (cab_nil1 base g c vs pick copied w m0 hn).mono ?_
      rintro e w' ⟨rfl, hb⟩
      exact ⟨rfl, (CabP.go ⟨c, vs, m0, ho, h0, h1⟩ hb).more (Nat.le_refl _) (by omega), hbb hb⟩
    · have hl := List.length_pos_iff.2 hn
      have hr := pk_range pick c.f1.length (by omega)
      obtain ⟨k, hk⟩ : ∃ k : Nat, pk pick c.f1.length = (k : Int) := ⟨(pk pick c.f1.length).toNat, by omega⟩
      have hkl : k < c.f1.length := by omega
      have hpm := List.getElem_mem hkl
      obtain ⟨a1, a2, a3, a4⟩ := ho.turn.come hE (show c.f1[k] ∈ c.turn.f0 from hpm) _ (mem_cut (L := c.f1) (k := k) (copied := copied))
      obtain ⟨b1, -⟩ := a3.ok (by omega)
      obtain ⟨d1, d2⟩ := lk_kinds b1
      refine (cab_come1 base g c vs pick copied k _ w hG m0 hpi hkl hk (List.getElem?_eq_getElem hkl) a1 q4 a2.2.2 (by omega) d1 d2 (Nat.le_trans a4 (by omega)) (by omega) (by omega) (by omega)).mono ?_
      rintro e w' ⟨rfl, ⟨vs', m'⟩, hb'⟩
      refine ⟨rfl, ⟨_, vs', m', a3.turn, ?_, ?_⟩, hb'⟩
      · show (c.f0 ++ c.e1.hearP c.f1[k]).length ≤ _
        have : (c.e1.hearP c.f1[k]).length ≤ 9 := a4
        rw [List.length_append]; omega
      · exact Nat.le_trans len_cut (by omega)
theorem st_tick (base g E m : Nat) (w : World) (hG : ∀ W, Below base w W → Good W) (hp : CabP base g E m w) (hE : E ≤ 400) (hm : m ≤ 100000) :
    Calls Tryd.prog 27 #[.pointer (some ⟨g, 0, none⟩)] w fun e w' => e = .returned (.bool true) ∧ CabP base g E (m + 16) w' ∧ Below base w w' := by
  obtain ⟨c, vs, m0, ho, h0, h1⟩ := hp
  obtain ⟨q1, q2, q3, q4, q5, q6, q7, q8, q9, q10⟩ := ho.ok (by omega)
  obtain ⟨a1, a2, a3⟩ := ho.ticks hE
  obtain ⟨b1, b2, b3⟩ := a1.turn.ticks hE
  have b2' : 0 < c.e1.tickP.length := b2
  have b3' : c.e1.tickP.length ≤ 8 := b3
  refine (cab_tick base g c vs w hG m0 q1 q2 q3 q4 ⟨a2, by omega⟩ ⟨b2', by omega⟩ (by omega) (by omega)).mono ?_
  rintro e w' ⟨rfl, ⟨vs', m'⟩, hb'⟩
  refine ⟨rfl, ⟨_, vs', m', b1.turn, ?_, ?_⟩, hb'⟩
  · show (c.f0 ++ c.e1.tickP).length ≤ _
    rw [List.length_append]; omega
  · show (c.f1 ++ c.e0.tickP).length ≤ _
    rw [List.length_append]; omega
/-- the head of what is on the way is lost -/
theorem Once.tail0 {E : Nat} {c : Cb} (h : Once E c) : Once E { c with f0 := c.f0.drop 1 } := h.lost _ fun _ hq => List.mem_of_mem_drop hq
theorem Once.tail1 {E : Nat} {c : Cb} (h : Once E c) : Once E { c with f1 := c.f1.drop 1 } := (h.turn.lost (c.f1.drop 1) fun _ hq => List.mem_of_mem_drop hq).turn
end Go.Proofs.YtkhacogeffidoaaDoor
