/- The walk of mason.add. -/
import Derived.Test.YtkbfhgcjimfgkaaDoorRows
import Derived.Test.YtkbfhgcjimfgkaaDoorBag
import Derived.BigQuiet
import Derived.Deep.QuietTactic
import Derived.Deep.RegionHeld3
import Derived.Deep.AppendLies
import Derived.Deep.RegionLaw
import Derived.BigRegion
import Derived.Deep.DeepFit
set_option linter.unusedVariables false
set_option linter.unusedSimpArgs false
namespace Go.Proofs.YtkbfhgcjimfgkaaDoor
open Go.RowKit

def triv (p : Part) : Bool := (decide (p.kind ≠ 2) && decide (p.n = 0)) || (decide (p.kind = 2) && emptyS p.text)
/-- add a part to parts, the last one first -/
def addR : List Part → Part → List Part
  | [], p => if triv p then [] else [p]
  | q :: r, p => if triv p then q :: r else if q.kind = p.kind then ⟨q.kind, q.n + p.n, q.text ++ p.text⟩ :: r else if p.kind = 2 ∧ q.kind = 3 then q :: addR r p else p :: q :: r
/-- numbers and texts that leave room -/
structure Mild (p : Part) : Prop where
  k : 0 ≤ p.kind ∧ p.kind ≤ 1000
  n : 0 ≤ p.n ∧ p.n ≤ 1000000000000
  t : p.text.size ≤ 1000000000000
theorem infoP : (Tryd.prog.info? 53).map (fun i => (i.zero, i.size, i.bytes)) = some (some (.agg #[.int .i64 0, .int .i64 0, .string ByteArray.empty]), 3, 32) := by kernel_rfl

def AddPost (T B b : Nat) (v : Value) (ex : List Value) (r : List Part) (w : World) (e : Ending) (w' : World) : Prop :=
  ∃ v', e = .returned (.tuple #[]) ∧ Bag T B b v' ex r.reverse w' ∧ Touch (Bag.S b v) w w' ∧ (v'.ownBlock = v.ownBlock ∨ ∀ g, v'.ownBlock = some g → w.heap.size ≤ g)

set_option maxHeartbeats 2000000 in
theorem add_triv (B b : Nat) (v : Value) (left : Int) (r : List Part) (p : Part) (w : World) (hm : Mild p) (hl : r.length ≤ 1000000000000) (ht : triv p = true)
    (hbag : Bag 91 B b v [.int .i64 left] r.reverse w) :
    Calls Tryd.prog 32 #[.pointer (some ⟨b, 0, none⟩), .agg #[.int .i64 p.kind, .int .i64 p.n, .string p.text]] w (AddPost 91 B b v [.int .i64 left] (addR r p) w) := by
  have he : addR r p = r := by cases r <;> simp [addR, ht]
  rw [he]
  clear he
  obtain ⟨a, c, hv⟩ := hbag.form
  have hlt := hbag.lt
  have hc0 := hbag.cell 0
  have hc1 := hbag.cell 1
  simp only [List.getElem?_cons_zero, List.getElem?_cons_succ] at hc0 hc1
  obtain ⟨pk, pn, pt⟩ := p
  have hfin : AddPost 91 B b v [.int .i64 left] r w (.returned (.tuple #[])) (w.alloc (.cells #[.int .i64 pk, .int .i64 pn, .string pt] 53)) :=
    ⟨v, rfl, hbag.keep fun k hk => Below.heap_alloc w _ k (by
      rcases hk with rfl | hk
      · exact hlt
      · exact (hbag.rowlt k hk).2), (Touch.refl _ _).alloc _, .inl rfl⟩
  have Hfin := Lib.hid hfin
  rw [hv] at hc0
  clear hfin hbag hv
  simp only [List.length_reverse] at hc0
  simp only [triv] at ht
  by_cases h2 : pk = 2
  · subst h2
    have he : pt.toList.isEmpty = true := by simpa [emptyS] using ht
    clear ht
    go_enter Tryd.func32, Tryd.ntmps32
    go_wp2_with fail
    go_end0
    exact Hfin.out
  · have h3 : (pk != 2) = true := by simpa using h2
    have h4 : (pn == 0) = true := by simpa [h2] using ht
    clear ht h2
    go_enter Tryd.func32, Tryd.ntmps32
    go_wp2_with fail
    go_end0
    exact Hfin.out

theorem add_fin {T B b : Nat} {v : Value} {a : Option Addr} {n c gg cap : Nat} {ex : List Value} {r : List Part} {w W w1 : World} (hbase : B ≤ b) (hv : v = .slice a n c) (hblk : w.heap[b]? = some (.cells (v :: ex).toArray T (0, 0)))
    (hbk1 : w1.heap[b]? = w.heap[b]?) (hown1 : w1.ownsRow B 53 3 (.slice (some ⟨gg, 0, none⟩) r.length cap) r.length (flat r.reverse)) (ht : Touch (Bag.S b v) w W) (hgrow : W.grownBy w1 (Value.slice a n c).ownBlock)
    (hat : (Value.slice a n c).ownBlock = some gg ∨ w.heap.size ≤ gg) (hT : T ≠ 53 := by decide) :
    AddPost T B b v ex r w (.returned (.tuple #[])) (w1.setCell ⟨b, 0, none⟩ (.slice (some ⟨gg, 0, none⟩) r.length cap)) := by
  subst hv
  refine ⟨_, rfl, Bag.put hbase (hbk1.trans hblk) (by simpa using hown1) hT, ?_, ?_⟩
  · exact (ht.grown hgrow (fun k hk => .inl (.inr hk))).setCell (p := ⟨b, 0, none⟩) (.inl (.inl rfl)) _
  · rcases hat with h | h
    · exact .inl h.symm
    · exact .inr fun g hg => by simp [Value.ownBlock] at hg; omega

set_option maxRecDepth 100000 in
set_option maxHeartbeats 2000000 in
theorem add_empty (B b : Nat) (v : Value) (left : Int) (p : Part) (w : World) (hm : Mild p) (ht : triv p = false)
    (hbag : Bag 91 B b v [.int .i64 left] [] w) :
    Calls Tryd.prog 32 #[.pointer (some ⟨b, 0, none⟩), .agg #[.int .i64 p.kind, .int .i64 p.n, .string p.text]] w (AddPost 91 B b v [.int .i64 left] [p] w) := by
  obtain ⟨i0, hi, hz0, hz1, hz2⟩ := info_parts infoP
  obtain ⟨a, c, hv⟩ := hbag.form
  have hlt := hbag.lt
  have hc0 := hbag.cell 0
  have hc1 := hbag.cell 1
  have hf0 := hbag.frozen 0
  simp only [List.getElem?_cons_zero, List.getElem?_cons_succ, List.length_nil] at hc0 hc1 hv
  rw [hv] at hc0
  have hown := hbag.own
  have hbase := hbag.base
  simp only [List.length_nil] at hown
  rw [hv] at hown
  have hrow := hbag.rowlt
  obtain ⟨pk, pn, pt⟩ := p
  simp only [triv] at ht
  have Hbag := Lib.hid hbag
  have Hv := Lib.hid hv
  clear hbag hv
  have hne : b ≠ w.heap.size := by omega
  have Hrow := Lib.hid hrow
  clear hrow
  have Hne : Hid ((Value.slice a 0 c).ownBlock ≠ some b) := by unfold Hid; rw [← Hv.out]; exact Hbag.out.ne
  have Hnw : Hid ((Value.slice a 0 c).ownBlock ≠ some w.heap.size) := by unfold Hid; rw [← Hv.out]; intro e; have := Hrow.out _ e; omega
  by_cases h2 : pk = 2
  · subst h2
    have he : pt.toList.isEmpty = false := by simpa [emptyS] using ht
    clear ht
    go_enter Tryd.func32, Tryd.ntmps32
    go_wp2_with fail
    go_quiet (fail)
    go_wp2_with fail
    go_region_law (((first | (refine step_append_lies _ (by rfl) _ _ _ (by rfl) B 53 i0 _ 3 32 Tryd.underlying42 hi hz0 hz1 hz2 rfl (by omega) (.slice a 0 c) 0 [] (by rfl) ((ownsRow_drewN (hown.alloc _) _).alloc _) ⟨w.heap.size + 1, 0, none⟩ 1 1 [.int .i64 2, .int .i64 pn, .string pt] (by rfl) (by rfl) (news_at (heap_new_at _ _ _ (by simp))) (by simp [Value.oneCell']) (by omega) (by unfold maxLen; omega) (by omega) (by simp; omega) (w.heap.size + 2) (by simp) ?_; intro gg cap w1 hown1 hgrow hat hlt1; have hbk1 : w1.heap[b]? = w.heap[b]? := (hgrow.block b (by simp; omega) (Ne.symm Hne.out)).trans ((Below.heap_alloc _ _ b (by simp; omega)).trans (Below.heap_alloc w _ b hlt)); have hf1 : w1.frozen? ⟨b, 0, none⟩ = false := (World.frozen?_of_block (a := ⟨b, 0, none⟩) hbk1).trans hf0; have hd1 := (cell_keep (o := 0) hbk1).trans hc0))))
    all_goals
      (try go_wp2_with fail)
      go_end0
      exact add_fin hbase Hv.out Hbag.out.blk hbk1 hown1 ((((Touch.refl _ w).alloc _).drewN _).alloc _) hgrow (hat.imp_right (fun h => by omega))
  · have h3 : (pk != 2) = true := by simpa using h2
    have h3' : (pk == 2) = false := by simpa using h2
    have h4 : (pn == 0) = false := by simpa [h2] using ht
    clear ht h2
    go_enter Tryd.func32, Tryd.ntmps32
    go_wp2_with fail
    go_quiet (fail)
    go_wp2_with fail
    go_region_law (((first | (refine step_append_lies _ (by rfl) _ _ _ (by rfl) B 53 i0 _ 3 32 Tryd.underlying42 hi hz0 hz1 hz2 rfl (by omega) (.slice a 0 c) 0 [] (by rfl) ((ownsRow_drewN (hown.alloc _) _).alloc _) ⟨w.heap.size + 1, 0, none⟩ 1 1 [.int .i64 pk, .int .i64 pn, .string pt] (by rfl) (by rfl) (news_at (heap_new_at _ _ _ (by simp))) (by simp [Value.oneCell']) (by omega) (by unfold maxLen; omega) (by omega) (by simp; omega) (w.heap.size + 2) (by simp) ?_; intro gg cap w1 hown1 hgrow hat hlt1; have hbk1 : w1.heap[b]? = w.heap[b]? := (hgrow.block b (by simp; omega) (Ne.symm Hne.out)).trans ((Below.heap_alloc _ _ b (by simp; omega)).trans (Below.heap_alloc w _ b hlt)); have hf1 : w1.frozen? ⟨b, 0, none⟩ = false := (World.frozen?_of_block (a := ⟨b, 0, none⟩) hbk1).trans hf0; have hd1 := (cell_keep (o := 0) hbk1).trans hc0))))
    all_goals
      (try go_wp2_with fail)
      go_end0
      exact add_fin hbase Hv.out Hbag.out.blk hbk1 hown1 ((((Touch.refl _ w).alloc _).drewN _).alloc _) hgrow (hat.imp_right (fun h => by omega))
set_option maxRecDepth 100000 in
set_option maxHeartbeats 2000000 in
theorem add_append (B b : Nat) (v : Value) (left : Int) (q : Part) (r : List Part) (p : Part) (w : World) (hm : Mild p) (hl : r.length ≤ 1000000000000) (ht : triv p = false) (hqp : q.kind ≠ p.kind) (hsw : ¬ (p.kind = 2 ∧ q.kind = 3))
    (hbag : Bag 91 B b v [.int .i64 left] (q :: r).reverse w) :
    Calls Tryd.prog 32 #[.pointer (some ⟨b, 0, none⟩), .agg #[.int .i64 p.kind, .int .i64 p.n, .string p.text]] w (AddPost 91 B b v [.int .i64 left] (p :: q :: r) w) := by
  obtain ⟨i0, hi, hz0, hz1, hz2⟩ := info_parts infoP
  obtain ⟨a, c, hv⟩ := hbag.form
  have hlt := hbag.lt
  have hc0 := hbag.cell 0
  have hc1 := hbag.cell 1
  have hf0 := hbag.frozen 0
  simp only [List.getElem?_cons_zero, List.getElem?_cons_succ, List.length_reverse, List.length_cons] at hc0 hc1 hv
  rw [hv] at hc0
  have hown := hbag.own
  have hbase := hbag.base
  simp only [List.length_reverse, List.length_cons] at hown
  rw [hv] at hown
  have hrow := hbag.rowlt
  obtain ⟨g, rfl, hg, hq0, hq1, hq2⟩ := hbag.last hv
  simp only [Value.ownBlock] at hg
  obtain ⟨pk, pn, pt⟩ := p
  obtain ⟨qk, qn, qt⟩ := q
  simp only at hqp hsw hq0 hq1 hq2
  have hnn : 0 < r.length + 1 := by omega
  have hgs := (hrow g (by rw [hv]; rfl)).2
  have hgne : g ≠ w.heap.size := by omega
  simp only [triv] at ht
  have Hbag := Lib.hid hbag
  have Hv := Lib.hid hv
  clear hbag hv
  have hne : b ≠ w.heap.size := by omega
  have Hrow := Lib.hid hrow
  clear hrow
  have Hne : Hid ((Value.slice (some ⟨g, 0, none⟩) (r.length + 1) c).ownBlock ≠ some b) := by unfold Hid; rw [← Hv.out]; exact Hbag.out.ne
  have Hnw : Hid ((Value.slice (some ⟨g, 0, none⟩) (r.length + 1) c).ownBlock ≠ some w.heap.size) := by unfold Hid; rw [← Hv.out]; intro e; have := Hrow.out _ e; omega
  by_cases h2 : pk = 2
  · subst h2
    have he : pt.toList.isEmpty = false := by simpa [emptyS] using ht
    have hb1 : (qk == 2) = false := by simpa using hqp
    have hb2 : (qk == 3) = false := by simpa using hsw
    clear ht hqp hsw
    go_enter Tryd.func32, Tryd.ntmps32
    go_wp2_with fail
    go_quiet (fail)
    go_wp2_with fail
    go_region_law (((first | (refine step_append_lies _ (by rfl) _ _ _ (by rfl) B 53 i0 _ 3 32 Tryd.underlying42 hi hz0 hz1 hz2 rfl (by omega) (.slice (some ⟨g, 0, none⟩) (r.length + 1) c) (r.length + 1) (flat ((⟨qk, qn, qt⟩ : Part) :: r).reverse) (by rfl) ((ownsRow_drewN (hown.alloc _) _).alloc _) ⟨w.heap.size + 1, 0, none⟩ 1 1 [.int .i64 2, .int .i64 pn, .string pt] (by rfl) (by rfl) (news_at (heap_new_at _ _ _ (by simp))) (by simp [Value.oneCell']) (by omega) (by unfold maxLen; omega) (by omega) (by simp; omega) (w.heap.size + 2) (by simp) ?_; intro gg cap w1 hown1 hgrow hat hlt1; have hbk1 : w1.heap[b]? = w.heap[b]? := (hgrow.block b (by simp; omega) (Ne.symm Hne.out)).trans ((Below.heap_alloc _ _ b (by simp; omega)).trans (Below.heap_alloc w _ b hlt)); have hf1 : w1.frozen? ⟨b, 0, none⟩ = false := (World.frozen?_of_block (a := ⟨b, 0, none⟩) hbk1).trans hf0; have hd1 := (cell_keep (o := 0) hbk1).trans hc0))))
    all_goals
      (try go_wp2_with fail)
      go_end0
      exact add_fin hbase Hv.out Hbag.out.blk hbk1 (by rw [flat_snoc]; exact hown1) ((((Touch.refl _ w).alloc _).drewN _).alloc _) hgrow (hat.imp_right (fun h => by omega))
  · have h3 : (pk != 2) = true := by simpa using h2
    have h3' : (pk == 2) = false := by simpa using h2
    have h4 : (pn == 0) = false := by simpa [h2] using ht
    have hb1 : (qk == pk) = false := by simpa using hqp
    clear ht h2 hqp hsw
    go_enter Tryd.func32, Tryd.ntmps32
    go_wp2_with fail
    go_quiet (fail)
    go_wp2_with fail
    go_region_law (((first | (refine step_append_lies _ (by rfl) _ _ _ (by rfl) B 53 i0 _ 3 32 Tryd.underlying42 hi hz0 hz1 hz2 rfl (by omega) (.slice (some ⟨g, 0, none⟩) (r.length + 1) c) (r.length + 1) (flat ((⟨qk, qn, qt⟩ : Part) :: r).reverse) (by rfl) ((ownsRow_drewN (hown.alloc _) _).alloc _) ⟨w.heap.size + 1, 0, none⟩ 1 1 [.int .i64 pk, .int .i64 pn, .string pt] (by rfl) (by rfl) (news_at (heap_new_at _ _ _ (by simp))) (by simp [Value.oneCell']) (by omega) (by unfold maxLen; omega) (by omega) (by simp; omega) (w.heap.size + 2) (by simp) ?_; intro gg cap w1 hown1 hgrow hat hlt1; have hbk1 : w1.heap[b]? = w.heap[b]? := (hgrow.block b (by simp; omega) (Ne.symm Hne.out)).trans ((Below.heap_alloc _ _ b (by simp; omega)).trans (Below.heap_alloc w _ b hlt)); have hf1 : w1.frozen? ⟨b, 0, none⟩ = false := (World.frozen?_of_block (a := ⟨b, 0, none⟩) hbk1).trans hf0; have hd1 := (cell_keep (o := 0) hbk1).trans hc0))))
    all_goals
      (try go_wp2_with fail)
      go_end0
      exact add_fin hbase Hv.out Hbag.out.blk hbk1 (by rw [flat_snoc]; exact hown1) ((((Touch.refl _ w).alloc _).drewN _).alloc _) hgrow (hat.imp_right (fun h => by omega))

set_option maxRecDepth 100000 in
set_option maxHeartbeats 2000000 in
theorem add_merge (B b : Nat) (v : Value) (left : Int) (q : Part) (r : List Part) (p : Part) (w : World) (hm : Mild p) (hmq : Mild q) (hl : r.length ≤ 1000000000000) (ht : triv p = false) (hqp : q.kind = p.kind)
    (hbag : Bag 91 B b v [.int .i64 left] (q :: r).reverse w) :
    Calls Tryd.prog 32 #[.pointer (some ⟨b, 0, none⟩), .agg #[.int .i64 p.kind, .int .i64 p.n, .string p.text]] w (AddPost 91 B b v [.int .i64 left] (⟨q.kind, q.n + p.n, q.text ++ p.text⟩ :: r) w) := by
  obtain ⟨a, c, hv⟩ := hbag.form
  have hlt := hbag.lt
  have hc0 := hbag.cell 0
  have hc1 := hbag.cell 1
  simp only [List.getElem?_cons_zero, List.getElem?_cons_succ, List.length_reverse, List.length_cons] at hc0 hc1 hv
  rw [hv] at hc0
  have hrow := hbag.rowlt
  obtain ⟨g, rfl, hg, hq0, hq1, hq2⟩ := hbag.last hv
  have hgs := (hrow g hg).2
  have hbgn : b ≠ g := fun e => hbag.ne (by rw [hg, e])
  have hown := hbag.own
  rw [hv] at hown
  simp only [List.length_reverse, List.length_cons] at hown
  have hf1 := hown.frozenAt (r.length * 3 + 1)
  have hf2 := hown.frozenAt (r.length * 3 + 2)
  have hgne : g ≠ w.heap.size := by omega
  have hne : b ≠ w.heap.size := by omega
  have hnn : 0 < r.length + 1 := by omega
  have hm1 := hm.n
  have hm2 := hmq.n
  have hadd : ∀ W : World, (Op.stringOp .add q.text p.text).run Tryd.prog W = .ok (.string (q.text ++ p.text)) W := fun W => run_string_add_sum W _ _ (by have h1 := hm.t; have h2 := hmq.t; omega)
  have Hfin : Hid (∀ W : World, Touch (fun _ => False) w W → AddPost 91 B b v [.int .i64 left] (⟨q.kind, q.n + p.n, q.text ++ p.text⟩ :: r) w (.returned (.tuple #[]))
      ((W.setCell ⟨g, r.length * 3 + 1, none⟩ (.int .i64 (q.n + p.n))).setCell ⟨g, r.length * 3 + 2, none⟩ (.string (q.text ++ p.text))).drew) := by
    unfold Hid
    intro W hW
    have hbW := hbag.touch hW (fun _ _ h => h)
    have hoW := hbW.own
    rw [hv] at hoW
    simp only [List.length_reverse, List.length_cons] at hoW
    have h1 := (hoW.stored (r.length * 3 + 1) (.int .i64 (q.n + p.n))).1
    have h2 := (h1.stored (r.length * 3 + 2) (.string (q.text ++ p.text))).1
    rw [flat_set ⟨q.kind, q.n + p.n, q.text ++ p.text⟩ q r rfl] at h2
    refine ⟨v, rfl, ⟨hbag.base, ?_, ?_, hbag.ne⟩, ?_, .inl rfl⟩
    · show ((W.setCell ⟨g, r.length * 3 + 1, none⟩ (.int .i64 (q.n + p.n))).setCell ⟨g, r.length * 3 + 2, none⟩ (.string (q.text ++ p.text))).heap[b]? = _
      rw [Below.heap_setCell _ _ _ _ hbgn, Below.heap_setCell _ _ _ _ hbgn]
      exact hbW.blk
    · rw [hv]
      exact ownsRow_drew (by simpa using h2)
    · exact (((hW.mono (fun _ _ h => h.elim)).setCell (p := ⟨g, r.length * 3 + 1, none⟩) (.inl (.inr hg)) _).setCell (p := ⟨g, r.length * 3 + 2, none⟩) (.inl (.inr hg)) _).drew
  clear hown hbag hrow hm hmq hv hg
  obtain ⟨pk, pn, pt⟩ := p
  obtain ⟨qk, qn, qt⟩ := q
  simp only at hqp hq0 hq1 hq2 hm1 hm2 hadd Hfin
  subst hqp
  simp only [triv] at ht
  by_cases h2 : qk = 2
  · subst h2
    have he : pt.toList.isEmpty = false := by simpa [emptyS] using ht
    clear ht
    go_enter Tryd.func32, Tryd.ntmps32
    go_wp2_with fail
    go_quiet (fail)
    go_wp2_with fail
    go_region
    go_wp2_with fail
    go_region
    go_wp2_with fail
    go_end0
    exact Hfin.out _ (((Touch.refl _ w).alloc _).drewN _)
  · have h3 : (qk != 2) = true := by simpa using h2
    have h3' : (qk == 2) = false := by simpa using h2
    have h4 : (pn == 0) = false := by simpa [h2] using ht
    clear ht h2
    go_enter Tryd.func32, Tryd.ntmps32
    go_wp2_with fail
    go_quiet (fail)
    go_wp2_with fail
    go_region
    go_wp2_with fail
    go_region
    go_wp2_with fail
    go_end0
    exact Hfin.out _ (((Touch.refl _ w).alloc _).drewN _)

theorem addR_len (r : List Part) (p : Part) : (addR r p).length ≤ r.length + 1 := by
  induction r with
  | nil => simp only [addR]; split <;> simp
  | cons q r ih => simp only [addR]; (repeat' split) <;> simp <;> omega

set_option maxRecDepth 100000 in
set_option maxHeartbeats 4000000 in
theorem add_swap (B b : Nat) (v : Value) (left : Int) (q : Part) (r : List Part) (p : Part) (w : World) (hl : r.length ≤ 1000000000000) (ht : triv p = false) (hp2 : p.kind = 2) (hq3 : q.kind = 3)
    (ih : ∀ (v : Value) (w : World), Bag 91 B b v [.int .i64 left] r.reverse w →
      Calls Tryd.prog 32 #[.pointer (some ⟨b, 0, none⟩), .agg #[.int .i64 p.kind, .int .i64 p.n, .string p.text]] w (AddPost 91 B b v [.int .i64 left] (addR r p) w))
    (hbag : Bag 91 B b v [.int .i64 left] (q :: r).reverse w) :
    Calls Tryd.prog 32 #[.pointer (some ⟨b, 0, none⟩), .agg #[.int .i64 p.kind, .int .i64 p.n, .string p.text]] w (AddPost 91 B b v [.int .i64 left] (q :: addR r p) w) := by
  obtain ⟨i0, hi, hz0, hz1, hz2⟩ := info_parts infoP
  obtain ⟨a, c, hv⟩ := hbag.form
  have hlt := hbag.lt
  have hc0 := hbag.cell 0
  have hc1 := hbag.cell 1
  have hf0 := hbag.frozen 0
  simp only [List.getElem?_cons_zero, List.getElem?_cons_succ, List.length_reverse, List.length_cons] at hc0 hc1 hv
  rw [hv] at hc0
  have hrow := hbag.rowlt
  obtain ⟨g, rfl, hg, hq0, hq1, hq2⟩ := hbag.last hv
  have hgs := (hrow g hg).2
  have hbgn : b ≠ g := fun e => hbag.ne (by rw [hg, e])
  have hgne : g ≠ w.heap.size := by omega
  have hne : b ≠ w.heap.size := by omega
  have hnn : 0 < r.length + 1 := by omega
  have hcap : r.length + 1 ≤ c := by
    rcases hbag.own.2 with ⟨_, h0⟩ | ⟨g', cap, cur, hv', _, _, hnc, _⟩
    · simp at h0
    · rw [hv] at hv'; injection hv' with _ _ h3; simp at hnc; omega
  -- the world in which the inner call begins
  have Hcut : Hid (∀ W : World, Touch (fun _ => False) w W → Bag 91 B b (.slice (some ⟨g, 0, none⟩) r.length c) [.int .i64 left] r.reverse (W.setCell ⟨b, 0, none⟩ (.slice (some ⟨g, 0, none⟩) r.length c))) := by
    unfold Hid
    intro W hW
    have hbW := hbag.touch hW (fun _ _ h => h)
    have hoW := hbW.own
    rw [hv] at hoW
    simp only [List.length_reverse, List.length_cons] at hoW
    have h1 := ownsRow_cut hoW r.length (by omega)
    rw [flat_snoc] at h1
    have h2 : (flat r.reverse ++ partCells q).take (r.length * 3) = flat r.reverse := by
      have := flat_len r.reverse
      rw [List.length_reverse] at this
      rw [← this, List.take_left]
    rw [h2] at h1
    exact Bag.put hbag.base hbW.blk (by simpa using h1) (by decide)
  have Hbag := Lib.hid hbag
  have Hv := Lib.hid hv
  have Hg := Lib.hid hg
  have Hih := Lib.hid ih
  clear hbag hv hg ih hrow
  obtain ⟨pk, pn, pt⟩ := p
  obtain ⟨qk, qn, qt⟩ := q
  simp only at hp2 hq3 hq0 hq1 hq2 Hih
  subst hp2 hq3
  have he : pt.toList.isEmpty = false := by simpa [emptyS, triv] using ht
  clear ht
  go_enter Tryd.func32, Tryd.ntmps32
  go_wp2_with fail
  go_quiet (fail)
  go_wp2_with fail
  refine (Hih.out _ _ ((Hcut.out _ ?ht).alloc _)).mono ?_
  case ht => exact (((Touch.refl _ w).alloc _).drewN _)
  rintro e w2 ⟨v2, rfl, hbag2, ht2, hat2⟩
  obtain ⟨a2, c2, hv2⟩ := hbag2.form
  simp only [List.length_reverse] at hv2
  have hsz2 := ht2.size
  simp at hsz2
  have hS : ∀ k, w.heap.size ≤ k → ¬ Bag.S b (.slice (some ⟨g, 0, none⟩) r.length c) k := by
    rintro k hk (rfl | h)
    · omega
    · simp [Value.ownBlock] at h; omega
  have d0 : w2.cell? ⟨w.heap.size + 1, 0, none⟩ = some (.int .i64 3) := (ht2.cell (b := w.heap.size + 1) (o := 0) (by simp) (hS _ (by omega))).trans (by rw [cell_of_row _ _ _ _ _ _ (heap_new_at _ _ _ (by simp))]; rfl)
  have d1 : w2.cell? ⟨w.heap.size + 1, 1, none⟩ = some (.int .i64 qn) := (ht2.cell (b := w.heap.size + 1) (o := 1) (by simp) (hS _ (by omega))).trans (by rw [cell_of_row _ _ _ _ _ _ (heap_new_at _ _ _ (by simp))]; rfl)
  have d2 : w2.cell? ⟨w.heap.size + 1, 2, none⟩ = some (.string qt) := (ht2.cell (b := w.heap.size + 1) (o := 2) (by simp) (hS _ (by omega))).trans (by rw [cell_of_row _ _ _ _ _ _ (heap_new_at _ _ _ (by simp))]; rfl)
  have hown := hbag2.own
  rw [hv2] at hown
  simp only [List.length_reverse] at hown
  have c0 := hbag2.cell 0
  have f0 := hbag2.frozen 0
  have hlt2 := hbag2.lt
  simp only [List.getElem?_cons_zero] at c0
  rw [hv2] at c0
  have hne2 := hbag2.ne
  rw [hv2] at hne2
  have Hne2 := Lib.hid hne2
  have Hv2 := Lib.hid hv2
  have Hbag2 := Lib.hid hbag2
  have Ht2 := Lib.hid ht2
  have Hat2 := Lib.hid hat2
  have hbase := hbag2.base
  have hlen := addR_len r ⟨2, pn, pt⟩
  clear hne2 hv2 hbag2 ht2 hat2 hS Hcut Hih
  generalize addR r ⟨2, pn, pt⟩ = R at *
  clear hc0 hc1 hq0 hq1 hq2 hf0
  go_wp2_with fail
  go_region_law (((first | (refine step_append_lies _ (by rfl) _ _ _ (by rfl) B 53 i0 _ 3 32 Tryd.underlying42 hi hz0 hz1 hz2 rfl (by omega) (.slice a2 R.length c2) R.length (flat R.reverse) (by rfl) ((ownsRow_drew hown).alloc _) ⟨w2.heap.size, 0, none⟩ 1 1 [.int .i64 3, .int .i64 qn, .string qt] (by rfl) (by rfl) (news_at (heap_new_at _ _ _ (by simp))) (by simp [Value.oneCell']) (by omega) (by unfold maxLen; omega) (by omega) (by simp; omega) (w2.heap.size + 1) (by simp) ?_; intro gg cap w3 hown1 hgrow hat hlt1; have hbk1 : w3.heap[b]? = w2.heap[b]? := (hgrow.block b (by first | (simp; omega) | (simp only [World.size_alloc]; omega) | omega) (Ne.symm Hne2.out)).trans (Below.heap_alloc _ _ b (by first | (simp; omega) | omega)); have hf1 : w3.frozen? ⟨b, 0, none⟩ = false := (World.frozen?_of_block (a := ⟨b, 0, none⟩) hbk1).trans f0; have hd1 := (cell_keep (o := 0) hbk1).trans c0))))
  all_goals
    (try go_wp2_with fail)
    go_end0
    have hbag2 := Hbag2.out
    have hbk := hbag2.blk
    refine ⟨_, rfl, Bag.put hbase (hbk1.trans hbk) (by rw [flat_snoc]; simpa [partCells] using hown1) (by decide), ?_, ?_⟩
    · have t0 : Touch (Bag.S b v) w _ := ((((Touch.refl (Bag.S b v) w).alloc (.cells #[.int .i64 2, .int .i64 pn, .string pt] 53)).drewN nq).setCell (p := ⟨b, 0, none⟩) (.inl (.inl rfl)) (.slice (some ⟨g, 0, none⟩) r.length c)).alloc (.cells #[.int .i64 3, .int .i64 qn, .string qt] 53)
      have t1 := t0.then_ Ht2.out (fun k _ h => by
        rcases h with rfl | h
        · exact .inl rfl
        · exact .inr (Hg.out.trans h))
      refine ((t1.drew.alloc _).grown hgrow (fun k hk => ?_)).setCell (p := ⟨b, 0, none⟩) (.inl (.inl rfl)) _
      rw [← Hv2.out] at hk
      rcases Hat2.out with h | h
      · exact .inl (.inr (by rw [Hg.out, ← hk, h]; rfl))
      · have := h k hk; simp at this; exact .inr (by omega)
    · rcases hat with h | h
      · rw [← Hv2.out] at h
        rcases Hat2.out with h2 | h2
        · exact .inl (by rw [Hg.out]; show some gg = some g; rw [← h, h2]; rfl)
        · exact .inr fun k hk => by simp [Value.ownBlock] at hk; subst hk; have := h2 _ h; simp at this; omega
      · exact .inr fun k hk => by simp [Value.ownBlock] at hk; omega

theorem addR_nil {p : Part} (ht : triv p = false) : addR [] p = [p] := by simp [addR, ht]
theorem addR_merge {p q : Part} {r : List Part} (ht : triv p = false) (h : q.kind = p.kind) : addR (q :: r) p = ⟨q.kind, q.n + p.n, q.text ++ p.text⟩ :: r := by simp only [addR, ht]; rw [if_neg (by decide), if_pos h]
theorem addR_swap {p q : Part} {r : List Part} (ht : triv p = false) (h : ¬ q.kind = p.kind) (h2 : p.kind = 2 ∧ q.kind = 3) : addR (q :: r) p = q :: addR r p := by simp only [addR, ht]; rw [if_neg (by decide), if_neg h, if_pos h2]
theorem addR_more {p q : Part} {r : List Part} (ht : triv p = false) (h : ¬ q.kind = p.kind) (h2 : ¬ (p.kind = 2 ∧ q.kind = 3)) : addR (q :: r) p = p :: q :: r := by simp only [addR, ht]; rw [if_neg (by decide), if_neg h, if_neg h2]
theorem add_any (B b : Nat) (left : Int) (p : Part) (hm : Mild p) : ∀ (r : List Part) (v : Value) (w : World), (∀ q ∈ r, Mild q) → r.length ≤ 1000000000000 →
    Bag 91 B b v [.int .i64 left] r.reverse w →
    Calls Tryd.prog 32 #[.pointer (some ⟨b, 0, none⟩), .agg #[.int .i64 p.kind, .int .i64 p.n, .string p.text]] w (AddPost 91 B b v [.int .i64 left] (addR r p) w)
  | [], v, w, _, hl, hbag => by
    cases ht : triv p with
    | true => exact add_triv B b v left [] p w hm hl ht hbag
    | false => rw [addR_nil ht]; exact add_empty B b v left p w hm ht hbag
  | q :: r, v, w, hq, hl, hbag => by
    have hl' : r.length ≤ 1000000000000 := by simp at hl; omega
    cases ht : triv p with
    | true => exact add_triv B b v left (q :: r) p w hm hl ht hbag
    | false =>
      by_cases h1 : q.kind = p.kind
      · rw [addR_merge ht h1]; exact add_merge B b v left q r p w hm (hq q (by simp)) hl' ht h1 hbag
      · by_cases h2 : p.kind = 2 ∧ q.kind = 3
        · rw [addR_swap ht h1 h2]; exact add_swap B b v left q r p w hl' ht h2.1 h2.2 (fun v w hb => add_any B b left p hm r v w (fun q hq' => hq q (by simp [hq'])) hl' hb) hbag
        · rw [addR_more ht h1 h2]; exact add_append B b v left q r p w hm hl' ht h1 h2 hbag
end Go.Proofs.YtkbfhgcjimfgkaaDoor
