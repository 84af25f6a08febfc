/- slices.Backward at operations: what the iterator hands to a loop's body. -/
import Derived.RangeFuncNested
import Derived.RangeFuncBound
import Derived.RangeFuncCalls
import Derived.RangeFuncLeaves
import Derived.RangeFuncBox
import Derived.Shelf.Abstract
import Derived.Shelf.RegionOpen
import Derived.WalkKit
import Derived.OwnWalkIn
import Derived.TacticsInMore
import Derived.LoopNIn
import Derived.LoopIn
import Derived.Test.YtkbfhgcjimfgkaaDoorNd
import Derived.Test.YtkbfhgcjimfgkaaDoorText2
set_option linter.unusedVariables false
set_option linter.unusedSimpArgs false
namespace Go.Proofs.YtkbfhgcjimfgkaaDoor
open Go.RowKit Go.Shelf
attribute [local go_sem] Oper.semAt_some

def upTo {α : Type} (f : Nat → α) (k : Nat) : List α := (List.range k).map f
theorem upTo_succ {α : Type} (f : Nat → α) (k : Nat) : upTo f (k + 1) = upTo f k ++ [f k] := by simp [upTo, List.range_succ]
theorem upTo_length {α : Type} (f : Nat → α) (k : Nat) : (upTo f k).length = k := by simp [upTo]
/-- what a round keeps: what lies below, and the iterator's box -/
def KeepB (n₀ Bs : Nat) (W W' : World) : Prop := Below n₀ W W' ∧ W'.heap[Bs]? = W.heap[Bs]?
theorem keepB_t {n₀ Bs : Nat} {A B C : World} (h : KeepB n₀ Bs A B) (k : KeepB n₀ Bs B C) : KeepB n₀ Bs A C := ⟨h.1.trans k.1, k.2.trans h.2⟩
theorem keepB_b {n₀ Bs : Nat} {w : World} (hn : n₀ ≤ w.heap.size) (hB : Bs < w.heap.size) (W : World) (l : Nat) (o o' : Obj) (hl : w.heap.size ≤ l) (h : W.heap[l]? = some o) (h1 : o.isCells = false) (h2 : o.isWalk = false) : KeepB n₀ Bs W (W.putObj l o') :=
  ⟨belowK_b hn W l o o' hl h h1 h2, (grownBy_putObj' W l o').block Bs (by have := (Array.getElem?_eq_some_iff.1 h).1; omega) (by simp; omega)⟩
theorem KeepsOthers.of_below {W W' : World} (h : Below W.heap.size W W') : KeepsOthers W W' := ⟨h.size, fun k o hk _ => (h.block k (Array.getElem?_eq_some_iff.1 hk).1).trans hk⟩
set_option maxRecDepth 100000 in
set_option maxHeartbeats 2000000 in
theorem back1_in {α : Type} (f : Nat → α) (enc : α → Array Value) (vs : Nat → Value) (F : Fence) (n : Nat) (h7 : F.fn 72) (hro : F.round = none) (hn : 1 ≤ n) (l Bs n₀ b off len cap : Nat) (hcap : len ≤ cap) (hreach : cap ≤ maxLen) (hb : b < n₀) (J Jx : List α → World → Prop)
    (henc : ∀ k, k < len → enc (f k) = #[.int .i64 ((len - 1 - k : Nat) : Int), vs k])
    (hY : ∀ pre x W, J pre W → pre.length < len → YieldAt F (n - 1) Tryd.prog l (enc x) W fun e W' =>
      (e = .returned (.bool true) ∧ J (pre ++ [x]) W' ∧ KeepB n₀ Bs W W') ∨ (e = .returned (.bool false) ∧ Jx (pre ++ [x]) W'))
    (W : World) (hBs : W.cell? ⟨Bs, 0, none⟩ = some (.slice (some ⟨b, off, none⟩) len cap)) (hc : ∀ k, k < len → W.cell? ⟨b, off + (len - 1 - k), none⟩ = some (vs k)) (h0 : J [] W) :
    CallsIn F n Tryd.prog 72 #[.func (.yield l) #[] #[], .pointer (some ⟨Bs, 0, none⟩)] W fun e W' => (∃ v, e = .returned v) ∧
      ((∃ ys, ys = upTo f len ∧ J ys W') ∨ (∃ pre, (∃ k, k ≤ len ∧ pre = upTo f k) ∧ Jx pre W')) := by
  unfold maxLen at hreach
  refine callsIn_of_wp Tryd.func72 rfl h7 ?_ hro
  simp only [Tryd.ntmps72, List.size_toArray, List.length_cons, List.length_nil, Nat.reduceAdd, Nat.reduceSub, Array.replicate_succ, Array.replicate_zero, List.push_toArray, List.append_toArray, List.nil_append, List.cons_append]
  gi_wp2
  gi_loopw [3] (fun i wr => ∃ k : Nat, k ≤ len ∧ i = .int .i64 ((len : Int) - 1 - (k : Int)) ∧ J (upTo f k) wr ∧ KeepB n₀ Bs W wr)
    (fun i _ => (intOf i + 1).toNat)
  case atStart => exact ⟨0, Nat.zero_le _, by simp, h0, Below.refl _ _, rfl⟩
  case round =>
    obtain ⟨k, hk, rfl, hJs, hnx⟩ := hrel
    have hbs := (cell_keep hnx.2).trans hBs
    by_cases hlt : k < len
    · obtain ⟨fn, tmps, assign, body, hy, hR⟩ := hY _ (f k) wr hJs (by rw [upTo_length]; exact hlt)
      have hcx' := (hnx.1.cell (p := ⟨b, off + (len - 1 - k), none⟩) hb).trans (hc k hlt)
      rw [henc k hlt] at hy
      obtain ⟨q, hq⟩ : ∃ q : Nat, q = len - 1 - k := ⟨_, rfl⟩
      have hq' : (len : Int) - 1 - (k : Int) = (q : Int) := by omega
      rw [← hq] at hy hcx'
      rw [hq']
      have hq0 : (0 : Int) ≤ (q : Int) := by omega
      have hql : (q : Int) < (len : Int) := by omega
      have hqc : (q : Int) < (cap : Int) := by omega
      have hqp : (q : Int) - 1 = (len : Int) - 1 - ((k + 1 : Nat) : Int) := by omega
      have Hqp := Lib.hid hqp
      have Hq' := Lib.hid hq'
      have Hq := Lib.hid hq
      clear hqp hq hq'
      gi_wp2
      refine hR.mono ?_
      rintro e W3 (⟨rfl, hJ3, hk3⟩ | ⟨rfl, hJx3⟩)
      · gi_wp2
        go_roundw
        case rel => exact ⟨k + 1, by omega, by rw [Hqp.out], by rw [upTo_succ]; exact hJ3, keepB_t hnx hk3⟩
        case measure =>
          have := Hq'.out
          simp [intOf]
      · gi_wp2
        refine bodyPost_ret (results_none rfl _ _ _) rfl ?_
        exact ⟨⟨_, rfl⟩, .inr ⟨_, ⟨k + 1, by omega, (upTo_succ _ _).symm⟩, hJx3⟩⟩
    · obtain rfl : k = len := by omega
      have hm : (k : Int) - 1 - (k : Int) = -1 := by omega
      rw [hm]
      gi_wp2
      go_end0
      exact ⟨⟨_, rfl⟩, .inl ⟨_, rfl, hJs⟩⟩
set_option maxRecDepth 100000 in
set_option maxHeartbeats 1000000 in
theorem back1_nil_in {α : Type} (F : Fence) (n : Nat) (h7 : F.fn 72) (hro : F.round = none) (l Bs : Nat) (a : Option Addr) (cap : Nat) (J : List α → World → Prop) (W : World) (hBs : W.cell? ⟨Bs, 0, none⟩ = some (.slice a 0 cap)) (h0 : J [] W) :
    CallsIn F n Tryd.prog 72 #[.func (.yield l) #[] #[], .pointer (some ⟨Bs, 0, none⟩)] W fun e W' => (∃ v, e = .returned v) ∧ J [] W' := by
  refine callsIn_of_wp Tryd.func72 rfl h7 ?_ hro
  simp only [Tryd.ntmps72, List.size_toArray, List.length_cons, List.length_nil, Nat.reduceAdd, Nat.reduceSub, Array.replicate_succ, Array.replicate_zero, List.push_toArray, List.append_toArray, List.nil_append, List.cons_append]
  gi_wp2
  gi_loopw [3] (fun i wr => i = .int .i64 (-1) ∧ J [] wr) (fun _ _ => 0)
  case atStart => exact ⟨rfl, h0⟩
  case round =>
    obtain ⟨rfl, hJs⟩ := hrel
    gi_wp2
    go_end0
    exact ⟨⟨_, rfl⟩, hJs⟩
set_option maxHeartbeats 1000000 in
/-- slices.Backward(l): the slice value is boxed; the function value captures the box. -/
theorem back_in (F : Fence) (n : Nat) (h5 : F.fn 52) (hro : F.round = none) (a : Option Addr) (len cap : Nat) (w : World) :
    CallsIn F n Tryd.prog 52 #[.slice a len cap] w fun e w' => e = .returned (.func (.func 72) #[] #[.pointer (some ⟨w.heap.size, 0, none⟩)]) ∧ w' = w.alloc (.cells #[.slice a len cap] 28) := by
  refine callsIn_of_wp Tryd.func52 rfl h5 ?_ hro
  simp only [Tryd.ntmps52, List.size_toArray, List.length_cons, List.length_nil, Nat.reduceAdd, Nat.reduceSub, Array.replicate_succ, Array.replicate_zero, List.push_toArray, List.append_toArray, List.nil_append, List.cons_append]
  gi_wp2
  go_ret
  exact ⟨rfl, rfl⟩
theorem small_nil : Small [] := by unfold Small; simp
/-- what the loop's body may know of what it is handed: an operation that lies there, and its place -/
structure Seen (w0 : World) where
  i : Nat
  o : Op
  a : Option Addr
  c : Nat
  rd : RdS (· < w0.heap.size) w0 o a o.length c
  sm : Small o
def Seen.enc {w0 : World} (x : Seen w0) : Array Value := #[.int .i64 (x.i : Int), .slice x.a x.o.length x.c]
/-- slices.Backward at what reads as a list of operations: the last one comes first -/
theorem back_stops (F : Fence) (n : Nat) (h7 : F.fn 72) (hro : F.round = none) (hn : 1 ≤ n) (w0 w : World) (Bs : Nat) (l : List Op) (a : Option Addr) (c : Nat) (hr : RdS (· < w0.heap.size) w0 l a l.length c) (hsm : ∀ o ∈ l, Small o) (hb : Below w0.heap.size w0 w) (hBs : w0.heap.size ≤ Bs) (hBw : Bs < w.heap.size) (hc : w.cell? ⟨Bs, 0, none⟩ = some (.slice a l.length c)) :
    SeqStopsK F n Tryd.prog 72 #[.pointer (some ⟨Bs, 0, none⟩)] (Seen.enc (w0 := w0)) (KeepB w0.heap.size Bs) (fun ys => ys.map Seen.o = l.reverse) (fun pre => pre.map Seen.o <+: l.reverse) l.length w := fun lb J Jx W hW _ _ hY h0 => by
  have hc' := (hW.cell (p := ⟨Bs, 0, none⟩) hBw).trans hc
  by_cases hz : l.length = 0
  · have hnil : l = [] := List.eq_nil_of_length_eq_zero hz
    subst hnil
    exact (back1_nil_in F n h7 hro lb Bs a c J W hc' h0).mono fun e W' ⟨he, hj⟩ => ⟨he, .inl ⟨[], rfl, hj⟩⟩
  · obtain ⟨b, off, rfl, hA, hbl, hcl⟩ := hr.rowO (by omega)
    have hex : ∀ k : Nat, ∃ x : Seen w0, k < l.length → x.i = l.length - 1 - k ∧ l[l.length - 1 - k]? = some x.o ∧ w0.cell? ⟨b, off + (l.length - 1 - k), none⟩ = some (.slice x.a x.o.length x.c) := by
      intro k
      by_cases hk : k < l.length
      · obtain ⟨a', n', c', h1, h2⟩ := hcl (l.length - 1 - k) (by omega)
        have h3 := h1.1
        subst h3
        exact ⟨⟨l.length - 1 - k, l[l.length - 1 - k], a', c', h1, hsm _ (List.getElem_mem _)⟩, fun _ => ⟨rfl, List.getElem?_eq_getElem _, h2⟩⟩
      · exact ⟨⟨0, [], none, 0, RdS.nil _ _, small_nil⟩, fun h => absurd h hk⟩
    have hf := fun k => Classical.choose_spec (hex k)
    generalize hff : (fun k => Classical.choose (hex k)) = f at *
    have hf' : ∀ k, k < l.length → (f k).i = l.length - 1 - k ∧ l[l.length - 1 - k]? = some (f k).o ∧ w0.cell? ⟨b, off + (l.length - 1 - k), none⟩ = some (.slice (f k).a (f k).o.length (f k).c) := fun k hk => by rw [← hff]; exact hf k hk
    have hup : ∀ k, k ≤ l.length → (upTo f k).map Seen.o = l.reverse.take k := by
      intro k
      induction k with
      | zero => intro _; rfl
      | succ k ih =>
        intro hk
        rw [upTo_succ, List.map_append, ih (by omega), List.map_cons, List.map_nil, List.take_succ_eq_append_getElem (by simp; omega)]
        congr 2
        have := (hf' k (by omega)).2.1
        rw [List.getElem_reverse]
        obtain ⟨_, h⟩ := List.getElem?_eq_some_iff.1 this
        exact h.symm
    refine (back1_in f Seen.enc (fun k => .slice (f k).a (f k).o.length (f k).c) F n h7 hro hn lb Bs w0.heap.size b off l.length c hr.2.1 hr.2.2.1 hbl J Jx (fun k hk => by unfold Seen.enc; rw [(hf' k hk).1]) hY W hc' (fun k hk => ((hW.cell (p := ⟨b, off + (l.length - 1 - k), none⟩) (Nat.lt_of_lt_of_le hbl hb.size)).trans (hb.cell (p := ⟨b, off + (l.length - 1 - k), none⟩) hbl)).trans (hf' k hk).2.2) h0).mono ?_
    rintro e W' ⟨he, ⟨ys, rfl, hj⟩ | ⟨pre, ⟨k, hk, rfl⟩, hj⟩⟩
    · exact ⟨he, .inl ⟨_, by show (upTo f l.length).map Seen.o = _; rw [hup _ (Nat.le_refl _), List.take_of_length_le (by simp)], hj⟩⟩
    · exact ⟨he, .inr ⟨_, by show (upTo f k).map Seen.o <+: _; rw [hup k hk]; exact List.take_prefix _ _, hj⟩⟩
end Go.Proofs.YtkbfhgcjimfgkaaDoor
