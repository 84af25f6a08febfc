/- The walks of wherrykeep.op with Op's own closure, of that closure, of wherrykeep.Op. -/
import Derived.Test.YtkbfhgcjimfgkaaDoorKeep
import Derived.Test.YtkbfhgcjimfgkaaDoorMason
set_option linter.unusedVariables false
set_option linter.unusedSimpArgs false
namespace Go.Proofs.YtkbfhgcjimfgkaaDoor
open Go.RowKit

structure Raw where
  kind : Int
  a : Int
  b : Int
  c : Int
  text : Str
def rawCells (x : Raw) : List Value := [.int .i64 x.kind, .int .i64 x.a, .int .i64 x.b, .int .i64 x.c, .string x.text]
def rawV (x : Raw) : Value := .agg #[.int .i64 x.kind, .int .i64 x.a, .int .i64 x.b, .int .i64 x.c, .string x.text]
def Raw.ok (x : Raw) : Prop := I64 x.kind ∧ I64 x.a ∧ I64 x.b ∧ I64 x.c ∧ x.text.size ≤ maxLen
instance : Rep Raw where
  n := 5
  rd := fun _ _ x cs => cs = rawCells x ∧ x.ok
  len := fun h => by rw [h.1]; rfl
  mono := fun _ h => h
  one := fun h => by rw [h.1]; simp [rawCells, Value.oneCell']
  pos := by decide
/-- one element of a slice of raw things -/
theorem RdS.raw {A : Nat → Prop} {w : World} {l : List Raw} {a : Option Addr} {n c : Nat} (hr : RdS A w l a n c) (hn : 0 < n) :
    ∃ b off, a = some ⟨b, off, none⟩ ∧ A b ∧ b < w.heap.size ∧ ∀ i (h : i < l.length), l[i].ok ∧
      w.cell? ⟨b, off + i * 5, none⟩ = some (.int .i64 l[i].kind) ∧ w.cell? ⟨b, off + i * 5 + 1, none⟩ = some (.int .i64 l[i].a) ∧ w.cell? ⟨b, off + i * 5 + 2, none⟩ = some (.int .i64 l[i].b) ∧
      w.cell? ⟨b, off + i * 5 + 3, none⟩ = some (.int .i64 l[i].c) ∧ w.cell? ⟨b, off + i * 5 + 4, none⟩ = some (.string l[i].text) := by
  obtain ⟨b, off, e, hA, hb, he⟩ := hr.2.2.2.2 hn
  refine ⟨b, off, e, hA, hb, fun i h => ?_⟩
  obtain ⟨xs, ⟨rfl, h1⟩, h4⟩ := he i l[i] (List.getElem?_eq_getElem h)
  exact ⟨h1, h4 0 _ rfl, h4 1 _ rfl, h4 2 _ rfl, h4 3 _ rfl, h4 4 _ rfl⟩

set_option maxHeartbeats 400000 in
theorem opText_any (x : Raw) (w : World) (hx : x.ok) :
    Calls Tryd.prog 36 #[rawV x] w fun e w' => e = .returned (.string (letters x.text 4)) ∧ Below w.heap.size w w' := by
  obtain ⟨k, a, b, c, t⟩ := x
  have ht : t.size ≤ maxLen := hx.2.2.2.2
  have Hl := Lib.hid (fun W => letters_any t 4 W ht (by omega))
  clear hx ht
  unfold rawV
  simp only
  go_enter Tryd.func36, Tryd.ntmps36
  go_wp2_with fail
  refine (Hl.out _).mono ?_
  rintro e w1 ⟨rfl, hb1⟩
  go_wp2_with fail
  go_ret
  exact ⟨rfl, by (repeat (first | exact Below.refl _ _ | assumption | (refine Below.drew ?_) | (refine below_drewN ?_ _) | (refine Below.alloc ?_ (by first | (simp; done) | (simp; omega) | omega) _) | (refine Below.setCell ?_ (by first | (simp; done) | (simp; omega) | omega) _) | (refine Below.trans ?_ (Below.mono (by assumption) (by first | (simp; done) | (simp; omega) | omega)))))⟩

def noText : Str := ⟨#[]⟩
/-- one round of op: what stands (the last part first), and what is left -/
def opStep (f : Raw → Str) (st : List Part × Int) (x : Raw) : List Part × Int :=
  let k := min (pk x.a 6) st.2
  let st1 := if pk x.kind 4 = 0 ∨ pk x.kind 4 = 1 then (addR st.1 ⟨1, k, noText⟩, st.2 - k) else if pk x.kind 4 = 2 then (addR st.1 ⟨3, k, noText⟩, st.2 - k) else st
  if pk x.b 2 = 0 then (addR st1.1 ⟨2, 0, f x⟩, st1.2) else st1
def opRun (f : Raw → Str) (n : Int) (l : List Raw) : List Part × Int := l.foldl (opStep f) ([], n)
def opOf (f : Raw → Str) (n : Int) (l : List Raw) : Op :=
  let st := opRun f n (l.take 6)
  (addR st.1 ⟨1, st.2, noText⟩).reverse
def rawText (x : Raw) : Str := letters x.text 4
/-- Op of raw things -/
def mkOp (n : Int) (l : List Raw) : Op := opOf rawText n l
theorem opRun_next (f : Raw → Str) (n : Int) (l : List Raw) (k : Nat) (h : k < l.length) : opRun f n (l.take (k + 1)) = opStep f (opRun f n (l.take k)) l[k] := by
  unfold opRun
  rw [List.take_succ_eq_append_getElem h, List.foldl_append]; rfl

/-- what holds of what stands after some rounds -/
structure Stands (n : Int) (i : Nat) (st : List Part × Int) : Prop where
  left : 0 ≤ st.2 ∧ st.2 ≤ n
  len : st.1.length ≤ 2 * i
  each : ∀ q ∈ st.1, (1 ≤ q.kind ∧ q.kind ≤ 3) ∧ 0 ≤ q.n ∧ q.n ≤ n - st.2 ∧ q.text.size ≤ 16 * i
theorem addR_each (P0 P : Part → Prop) (p : Part) (hp : P p) (h01 : ∀ q, P0 q → P q) (hadd : ∀ q, P0 q → q.kind = p.kind → P ⟨q.kind, q.n + p.n, q.text ++ p.text⟩) : ∀ r : List Part, (∀ q ∈ r, P0 q) → ∀ q ∈ addR r p, P q := by
  intro r
  induction r with
  | nil =>
    intro _ q hq
    simp only [addR] at hq
    split at hq
    · cases hq
    · simp at hq; rw [hq]; exact hp
  | cons x r ih =>
    intro hr q hq
    have hx := hr x (by simp)
    have ih' := ih (fun q h => hr q (by simp [h]))
    simp only [addR] at hq
    split at hq
    · exact h01 q (hr q hq)
    · split at hq
      · rename_i hk
        rcases List.mem_cons.1 hq with h | h
        · rw [h]; exact hadd x hx hk
        · exact h01 q (hr q (by simp [h]))
      · split at hq
        · rcases List.mem_cons.1 hq with h | h
          · rw [h]; exact h01 x hx
          · exact ih' q h
        · rcases List.mem_cons.1 hq with h | h
          · rw [h]; exact hp
          · exact h01 q (hr q h)
theorem size_app (a b : Str) : (a ++ b).size = a.size + b.size := by simp [ByteArray.size_append]
theorem noText_size : noText.size = 0 := rfl
theorem letters_size (s : Str) (m : Nat) : (letters s m).size ≤ m * 4 := by
  have h1 := enc_size (lets s m) (lets_vr s m)
  have h2 := lets_len s m
  unfold letters
  omega
theorem Stands.keep {n : Int} {i : Nat} {st : List Part × Int} (h : Stands n i st) (kd : Int) (hkd : 1 ≤ kd ∧ kd ≤ 3) (k : Int) (hk : 0 ≤ k ∧ k ≤ st.2) :
    (∀ q ∈ addR st.1 ⟨kd, k, noText⟩, (1 ≤ q.kind ∧ q.kind ≤ 3) ∧ 0 ≤ q.n ∧ q.n ≤ n - (st.2 - k) ∧ q.text.size ≤ 16 * i) ∧ (addR st.1 ⟨kd, k, noText⟩).length ≤ 2 * i + 1 := by
  have h0 := h.left
  refine ⟨addR_each (fun q => (1 ≤ q.kind ∧ q.kind ≤ 3) ∧ 0 ≤ q.n ∧ q.n ≤ n - st.2 ∧ q.text.size ≤ 16 * i) _ _ ⟨hkd, by simp only; omega, by simp only; omega, by simp only [noText_size]; omega⟩ (fun q h => ⟨h.1, h.2.1, by omega, h.2.2.2⟩) ?_ _ h.each, by have := addR_len st.1 ⟨kd, k, noText⟩; have := h.len; omega⟩
  rintro q ⟨h1, h2, h3, h4⟩ _
  exact ⟨h1, by simp only; omega, by simp only; omega, by simp only [size_app, noText_size]; omega⟩
theorem opStep_stands {n : Int} {i : Nat} {st : List Part × Int} (f : Raw → Str) (x : Raw) (hf : (f x).size ≤ 16) (h : Stands n i st) : Stands n (i + 1) (opStep f st x) := by
  have h0 := h.left
  have ha := pk_range x.a 6 (by omega)
  have hk1 : 0 ≤ min (pk x.a 6) st.2 := by omega
  have hk2 : min (pk x.a 6) st.2 ≤ st.2 := by omega
  have main : ∀ st1 : List Part × Int, 0 ≤ st1.2 ∧ st1.2 ≤ n → st1.1.length ≤ 2 * i + 1 → (∀ q ∈ st1.1, (1 ≤ q.kind ∧ q.kind ≤ 3) ∧ 0 ≤ q.n ∧ q.n ≤ n - st1.2 ∧ q.text.size ≤ 16 * i) →
      Stands n (i + 1) (if pk x.b 2 = 0 then (addR st1.1 ⟨2, 0, f x⟩, st1.2) else st1) := by
    intro st1 g1 g2 g3
    by_cases hb : pk x.b 2 = 0
    · rw [if_pos hb]
      refine ⟨g1, by have := addR_len st1.1 ⟨2, 0, f x⟩; simp only; omega, ?_⟩
      refine addR_each (fun q => (1 ≤ q.kind ∧ q.kind ≤ 3) ∧ 0 ≤ q.n ∧ q.n ≤ n - st1.2 ∧ q.text.size ≤ 16 * i) _ _ ⟨⟨by simp only; omega, by simp only; omega⟩, by simp only; omega, by simp only; omega, by simp only; omega⟩ (fun q h => ⟨h.1, h.2.1, h.2.2.1, by omega⟩) ?_ _ g3
      rintro q ⟨h1, h2, h3, h4⟩ _
      exact ⟨h1, by simp only; omega, by simp only; omega, by simp only [size_app]; omega⟩
    · rw [if_neg hb]
      exact ⟨g1, by omega, fun q hq => by have := g3 q hq; exact ⟨this.1, this.2.1, this.2.2.1, by omega⟩⟩
  unfold opStep
  simp only
  generalize min (pk x.a 6) st.2 = k at *
  by_cases h1 : pk x.kind 4 = 0 ∨ pk x.kind 4 = 1
  · rw [if_pos h1]
    have hs := h.keep 1 (by omega) k ⟨hk1, hk2⟩
    exact main _ (by simp only; omega) hs.2 hs.1
  · rw [if_neg h1]
    by_cases h2 : pk x.kind 4 = 2
    · rw [if_pos h2]
      have hs := h.keep 3 (by omega) k ⟨hk1, hk2⟩
      exact main _ (by simp only; omega) hs.2 hs.1
    · rw [if_neg h2]
      exact main _ h0 (by have := h.len; omega) h.each
theorem opRun_stands (f : Raw → Str) (n : Int) (hn : 0 ≤ n) (l : List Raw) (hf : ∀ x ∈ l, (f x).size ≤ 16) : ∀ k, k ≤ l.length → Stands n k (opRun f n (l.take k)) := by
  intro k
  induction k with
  | zero => intro _; simp only [List.take_zero, opRun, List.foldl_nil]; exact ⟨by simp only; omega, by simp, by simp⟩
  | succ k ih =>
    intro hk
    rw [opRun_next f n l k (by omega)]
    exact opStep_stands f _ (hf _ (List.getElem_mem (by omega))) (ih (by omega))

theorem Mild.of {n : Int} {i : Nat} {left : Int} {r : List Part} (hn : n ≤ 1000000000) (hi : i ≤ 6) (h0 : 0 ≤ left) (h : ∀ q ∈ r, (1 ≤ q.kind ∧ q.kind ≤ 3) ∧ 0 ≤ q.n ∧ q.n ≤ n - left ∧ q.text.size ≤ 16 * i) : ∀ q ∈ r, Mild q := by
  intro q hq
  have := h q hq
  exact ⟨by omega, by omega, by omega⟩
theorem Bag.drewN {T B b : Nat} {v : Value} {ex : List Value} {l : Op} {w : World} (h : Bag T B b v ex l w) (n : Nat) : Bag T B b v ex l (w.drewN n) := h.keep fun _ _ => rfl
theorem Bag.sB {T B b : Nat} {v : Value} {ex : List Value} {l : Op} {w : World} (h : Bag T B b v ex l w) : ∀ g, Bag.S b v g → B ≤ g := by
  rintro g (rfl | h2)
  · exact h.base
  · exact (h.rowlt g h2).1
theorem Bag.put1 {T B b : Nat} {v : Value} {x u : Value} {l : Op} {w : World} (h : Bag T B b v [x] l w) : Bag T B b v [u] l (w.setCell ⟨b, 1, none⟩ u) := by
  refine ⟨h.base, ?_, ?_, h.ne⟩
  · simp [World.setCell, Array.getElem?_modify, h.blk]
  · exact h.own.kept (row := some b) ⟨rfl, rfl, rfl, by simp [World.setCell], fun k _ hk => Below.heap_setCell _ _ _ _ (fun e => hk (by simp [e]))⟩ (.inr h.ne)
theorem picked_same (n m : Int) (w : World) (hn : I64 n) (hm : 1 ≤ m) (hm' : m ≤ 9223372036854775807) :
    Calls Tryd.prog 11 #[.int .i64 n, .int .i64 m] w fun e w' => e = .returned (.int .i64 (pk n m)) ∧ w' = w :=
  (picked_any n m w hn hm hm').mono fun _ _ ⟨h1, h2⟩ => ⟨h1, h2.symm⟩

/-- what op leaves -/
def OpPost (n : Int) (l : List Raw) (f : Raw → Str) (w : World) (e : Ending) (w' : World) : Prop :=
  ∃ a c, e = .returned (.slice a (opOf f n l).length c) ∧ w'.ownsRow w.heap.size 53 3 (.slice a (opOf f n l).length c) (opOf f n l).length (flat (opOf f n l)) ∧ Below w.heap.size w w'

set_option maxRecDepth 100000 in
set_option maxHeartbeats 4000000 in
theorem op_any (A : Nat → Prop) (n : Int) (l : List Raw) (a : Option Addr) (m c : Nat) (w : World) (hA : ∀ b, A b → b < w.heap.size) (hr : RdS A w l a m c) (hn : 0 ≤ n) (hn' : n ≤ 1000000000) :
    Calls Tryd.prog 35 #[.int .i64 n, .slice a m c, .func (.func 36) #[] #[]] w (OpPost n l rawText w) := by
  have hl : m = l.length := hr.1
  have hmm : m ≤ maxLen := by have h1 := hr.2.1; have h2 := hr.2.2.1; omega
  unfold maxLen at hmm
  have Hst := Lib.hid (opRun_stands rawText n hn (l.take 6) (fun x _ => by unfold rawText; have := letters_size x.text 4; omega))
  have Hl := Lib.hid hl
  have Hr := Lib.hid hr
  clear hl hr
  go_enter Tryd.func35, Tryd.ntmps35
  go_wp2_with fail
  go_loopw [8] (fun i wr => ∃ k : Nat, ∃ v : Value, k ≤ m ∧ k ≤ 6 ∧ i = .int .i64 k ∧ Bag 91 w.heap.size w.heap.size v [.int .i64 (opRun rawText n (l.take k)).2] (opRun rawText n (l.take k)).1.reverse wr ∧ Below w.heap.size w wr) (fun i _ => m - (intOf i).toNat)
  case atStart =>
    refine ⟨0, .slice none 0 0, by omega, by omega, rfl, ⟨Nat.le_refl _, heap_alloc_new w _, World.ownsRow_nil _ _ _ _, by simp [Value.ownBlock]⟩, by (repeat (first | exact Below.refl _ _ | assumption | (refine Below.drew ?_) | (refine below_drewN ?_ _) | (refine Below.alloc ?_ (by first | (simp; done) | (simp; omega) | omega) _) | (refine Below.setCell ?_ (by first | (simp; done) | (simp; omega) | omega) _) | (refine Below.trans ?_ (Below.mono (by assumption) (by first | (simp; done) | (simp; omega) | omega)))))⟩
  case round =>
    obtain ⟨k, v, hk, hk6, rfl, hbag, hb⟩ := hrel
    have hstk : Stands n k (opRun rawText n (l.take k)) := by
      have := Hst.out k (by rw [List.length_take]; have := Hl.out; omega)
      rw [List.take_take, Nat.min_eq_left hk6] at this
      exact this
    obtain ⟨av, cv, hv⟩ := hbag.form
    have hc0 := hbag.cell 0
    have hc1 := hbag.cell 1
    have hf1 := hbag.frozen 1
    simp only [List.getElem?_cons_zero, List.getElem?_cons_succ] at hc0 hc1
    rw [hv] at hc0
    have hlt := hbag.lt
    by_cases hgo : k < m ∧ k < 6
    · obtain ⟨hkm, hkl6⟩ := hgo
      have hnx := opRun_next rawText n l k (by have := Hl.out; omega)
      obtain ⟨b, off, rfl, hAb, hbs, hcs⟩ := Hr.out.raw (by omega)
      obtain ⟨hcb, hfb⟩ := bcell hb
      obtain ⟨hok, r0, r1, r2, r3, r4⟩ := hcs k (by have := Hl.out; omega)
      have hbw := hA b hAb
      have hkl : k < l.length := by have := Hl.out; omega
      clear hcs
      generalize opRun rawText n (l.take k) = st at *
      generalize l[k] = x at *
      obtain ⟨r, left⟩ := st
      have hleft := hstk.left
      simp only at hc1 hleft hbag
      have Hok := Lib.hid hok
      obtain ⟨hk1, ha1, hb1, _, ht1⟩ := hok
      have hra := pk_range x.a 6 (by omega)
      have hrk := pk_range x.kind 4 (by omega)
      have hrb := pk_range x.b 2 (by omega)
      have Hpa := Lib.hid (fun W => picked_same x.a 6 W ha1 (by omega) (by omega))
      have Hpk := Lib.hid (fun W => picked_any x.kind 4 W hk1 (by omega) (by omega))
      have Hpb := Lib.hid (fun W => picked_any x.b 2 W hb1 (by omega) (by omega))
      have Hnx := Lib.hid hnx
      have Hstk := Lib.hid hstk
      have Hbag := Lib.hid hbag
      have Hv := Lib.hid hv
      clear hnx hstk hbag hv hk1 ha1 hb1
      have HS : Hid (opStep rawText (r, left) x = (let k := min (pk x.a 6) left; let st1 := if pk x.kind 4 = 0 ∨ pk x.kind 4 = 1 then (addR r ⟨1, k, noText⟩, left - k) else if pk x.kind 4 = 2 then (addR r ⟨3, k, noText⟩, left - k) else (r, left); if pk x.b 2 = 0 then (addR st1.1 ⟨2, 0, rawText x⟩, st1.2) else st1)) := rfl
      generalize pk x.a 6 = da at *
      generalize pk x.kind 4 = dk at *
      generalize pk x.b 2 = db at *
      go_wp2_with fail
      go_quiet ((go_at_call 11; exact Calls.quiet_of_same (Hpa.out _)))
      have hkk : 0 ≤ min da left ∧ min da left ≤ left := by omega
      generalize min da left = kk at *
      go_wp2_with fail
      refine (Hpk.out _).mono ?_
      rintro e w1 ⟨rfl, rfl⟩
      obtain h4 | h4 | h4 | h4 : dk = 0 ∨ dk = 1 ∨ dk = 2 ∨ dk = 3 := by omega
      · subst h4
        by_cases hdb : db = 0
        · subst hdb
          go_wp2_with fail
          refine (add_any w.heap.size w.heap.size left ⟨1, kk, noText⟩ ⟨by simp only; omega, by simp only; omega, by simp only [noText_size]; omega⟩ r v _ (Mild.of hn' hk6 Hstk.out.left.1 Hstk.out.each) (by have := Hstk.out.len; simp only at this; omega) (Hbag.out.drewN _)).mono ?_
          rintro e w2 ⟨v2, rfl, hbag2, ht2, hat2⟩
          have hb2 : Below w.heap.size w w2 := (below_drewN hb _).trans (ht2.toBelow hb.size Hbag.out.sB)
          obtain ⟨hcb2, hfb2⟩ := bcell hb2
          have e1 := hbag2.cell 1
          have e2 := hbag2.frozen 1
          simp only [List.getElem?_cons_zero, List.getElem?_cons_succ] at e1
          have hput := hbag2.put1 (u := .int .i64 (left - kk))
          have Hput := Lib.hid hput
          have Hbag2 := Lib.hid hbag2
          clear hput hbag2 ht2 hat2
          go_wp2_with fail
          refine (Hpb.out _).mono ?_
          rintro e w3 ⟨rfl, rfl⟩
          have Hkeep := Lib.hid (Hstk.out.keep 1 (by omega) kk ⟨hkk.1, hkk.2⟩)
          simp only at Hkeep
          go_wp2_with fail
          refine (opText_any x _ Hok.out).mono ?_
          rintro e w4 ⟨rfl, hb4⟩
          have hbW := (hb2.setCell (p := ⟨w.heap.size, 1, none⟩) (Nat.le_refl _) (.int .i64 (left - kk)))
          have hbW4 := hbW.trans (hb4.mono hbW.size)
          clear hbW
          have HbW4 := Lib.hid hbW4
          have hbag4 := Bag.below Hput.out hb4
          have Hbag4 := Lib.hid hbag4
          clear hbW4 hbag4
          go_wp2_with fail
          refine (add_any w.heap.size w.heap.size (left - kk) ⟨2, 0, letters x.text 4⟩ ⟨by simp only; omega, by simp only; omega, by have := letters_size x.text 4; simp only; omega⟩ (addR r ⟨1, kk, noText⟩) v2 _ (Mild.of hn' hk6 (by omega) Hkeep.out.1) (by have := Hkeep.out.2; (try simp only at this); omega) Hbag4.out).mono ?_
          rintro e w5 ⟨v5, rfl, hbag5, ht5, hat5⟩
          have hb5 : Below w.heap.size w w5 := HbW4.out.trans (ht5.toBelow HbW4.out.size Hbag4.out.sB)
          have Hbag5 := Lib.hid hbag5
          clear hbag5 ht5 hat5 hb4
          go_wp2
          go_roundw
          case rel =>
            have hS : opStep rawText (r, left) x = (addR (addR r ⟨1, kk, noText⟩) ⟨2, 0, letters x.text 4⟩, (left - kk)) := by rw [HS.out]; simp [rawText]
            refine ⟨k + 1, v5, by omega, by omega, by go_num, ?_, hb5⟩
            rw [Hnx.out, hS]; exact Hbag5.out
          case measure => simp [intOf]; omega
        · have hdb2 : (db == 0) = false := by simpa using hdb
          go_wp2_with fail
          refine (add_any w.heap.size w.heap.size left ⟨1, kk, noText⟩ ⟨by simp only; omega, by simp only; omega, by simp only [noText_size]; omega⟩ r v _ (Mild.of hn' hk6 Hstk.out.left.1 Hstk.out.each) (by have := Hstk.out.len; simp only at this; omega) (Hbag.out.drewN _)).mono ?_
          rintro e w2 ⟨v2, rfl, hbag2, ht2, hat2⟩
          have hb2 : Below w.heap.size w w2 := (below_drewN hb _).trans (ht2.toBelow hb.size Hbag.out.sB)
          obtain ⟨hcb2, hfb2⟩ := bcell hb2
          have e1 := hbag2.cell 1
          have e2 := hbag2.frozen 1
          simp only [List.getElem?_cons_zero, List.getElem?_cons_succ] at e1
          have hput := hbag2.put1 (u := .int .i64 (left - kk))
          have Hput := Lib.hid hput
          have Hbag2 := Lib.hid hbag2
          clear hput hbag2 ht2 hat2
          go_wp2_with fail
          refine (Hpb.out _).mono ?_
          rintro e w3 ⟨rfl, rfl⟩
          have Hkeep := Lib.hid (Hstk.out.keep 1 (by omega) kk ⟨hkk.1, hkk.2⟩)
          simp only at Hkeep
          go_wp2
          go_roundw
          case rel =>
            have hS : opStep rawText (r, left) x = ((addR r ⟨1, kk, noText⟩), (left - kk)) := by rw [HS.out]; simp [hdb]
            refine ⟨k + 1, v2, by omega, by omega, by go_num, ?_, (hb2.setCell (p := ⟨w.heap.size, 1, none⟩) (Nat.le_refl _) (.int .i64 (left - kk)))⟩
            rw [Hnx.out, hS]; exact Hput.out
          case measure => simp [intOf]; omega
      · subst h4
        by_cases hdb : db = 0
        · subst hdb
          go_wp2_with fail
          refine (add_any w.heap.size w.heap.size left ⟨1, kk, noText⟩ ⟨by simp only; omega, by simp only; omega, by simp only [noText_size]; omega⟩ r v _ (Mild.of hn' hk6 Hstk.out.left.1 Hstk.out.each) (by have := Hstk.out.len; simp only at this; omega) (Hbag.out.drewN _)).mono ?_
          rintro e w2 ⟨v2, rfl, hbag2, ht2, hat2⟩
          have hb2 : Below w.heap.size w w2 := (below_drewN hb _).trans (ht2.toBelow hb.size Hbag.out.sB)
          obtain ⟨hcb2, hfb2⟩ := bcell hb2
          have e1 := hbag2.cell 1
          have e2 := hbag2.frozen 1
          simp only [List.getElem?_cons_zero, List.getElem?_cons_succ] at e1
          have hput := hbag2.put1 (u := .int .i64 (left - kk))
          have Hput := Lib.hid hput
          have Hbag2 := Lib.hid hbag2
          clear hput hbag2 ht2 hat2
          go_wp2_with fail
          refine (Hpb.out _).mono ?_
          rintro e w3 ⟨rfl, rfl⟩
          have Hkeep := Lib.hid (Hstk.out.keep 1 (by omega) kk ⟨hkk.1, hkk.2⟩)
          simp only at Hkeep
          go_wp2_with fail
          refine (opText_any x _ Hok.out).mono ?_
          rintro e w4 ⟨rfl, hb4⟩
          have hbW := (hb2.setCell (p := ⟨w.heap.size, 1, none⟩) (Nat.le_refl _) (.int .i64 (left - kk)))
          have hbW4 := hbW.trans (hb4.mono hbW.size)
          clear hbW
          have HbW4 := Lib.hid hbW4
          have hbag4 := Bag.below Hput.out hb4
          have Hbag4 := Lib.hid hbag4
          clear hbW4 hbag4
          go_wp2_with fail
          refine (add_any w.heap.size w.heap.size (left - kk) ⟨2, 0, letters x.text 4⟩ ⟨by simp only; omega, by simp only; omega, by have := letters_size x.text 4; simp only; omega⟩ (addR r ⟨1, kk, noText⟩) v2 _ (Mild.of hn' hk6 (by omega) Hkeep.out.1) (by have := Hkeep.out.2; (try simp only at this); omega) Hbag4.out).mono ?_
          rintro e w5 ⟨v5, rfl, hbag5, ht5, hat5⟩
          have hb5 : Below w.heap.size w w5 := HbW4.out.trans (ht5.toBelow HbW4.out.size Hbag4.out.sB)
          have Hbag5 := Lib.hid hbag5
          clear hbag5 ht5 hat5 hb4
          go_wp2
          go_roundw
          case rel =>
            have hS : opStep rawText (r, left) x = (addR (addR r ⟨1, kk, noText⟩) ⟨2, 0, letters x.text 4⟩, (left - kk)) := by rw [HS.out]; simp [rawText]
            refine ⟨k + 1, v5, by omega, by omega, by go_num, ?_, hb5⟩
            rw [Hnx.out, hS]; exact Hbag5.out
          case measure => simp [intOf]; omega
        · have hdb2 : (db == 0) = false := by simpa using hdb
          go_wp2_with fail
          refine (add_any w.heap.size w.heap.size left ⟨1, kk, noText⟩ ⟨by simp only; omega, by simp only; omega, by simp only [noText_size]; omega⟩ r v _ (Mild.of hn' hk6 Hstk.out.left.1 Hstk.out.each) (by have := Hstk.out.len; simp only at this; omega) (Hbag.out.drewN _)).mono ?_
          rintro e w2 ⟨v2, rfl, hbag2, ht2, hat2⟩
          have hb2 : Below w.heap.size w w2 := (below_drewN hb _).trans (ht2.toBelow hb.size Hbag.out.sB)
          obtain ⟨hcb2, hfb2⟩ := bcell hb2
          have e1 := hbag2.cell 1
          have e2 := hbag2.frozen 1
          simp only [List.getElem?_cons_zero, List.getElem?_cons_succ] at e1
          have hput := hbag2.put1 (u := .int .i64 (left - kk))
          have Hput := Lib.hid hput
          have Hbag2 := Lib.hid hbag2
          clear hput hbag2 ht2 hat2
          go_wp2_with fail
          refine (Hpb.out _).mono ?_
          rintro e w3 ⟨rfl, rfl⟩
          have Hkeep := Lib.hid (Hstk.out.keep 1 (by omega) kk ⟨hkk.1, hkk.2⟩)
          simp only at Hkeep
          go_wp2
          go_roundw
          case rel =>
            have hS : opStep rawText (r, left) x = ((addR r ⟨1, kk, noText⟩), (left - kk)) := by rw [HS.out]; simp [hdb]
            refine ⟨k + 1, v2, by omega, by omega, by go_num, ?_, (hb2.setCell (p := ⟨w.heap.size, 1, none⟩) (Nat.le_refl _) (.int .i64 (left - kk)))⟩
            rw [Hnx.out, hS]; exact Hput.out
          case measure => simp [intOf]; omega
      · subst h4
        by_cases hdb : db = 0
        · subst hdb
          go_wp2_with fail
          refine (add_any w.heap.size w.heap.size left ⟨3, kk, noText⟩ ⟨by simp only; omega, by simp only; omega, by simp only [noText_size]; omega⟩ r v _ (Mild.of hn' hk6 Hstk.out.left.1 Hstk.out.each) (by have := Hstk.out.len; simp only at this; omega) (Hbag.out.drewN _)).mono ?_
          rintro e w2 ⟨v2, rfl, hbag2, ht2, hat2⟩
          have hb2 : Below w.heap.size w w2 := (below_drewN hb _).trans (ht2.toBelow hb.size Hbag.out.sB)
          obtain ⟨hcb2, hfb2⟩ := bcell hb2
          have e1 := hbag2.cell 1
          have e2 := hbag2.frozen 1
          simp only [List.getElem?_cons_zero, List.getElem?_cons_succ] at e1
          have hput := hbag2.put1 (u := .int .i64 (left - kk))
          have Hput := Lib.hid hput
          have Hbag2 := Lib.hid hbag2
          clear hput hbag2 ht2 hat2
          go_wp2_with fail
          refine (Hpb.out _).mono ?_
          rintro e w3 ⟨rfl, rfl⟩
          have Hkeep := Lib.hid (Hstk.out.keep 3 (by omega) kk ⟨hkk.1, hkk.2⟩)
          simp only at Hkeep
          go_wp2_with fail
          refine (opText_any x _ Hok.out).mono ?_
          rintro e w4 ⟨rfl, hb4⟩
          have hbW := (hb2.setCell (p := ⟨w.heap.size, 1, none⟩) (Nat.le_refl _) (.int .i64 (left - kk)))
          have hbW4 := hbW.trans (hb4.mono hbW.size)
          clear hbW
          have HbW4 := Lib.hid hbW4
          have hbag4 := Bag.below Hput.out hb4
          have Hbag4 := Lib.hid hbag4
          clear hbW4 hbag4
          go_wp2_with fail
          refine (add_any w.heap.size w.heap.size (left - kk) ⟨2, 0, letters x.text 4⟩ ⟨by simp only; omega, by simp only; omega, by have := letters_size x.text 4; simp only; omega⟩ (addR r ⟨3, kk, noText⟩) v2 _ (Mild.of hn' hk6 (by omega) Hkeep.out.1) (by have := Hkeep.out.2; (try simp only at this); omega) Hbag4.out).mono ?_
          rintro e w5 ⟨v5, rfl, hbag5, ht5, hat5⟩
          have hb5 : Below w.heap.size w w5 := HbW4.out.trans (ht5.toBelow HbW4.out.size Hbag4.out.sB)
          have Hbag5 := Lib.hid hbag5
          clear hbag5 ht5 hat5 hb4
          go_wp2
          go_roundw
          case rel =>
            have hS : opStep rawText (r, left) x = (addR (addR r ⟨3, kk, noText⟩) ⟨2, 0, letters x.text 4⟩, (left - kk)) := by rw [HS.out]; simp [rawText]
            refine ⟨k + 1, v5, by omega, by omega, by go_num, ?_, hb5⟩
            rw [Hnx.out, hS]; exact Hbag5.out
          case measure => simp [intOf]; omega
        · have hdb2 : (db == 0) = false := by simpa using hdb
          go_wp2_with fail
          refine (add_any w.heap.size w.heap.size left ⟨3, kk, noText⟩ ⟨by simp only; omega, by simp only; omega, by simp only [noText_size]; omega⟩ r v _ (Mild.of hn' hk6 Hstk.out.left.1 Hstk.out.each) (by have := Hstk.out.len; simp only at this; omega) (Hbag.out.drewN _)).mono ?_
          rintro e w2 ⟨v2, rfl, hbag2, ht2, hat2⟩
          have hb2 : Below w.heap.size w w2 := (below_drewN hb _).trans (ht2.toBelow hb.size Hbag.out.sB)
          obtain ⟨hcb2, hfb2⟩ := bcell hb2
          have e1 := hbag2.cell 1
          have e2 := hbag2.frozen 1
          simp only [List.getElem?_cons_zero, List.getElem?_cons_succ] at e1
          have hput := hbag2.put1 (u := .int .i64 (left - kk))
          have Hput := Lib.hid hput
          have Hbag2 := Lib.hid hbag2
          clear hput hbag2 ht2 hat2
          go_wp2_with fail
          refine (Hpb.out _).mono ?_
          rintro e w3 ⟨rfl, rfl⟩
          have Hkeep := Lib.hid (Hstk.out.keep 3 (by omega) kk ⟨hkk.1, hkk.2⟩)
          simp only at Hkeep
          go_wp2
          go_roundw
          case rel =>
            have hS : opStep rawText (r, left) x = ((addR r ⟨3, kk, noText⟩), (left - kk)) := by rw [HS.out]; simp [hdb]
            refine ⟨k + 1, v2, by omega, by omega, by go_num, ?_, (hb2.setCell (p := ⟨w.heap.size, 1, none⟩) (Nat.le_refl _) (.int .i64 (left - kk)))⟩
            rw [Hnx.out, hS]; exact Hput.out
          case measure => simp [intOf]; omega
      · subst h4
        by_cases hdb : db = 0
        · subst hdb
          go_wp2_with fail
          refine (Hpb.out _).mono ?_
          rintro e w3 ⟨rfl, rfl⟩
          go_wp2_with fail
          refine (opText_any x _ Hok.out).mono ?_
          rintro e w4 ⟨rfl, hb4⟩
          have hbW := (below_drewN hb nq)
          have hbW4 := hbW.trans (hb4.mono hbW.size)
          clear hbW
          have HbW4 := Lib.hid hbW4
          have hbag4 := Bag.below (Hbag.out.drewN nq) hb4
          have Hbag4 := Lib.hid hbag4
          clear hbW4 hbag4
          go_wp2_with fail
          refine (add_any w.heap.size w.heap.size left ⟨2, 0, letters x.text 4⟩ ⟨by simp only; omega, by simp only; omega, by have := letters_size x.text 4; simp only; omega⟩ r v _ (Mild.of hn' hk6 (by omega) Hstk.out.each) (by have := Hstk.out.len; (try simp only at this); omega) Hbag4.out).mono ?_
          rintro e w5 ⟨v5, rfl, hbag5, ht5, hat5⟩
          have hb5 : Below w.heap.size w w5 := HbW4.out.trans (ht5.toBelow HbW4.out.size Hbag4.out.sB)
          have Hbag5 := Lib.hid hbag5
          clear hbag5 ht5 hat5 hb4
          go_wp2
          go_roundw
          case rel =>
            have hS : opStep rawText (r, left) x = (addR r ⟨2, 0, letters x.text 4⟩, left) := by rw [HS.out]; simp [rawText]
            refine ⟨k + 1, v5, by omega, by omega, by go_num, ?_, hb5⟩
            rw [Hnx.out, hS]; exact Hbag5.out
          case measure => simp [intOf]; omega
        · have hdb2 : (db == 0) = false := by simpa using hdb
          go_wp2_with fail
          refine (Hpb.out _).mono ?_
          rintro e w3 ⟨rfl, rfl⟩
          go_wp2
          go_roundw
          case rel =>
            have hS : opStep rawText (r, left) x = (r, left) := by rw [HS.out]; simp [hdb]
            refine ⟨k + 1, v, by omega, by omega, by go_num, ?_, (below_drewN hb _)⟩
            rw [Hnx.out, hS]; exact (Hbag.out.drewN _)
          case measure => simp [intOf]; omega
    · have hfk : l.take k = l.take 6 := by
        have := Hl.out
        rw [List.take_eq_take_iff]
        omega
      rw [hfk] at hbag hstk
      have Hfin : Hid (opOf rawText n l = (addR (opRun rawText n (l.take 6)).1 ⟨1, (opRun rawText n (l.take 6)).2, noText⟩).reverse) := rfl
      rw [hfk] at hc1 hc0 hv
      clear hfk
      generalize opRun rawText n (l.take 6) = st at *
      obtain ⟨r, left⟩ := st
      have hleft := hstk.left
      simp only at hc1 hleft hbag Hfin
      have Hstk := Lib.hid hstk
      have Hbag := Lib.hid hbag
      have Hv := Lib.hid hv
      clear hstk hbag hv
      by_cases hlt2 : k < m
      all_goals
        have hx : Hid True := trivial
        (try have h6 : ¬ k < 6 := fun h => hgo ⟨hlt2, h⟩)
        clear hgo
        go_wp2_with fail
        refine (add_any w.heap.size w.heap.size left ⟨1, left, noText⟩ ⟨by simp only; omega, by simp only; omega, by simp only [noText_size]; omega⟩ r v _ (Mild.of hn' hk6 Hstk.out.left.1 Hstk.out.each) (by have := Hstk.out.len; simp only at this; omega) Hbag.out).mono ?_
        rintro e w2 ⟨v2, rfl, hbag2, ht2, hat2⟩
        have hb2 : Below w.heap.size w w2 := hb.trans (ht2.toBelow hb.size Hbag.out.sB)
        obtain ⟨a2, c2, hv2⟩ := hbag2.form
        have hown2 := hbag2.own
        have d0 := hbag2.cell 0
        simp only [List.getElem?_cons_zero] at d0
        rw [hv2] at hown2 d0
        rw [← Hfin.out] at hown2 d0
        have Hown2 := Lib.hid hown2
        clear hown2 hbag2 ht2 hat2 hv2
        go_wp2_with fail
        go_ret
        exact ⟨a2, c2, rfl, Hown2.out, hb2⟩
end Go.Proofs.YtkbfhgcjimfgkaaDoor
