/- The builder over runes: keep, insert, remove. -/
import Derived.Test.YtkhacogeffidoaaDoorXf
import Derived.Test.YtkhacogeffidoaaDoorKeepB
import Derived.Test.YtkhacogeffidoaaDoorSubP
set_option linter.unusedVariables false
set_option linter.unusedSimpArgs false
namespace Go.Proofs.YtkhacogeffidoaaDoor
open Go.RowKit

/-- block b is a builder in which parts stand, the last one first -/
structure Bd (D B b : Nat) (R : List P) (v : Value) (w : World) : Prop where
  bag : Bag 136 D b v [] (R.map P.part).reverse w
  can : Can R
  row : ∀ g, v.ownBlock = some g → B ≤ g
theorem Bd.touch {D B b : Nat} {R : List P} {v : Value} {w w' : World} {S : Nat → Prop} (h : Bd D B b R v w) (ht : Touch S w w') (h1 : ¬ S b) (h2 : ∀ g, v.ownBlock = some g → ¬ S g) : Bd D B b R v w' :=
  ⟨h.bag.touch ht (fun k hk => by rcases hk with rfl | hk; exact h1; exact h2 k hk), h.can, h.row⟩
theorem Bd.go {D B b : Nat} {R : List P} {v : Value} {w w' : World} (h : Bd D B b R v w) (hb : Below w.heap.size w w') : Bd D B b R v w' := ⟨h.bag.below hb, h.can, h.row⟩
theorem can_mild {R : List P} (h : Can R) (hs : FS R + TS R ≤ 100000) : ∀ q ∈ R.map P.part, Mild q ∧ q.text.size ≤ 400000 := by
  intro q hq
  obtain ⟨p, hp, rfl⟩ := List.mem_map.1 hq
  have hok := h.all p hp
  have h1 : p.F ≤ FS R ∧ p.T ≤ TS R := by
    clear hok h hs hq
    induction R with
    | nil => cases hp
    | cons x R ih =>
      rcases List.mem_cons.1 hp with rfl | hp
      · simp only [FS, TS]; omega
      · have := ih hp; simp only [FS, TS]; omega
  cases p with
  | k n => simp only [P.F, P.T] at h1; exact ⟨⟨by simp [P.part], by simp only [P.part]; omega, by simp only [P.part, noText_size]; omega⟩, by simp only [P.part, noText_size]; omega⟩
  | d n => simp only [P.F, P.T] at h1; exact ⟨⟨by simp [P.part], by simp only [P.part]; omega, by simp only [P.part, noText_size]; omega⟩, by simp only [P.part, noText_size]; omega⟩
  | i t =>
    simp only [P.F, P.T] at h1
    have := enc_size t hok.2
    exact ⟨⟨by simp [P.part], by simp only [P.part]; omega, by simp only [P.part]; omega⟩, by simp only [P.part]; omega⟩
theorem can_len {R : List P} (h : Can R) (hs : FS R + TS R ≤ 100000) : (R.map P.part).length ≤ 100000 := by
  have := ok_len R h.all
  simp; omega
/-- a part is added -/
def AddB (D B b : Nat) (R : List P) (v : Value) (w : World) (e : Ending) (w' : World) : Prop :=
  ∃ v', e = .returned (.tuple #[]) ∧ Bd D B b R v' w' ∧ Touch (Bag.S b v) w w' ∧ (v'.ownBlock = v.ownBlock ∨ ∀ g, v'.ownBlock = some g → w.heap.size ≤ g)
theorem addB_of {D B b : Nat} {R : List P} {p : P} {v : Value} {w w' : World} {e : Ending} (h : Bd D B b R v w) (hB : B ≤ w.heap.size) (hp : ∀ l, p = .i l → ∀ r ∈ l, Uni.vr r) (h2 : AddPost 136 D b v [] (addR (R.map P.part) p.part) w e w') : AddB D B b (addP R p) v w e w' := by
  obtain ⟨v', he, hb, ht, hv⟩ := h2
  rw [addR_part p hp R h.can.all] at hb
  refine ⟨v', he, ⟨hb, addP_can p hp R h.can, fun g hg => ?_⟩, ht, hv⟩
  rcases hv with hv | hv
  · exact h.row g (by rw [← hv]; exact hg)
  · have := hv g hg; omega
theorem bkeep (D B b : Nat) (R : List P) (v : Value) (n : Nat) (w : World) (h : Bd D B b R v w) (hs : FS R + TS R ≤ 100000) (hn : n ≤ 100000) (hB : B ≤ w.heap.size) :
    Calls Tryd.prog 70 #[.pointer (some ⟨b, 0, none⟩), .int .i64 (n : Int)] w (AddB D B b (addP R (.k n)) v w) :=
  (keep_any D b v (n : Int) (R.map P.part) w (by omega) (fun q hq => (can_mild h.can hs q hq).1) (by have := can_len h.can hs; omega) h.bag).mono fun e w' h2 => addB_of (p := .k n) h hB (fun l hl => by cases hl) h2
theorem bremove (D B b : Nat) (R : List P) (v : Value) (n : Nat) (w : World) (h : Bd D B b R v w) (hs : FS R + TS R ≤ 100000) (hn : n ≤ 100000) (hB : B ≤ w.heap.size) :
    Calls Tryd.prog 73 #[.pointer (some ⟨b, 0, none⟩), .int .i64 (n : Int)] w (AddB D B b (addP R (.d n)) v w) :=
  (remove_any D b v (n : Int) (R.map P.part) w (by omega) (fun q hq => (can_mild h.can hs q hq).1) (by have := can_len h.can hs; omega) h.bag).mono fun e w' h2 => addB_of (p := .d n) h hB (fun l hl => by cases hl) h2
theorem binsert (D B b : Nat) (R : List P) (v : Value) (t : List Nat) (w : World) (h : Bd D B b R v w) (hs : FS R + TS R ≤ 100000) (ht : t.length ≤ 100000) (hv : ∀ r ∈ t, Uni.vr r) (hB : B ≤ w.heap.size) :
    Calls Tryd.prog 69 #[.pointer (some ⟨b, 0, none⟩), .string (Uni.enc t)] w (AddB D B b (addP R (.i t)) v w) := by
  have hz := enc_size t hv
  exact (insert_any D b v (Uni.enc t) (R.map P.part) w (by omega) (valid_enc t hv) (can_canon h.can) (fun q hq => by have := can_mild h.can hs q hq; exact ⟨this.1, by omega⟩) (by have := can_len h.can hs; omega) h.bag).mono fun e w' h2 => addB_of (p := .i t) h hB (fun l hl => by injection hl with hl; subst hl; exact hv) h2
end Go.Proofs.YtkhacogeffidoaaDoor
