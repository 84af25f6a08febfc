/- Links, frames and packets stand behind a store into a new frame's box. -/
import Derived.Test.YtkhacogeffidoaaDoorCabOff
set_option linter.unusedVariables false
set_option linter.unusedSimpArgs false
namespace Go.Proofs.YtkhacogeffidoaaDoor
open Go.RowKit

theorem kind_ne {f : Fr} (h : f.check = 0) : f.kind ≠ 0 := by
  intro hk
  unfold Fr.check checkFrame at h
  rw [hk] at h
  simp [frameOdd] at h
/-- the cells of a zero frame -/
def ZFr (g : Nat) (w : World) : Prop := Blk g (.cells #[.int .i64 0, .int .i64 0, .int .i64 0, .slice none 0 0, .string ⟨#[]⟩] 30 (0, 0)) w
theorem zfr_str {g j : Nat} {s : Str} {w : World} (h : ZFr g w) (hs : w.cell? ⟨g, j, none⟩ = some (.string s)) : j = 4 := by
  rw [Blk.cell h j] at hs
  match j with
  | 0 => simp at hs
  | 1 => simp at hs
  | 2 => simp at hs
  | 3 => simp at hs
  | 4 => rfl
  | j + 5 => simp at hs
theorem parts_offF {A : Nat → Prop} {w : World} {o : Op} {a : Option Addr} {n c g : Nat} (h : RdS A w o a n c) (hz : ZFr g w) : RdS (fun z => A z ∧ z ≠ g) w o a n c := by
  obtain ⟨h1, h2, h3, h4, h5⟩ := h
  refine ⟨h1, h2, h3, h4, fun hn => ?_⟩
  obtain ⟨b, off, e, hA, hb, he⟩ := h5 hn
  refine ⟨b, off, e, ⟨hA, ?_⟩, hb, he⟩
  rintro rfl
  cases o with
  | nil => simp at h1; omega
  | cons x o =>
    obtain ⟨xs, ⟨rfl, -⟩, h6⟩ := he 0 x rfl
    have e2 := zfr_str hz (h6 2 _ rfl)
    have e1 := h6 1 _ rfl
    have e3 : off + 0 * Rep.n Part + 1 = 3 := by omega
    rw [e3, Blk.cell hz 3] at e1
    simp at e1
theorem frames_offF {A : Nat → Prop} {w : World} {ps : List Fr} {a : Option Addr} {n c g : Nat} (h : RdS A w ps a n c) (hz : ZFr g w) (hk : ∀ f ∈ ps, f.kind ≠ 0) : RdS (fun z => A z ∧ z ≠ g) w ps a n c := by
  obtain ⟨h1, h2, h3, h4, h5⟩ := h
  refine ⟨h1, h2, h3, h4, fun hn => ?_⟩
  obtain ⟨b, off, e, hA, hb, he⟩ := h5 hn
  refine ⟨b, off, e, ⟨hA, ?_⟩, hb, fun i x hi => ?_⟩
  · rintro rfl
    cases ps with
    | nil => simp at h1; omega
    | cons x o =>
      obtain ⟨xs, ⟨a', n', c', rfl, -⟩, h6⟩ := he 0 x rfl
      have e4 := zfr_str hz (h6 4 _ rfl)
      have e0 := h6 0 _ rfl
      have e3 : off + 0 * Rep.n Fr + 0 = 0 := by omega
      rw [e3, Blk.cell hz 0] at e0
      simp at e0
      exact hk x (by simp) e0.symm
  · obtain ⟨xs, ⟨a', n', c', e, hr, hf⟩, h6⟩ := he i x hi
    exact ⟨xs, ⟨a', n', c', e, parts_offF hr hz, hf⟩, h6⟩
theorem packets_offF {A : Nat → Prop} {w : World} {ps : List Pkt} {a : Option Addr} {n c g : Nat} (h : RdS A w ps a n c) (hz : ZFr g w) : RdS (fun z => A z ∧ z ≠ g) w ps a n c := by
  obtain ⟨h1, h2, h3, h4, h5⟩ := h
  refine ⟨h1, h2, h3, h4, fun hn => ?_⟩
  obtain ⟨b, off, e, hA, hb, he⟩ := h5 hn
  refine ⟨b, off, e, ⟨hA, ?_⟩, hb, fun i x hi => ?_⟩
  · rintro rfl
    cases ps with
    | nil => simp at h1; omega
    | cons x o =>
      obtain ⟨xs, ⟨a', n', c', rfl, -⟩, h6⟩ := he 0 x rfl
      have e8 := zfr_str hz (h6 8 _ rfl)
      have e9 : Rep.n Pkt = 9 := rfl
      omega
  · obtain ⟨xs, ⟨a', n', c', e, hr, hf⟩, h6⟩ := he i x hi
    exact ⟨xs, ⟨a', n', c', e, parts_offF hr hz, hf⟩, h6⟩
section
variable {B g : Nat} {v : Value} {w w' : World}
theorem fresh_off (ht : Touch (fun z => z = g) w w') : ∀ z, (Fresh B w z ∧ z ≠ g) → Fresh B w' z ∧ w'.heap[z]? = w.heap[z]? := fun _ hz => ⟨⟨hz.1.1, Nat.lt_of_lt_of_le hz.1.2 ht.size⟩, ht.block _ hz.1.2 hz.2⟩
theorem LkVal.offF {l : Lk} (h : LkVal B l v w) (hz : ZFr g w) (ht : Touch (fun z => z = g) w w') (h1 : ∀ f ∈ l.sent, f.kind ≠ 0) (h2 : ∀ f ∈ l.queue, f.kind ≠ 0) : LkVal B l v w' := by
  obtain ⟨a, c, b, d, e, r1, r2⟩ := h
  exact ⟨a, c, b, d, e, (frames_offF r1 hz h1).mono (fresh_off ht), (frames_offF r2 hz h2).mono (fresh_off ht)⟩
theorem FrV.offF {f : Fr} (h : FrV B f v w) (hz : ZFr g w) (ht : Touch (fun z => z = g) w w') : FrV B f v w' := by
  obtain ⟨a, c, e, r⟩ := h
  exact ⟨a, c, e, (parts_offF r hz).mono (fresh_off ht)⟩
theorem PsVal.offF {ps : List Pkt} (h : PsVal B ps v w) (hz : ZFr g w) (ht : Touch (fun z => z = g) w w') : PsVal B ps v w' := by
  obtain ⟨a, c, e, r⟩ := h
  exact ⟨a, c, e, (packets_offF r hz).mono (fresh_off ht)⟩
theorem FrV.off {f : Fr} (h : FrV B f v w) (hz : Blk g (.cells #[.int .i64 0, .int .i64 0, .slice none 0 0, .slice none 0 0, .int .i64 0] 33 (0, 0)) w) (ht : Touch (fun z => z = g) w w') : FrV B f v w' := by
  obtain ⟨a, c, e, r⟩ := h
  exact ⟨a, c, e, (parts_off r (zero_link hz)).mono (fresh_off ht)⟩
end
/-- a frame that lies in a box -/
def FrBox (B g : Nat) (f : Fr) (w : World) : Prop := ∃ a c, Blk g (.cells #[.int .i64 f.kind, .int .i64 f.heard, .int .i64 f.epoch, .slice a f.op.length c, .string f.text] 30 (0, 0)) w ∧ RdS (Fresh B w) w f.op a f.op.length c
theorem FrBox.go {B g : Nat} {f : Fr} {w w' : World} (h : FrBox B g f w) (hb : Below w.heap.size w w') : FrBox B g f w' := by obtain ⟨a, c, b, r⟩ := h; exact ⟨a, c, b.go hb, r.up hb⟩
theorem FrBox.offL {B g k : Nat} {f : Fr} {w w' : World} (h : FrBox B g f w) (hz : Blk k (.cells #[.int .i64 0, .int .i64 0, .slice none 0 0, .slice none 0 0, .int .i64 0] 33 (0, 0)) w) (ht : Touch (fun z => z = k) w w') : FrBox B g f w' := by
  obtain ⟨a, c, b, r⟩ := h
  exact ⟨a, c, b.touch ht (fun e => blk_types b hz (by decide) e), (parts_off r (zero_link hz)).mono (fresh_off ht)⟩
theorem LkBox.offF {B g k : Nat} {l : Lk} {w w' : World} (h : LkBox B g l w) (hz : ZFr k w) (ht : Touch (fun z => z = k) w w') (h1 : ∀ f ∈ l.sent, f.kind ≠ 0) (h2 : ∀ f ∈ l.queue, f.kind ≠ 0) : LkBox B g l w' := by
  obtain ⟨a, c, b, d, x, r1, r2⟩ := h
  exact ⟨a, c, b, d, x.touch ht (fun e => blk_types x hz (by decide) e), (frames_offF r1 hz h1).mono (fresh_off ht), (frames_offF r2 hz h2).mono (fresh_off ht)⟩
theorem hear_val2 (l : Lk) (p : Pkt) (a b fa : Option Addr) (cc d dd : Nat) (w : World) (hg : Good w) (h1 : RdS (· < w.heap.size) w l.sent a l.sent.length cc) (h2 : RdS (· < w.heap.size) w l.queue b l.queue.length d) (h3 : RdS (· < w.heap.size) w p.f.op fa p.f.op.length dd) (hl : l.fits) (hp : p.fits) (hq : l.queue.length ≤ 1000000) :
    Calls Tryd.prog 19 #[.agg #[.int .i64 l.epoch, .int .i64 l.next, .slice a l.sent.length cc, .slice b l.queue.length d, .int .i64 l.heard], .agg #[.int .i64 p.epoch, .int .i64 p.number, .bool p.bare, .int .i64 p.ack, .int .i64 p.f.kind, .int .i64 p.f.heard, .int .i64 p.f.epoch, .slice fa p.f.op.length dd, .string p.f.text]] w fun e w' => ∃ ul uf up, e = .returned (.tuple #[ul, uf, .bool (l.told p), up, .int .i64 (l.hearE p)]) ∧ LkVal w.heap.size (l.hearL p) ul w' ∧ FrV w.heap.size (l.hearF p) uf w' ∧ PsVal w.heap.size (l.hearP p) up w' ∧ Below w.heap.size w w' := by
  refine (lkHear_any l p a b fa _ cc _ d _ dd w hg h1 h2 h3 hl hp hq).mono ?_
  rintro e w' ⟨xa, xc, ya, yc, za, zc, pa, pc, rfl, r1, r2, r3, r4, hb⟩
  exact ⟨_, _, _, rfl, ⟨xa, xc, ya, yc, rfl, r1, r2⟩, ⟨za, zc, rfl, r3⟩, ⟨pa, pc, rfl, r4⟩, hb⟩
end Go.Proofs.YtkhacogeffidoaaDoor
