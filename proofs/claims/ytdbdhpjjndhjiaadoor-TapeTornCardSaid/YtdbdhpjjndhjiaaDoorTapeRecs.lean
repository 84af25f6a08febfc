/- The walk of wherrykeep.records. -/
import Derived.Test.YtdbdhpjjndhjiaaDoorRecMake
set_option linter.unusedSimpArgs false
namespace Go.Proofs.YtdbdhpjjndhjiaaDoor
open Go.RowKit

/-- the record that is made of the raw things from k on -/
def recAt (l : List Raw) (k : Nat) : Rec := match l[k]? with
  | some r => recOf r ((l.drop k).take (min (k + 2) l.length - k))
  | none => ⟨0, []⟩
def recsOf (l : List Raw) (k : Nat) : List Rec := (List.range k).map (recAt l)
theorem recAt_ok (l : List Raw) (k : Nat) (h : k < l.length) : checkRecord (recAt l k) = 0 ∧ I64 (recAt l k).epoch := by
  unfold recAt
  rw [List.getElem?_eq_getElem h]
  exact recOf_ok _ _
theorem recsOf_len (l : List Raw) (k : Nat) : (recsOf l k).length = k := by simp [recsOf]
theorem recsOf_next (l : List Raw) (k : Nat) : recsOf l (k + 1) = recsOf l k ++ [recAt l k] := by
  simp [recsOf, List.range_succ]
theorem recsOf_ok (l : List Raw) (k : Nat) (h : k ≤ l.length) : ∀ r ∈ recsOf l k, checkRecord r = 0 ∧ I64 r.epoch := by
  intro r hr
  obtain ⟨i, hi, rfl⟩ := List.mem_map.1 hr
  exact recAt_ok l i (by have := List.mem_range.1 hi; omega)
/-- what a drawn call of Record and its box hold, whichever comes first -/
def RecJ (B : Nat) (o : Rec) (n : Nat) (p : Bool) (v : Value) (q : Bool) (u : Value) (W : World) : Prop :=
  (q = true → ∃ g, u = .pointer (some ⟨g, 0, none⟩) ∧ g < W.heap.size) ∧
  (p = true → ∃ a c, v = .agg #[.int .i64 o.epoch, .slice a n c] ∧ RdS (fun b => (B ≤ b ∧ b < W.heap.size) ∧ (q = true → u ≠ .pointer (some ⟨b, 0, none⟩))) W o.op a n c)
theorem RecJ.made {B : Nat} {o : Rec} {n : Nat} {p : Bool} {v : Value} {q : Bool} {u : Value} {W W' : World} {a : Option Addr} {c : Nat} (h : RecJ B o n p v q u W) (hr : RdS (fun b => W.heap.size ≤ b ∧ b < W'.heap.size) W' o.op a n c) (hb : Below W.heap.size W W') (hB : B ≤ W.heap.size) :
    RecJ B o n true (.agg #[.int .i64 o.epoch, .slice a n c]) q u W' := by
  refine ⟨fun hq => ?_, fun _ => ⟨a, c, rfl, hr.mono fun b hb => ⟨⟨⟨Nat.le_trans hB hb.1, hb.2⟩, fun hq e => ?_⟩, rfl⟩⟩⟩
  · obtain ⟨g, e, hg⟩ := h.1 hq
    exact ⟨g, e, Nat.lt_of_lt_of_le hg hb.size⟩
  · obtain ⟨g, eg, hg⟩ := h.1 hq
    rw [eg] at e
    injection e with e
    injection e with e
    injection e with e1 e2 e3
    have := hb.1
    omega
theorem RecJ.box {B : Nat} {o : Rec} {n : Nat} {p : Bool} {v : Value} {q : Bool} {u : Value} {W : World} (h : RecJ B o n p v q u W) (ob : Obj) :
    RecJ B o n p v true (.pointer (some ⟨W.heap.size, 0, none⟩)) (W.alloc ob) := by
  refine ⟨fun _ => ⟨_, rfl, by simp⟩, fun hp => ?_⟩
  obtain ⟨a, c, e, r⟩ := h.2 hp
  refine ⟨a, c, e, r.mono fun b hb => ⟨⟨⟨hb.1.1, by have := hb.1.2; simp; omega⟩, fun _ e => ?_⟩, ((Below.refl _ W).alloc (Nat.le_refl _) ob).block b hb.1.2⟩⟩
  injection e with e
  injection e with e
  injection e with e1 e2 e3
  have := hb.1.2
  omega
theorem RecJ.put {B : Nat} {o : Rec} {n : Nat} {p : Bool} {v : Value} {g : Nat} {W W' : World} (h : RecJ B o n p v true (.pointer (some ⟨g, 0, none⟩)) W) (ht : Touch (fun z => z = g) W W') :
    RecJ B o n p v true (.pointer (some ⟨g, 0, none⟩)) W' := by
  refine ⟨fun hq => ?_, fun hp => ?_⟩
  · obtain ⟨g', e, hg⟩ := h.1 hq
    exact ⟨g', e, Nat.lt_of_lt_of_le hg ht.size⟩
  · obtain ⟨a, c, e, r⟩ := h.2 hp
    exact ⟨a, c, e, r.mono fun b hb => ⟨⟨⟨hb.1.1, Nat.lt_of_lt_of_le hb.1.2 ht.size⟩, hb.2⟩, ht.block b hb.1.2 fun e => hb.2 rfl (by have e' : b = g := e; rw [e'])⟩⟩
theorem touch2 (W : World) (g : Nat) (x y : Value) : Touch (fun z => z = g) W ((W.setCell ⟨g, 0, none⟩ x).setCell ⟨g, 1, none⟩ y) :=
  ((Touch.refl (fun z => z = g) W).setCell (p := ⟨g, 0, none⟩) (.inl rfl) _).setCell (p := ⟨g, 1, none⟩) (.inl rfl) _
set_option maxRecDepth 100000 in
set_option maxHeartbeats 4000000 in
theorem records_any (l : List Raw) (a : Option Addr) (n c m : Nat) (w : World) (hr : RdS (· < w.heap.size) w l a n c) (hm : m ≤ 1000) :
    Calls Tryd.prog 14 #[.slice a n c, .int .i64 (m : Int)] w fun e w' => ∃ a' c', e = .returned (.slice a' (min n m) c') ∧ RdS (· < w'.heap.size) w' (recsOf l (min n m)) a' (min n m) c' ∧ Below w.heap.size w w' := by
  obtain ⟨i0, hi, hz0, hz1, hz2⟩ := info_parts infoRec
  have Hi := Lib.hid hi
  have Hz0 := Lib.hid hz0
  have Hz1 := Lib.hid hz1
  have Hz2 := Lib.hid hz2
  clear hi hz0 hz1 hz2
  have hnl := hr.1
  have hnc := hr.2.1
  have hcm := hr.2.2.1
  unfold maxLen at hcm
  have Hl := Lib.hid hnl
  have Hr := Lib.hid hr
  clear hnl hr
  go_enter Tryd.func14, Tryd.ntmps14
  go_wp2_with fail
  go_loopw [5, 6] (fun v i wr => ∃ k : Nat, k ≤ n ∧ k ≤ m ∧ i = .int .i64 k ∧ Own (· < w.heap.size) w.heap.size 33 v (recsOf l k) wr ∧ Below w.heap.size w wr) (fun _ i _ => n - (intOf i).toNat)
  case atStart => exact ⟨0, by omega, by omega, rfl, Own.nil, Below.refl _ _⟩
  case round =>
    obtain ⟨k, hkn, hkm, rfl, own, hb⟩ := hrel
    by_cases hlt : k < n ∧ k < m
    · obtain ⟨hlt, hlt2⟩ := hlt
      have hz := hb.size
      obtain ⟨b, off, rfl, hAb, hbs, hcs⟩ := (Hr.out.go hb).raw (by omega)
      have hkl : k < l.length := by have := Hl.out; omega
      obtain ⟨hok, d0, d1, d2, d3, d4⟩ := hcs k hkl
      clear hcs
      obtain ⟨M, hM⟩ : ∃ M, M = min (k + 2) n := ⟨_, rfl⟩
      have hkM : k ≤ M := by omega
      have hMn : M ≤ n := by omega
      have hat : recAt l k = recOf l[k] ((l.drop k).take (M - k)) := by
        unfold recAt
        rw [List.getElem?_eq_getElem hkl, hM, ← Hl.out]
      have HR := Lib.hid (fun c' W (h : RdS (· < W.heap.size) W ((l.drop k).take (M - k)) (some ⟨b, off + k * 5, none⟩) (M - k) c') => record_any l[k] ((l.drop k).take (M - k)) (some ⟨b, off + k * 5, none⟩) (M - k) c' W h hok)
      rw [← hat] at HR
      have Hsub : Hid (∀ W c', Below w.heap.size w W → M - k ≤ c' → c' ≤ 9223372036854775807 → RdS (· < W.heap.size) W ((l.drop k).take (M - k)) (some ⟨b, off + k * 5, none⟩) (M - k) c') := fun W c' hW h1 h2 => (Hr.out.go hW).sub k (M - k) (by omega) h1 (by unfold maxLen; omega)
      have hI6 := (recAt_ok l k hkl).2
      have Hnext := Lib.hid (recsOf_next l k)
      have Hlen := Lib.hid (recsOf_len l k)
      have HI6 := Lib.hid hI6
      have HM := Lib.hid hM
      have Hown := Lib.hid own
      have HB := Lib.hid hb
      clear hat hok hI6 hM own hb
      generalize recAt l k = o at *
      unfold rawV at HR
      generalize l[k] = x at *
      obtain ⟨xk, xa, xb, xc, xt⟩ := x
      simp only at d0 d1 d2 d3 d4 HR
      generalize hno : o.op.length = no at *
      have kc : k < c := by omega
      go_wp2_with fail
      obtain ⟨Vp, HV⟩ : ∃ Vp : Nat → Value → World → Prop, Hid (Vp = fun i v W => match i with
          | 0 => v = .slice (some ⟨b, off, none⟩) n c
          | 1 => v = .int .i64 (k : Int)
          | 2 => v = .pointer (some ⟨b, off + k * 5, none⟩)
          | 3 => v = .agg #[.int .i64 xk, .int .i64 xa, .int .i64 xb, .int .i64 xc, .string xt]
          | 4 => v = .slice (some ⟨b, off, none⟩) n c
          | 5 => v = .int .i64 (k : Int)
          | 6 => v = .int .i64 (k : Int)
          | 7 => v = .int .i64 ((k : Int) + 2)
          | 8 => v = .slice (some ⟨b, off, none⟩) n c
          | 9 => v = .int .i64 (n : Int)
          | 10 => v = .int .i64 (M : Int)
          | 11 => ∃ c' : Nat, v = .slice (some ⟨b, off + k * 5, none⟩) (M - k) c' ∧ M - k ≤ c' ∧ c' ≤ 9223372036854775807
          | 12 => ∃ (a : Option Addr) (c : Nat), v = .agg #[.int .i64 o.epoch, .slice a no c]
          | 13 => ∃ g, v = .pointer (some ⟨g, 0, none⟩) ∧ wr.heap.size ≤ g ∧ Blk g (.cells #[.int .i64 0, .slice none 0 0] 33 (0, 0)) W
          | _ => v = undef) := ⟨_, rfl⟩
      obtain ⟨Ip, HIp⟩ : ∃ Ip : (Nat → Bool) → (Nat → Value) → World → Prop, Hid (Ip = fun L x W => (Below wr.heap.size wr W ∧ RecJ wr.heap.size o no (L 12) (x 12) (L 13) (x 13) W ∧ (L 14 = true → ∃ g a' c', x 13 = .pointer (some ⟨g, 0, none⟩) ∧ Blk g (.cells #[.int .i64 o.epoch, .slice a' no c'] 33 (0, 0)) W ∧ RdS (fun b => (wr.heap.size ≤ b ∧ b < W.heap.size) ∧ b ≠ g) W o.op a' no c'))) := ⟨_, rfl⟩
      refine region_lit3 (by kernel_rfl) (by kernel_rfl) (by kernel_rfl) [[], [], [0, 1], [0, 1, 2], [], [], [], [6], [], [8], [6, 7, 8, 9], [4, 5, 6, 7, 8, 9, 10], [0, 1, 2, 3, 4, 5, 6, 7, 8, 9, 10, 11], [], [0, 1, 2, 3, 4, 5, 6, 7, 8, 9, 10, 11, 12, 13]] (by kernel_rfl) [some 19, some 20, some 21, some 22, some 23, some 24, some 25, some 26, some 27, some 28, some 29, some 30, some 31, some 7, none] (by kernel_rfl) [[0, 2, 3, 12, 14], [1, 2, 3, 12, 14], [2, 3, 12, 14], [3, 12, 14], [4, 11, 12, 14], [5, 11, 12, 14], [6, 7, 10, 11, 12, 14], [7, 10, 11, 12, 14], [8, 9, 10, 11, 12, 14], [9, 10, 11, 12, 14], [10, 11, 12, 14], [11, 12, 14], [12, 14], [13, 14], [14]] (by kernel_rfl) [[], [], [], [], [], [], [], [], [], [], [], [], [], [14], []] [[], [], [0, 1], [2], [], [], [], [6], [], [8], [7, 9], [4, 5, 10], [3, 11], [], [12, 13]] (by kernel_rfl)
        Ip
        Vp
        (fun j W W' => match j with
          | 14 => Below wr.heap.size W W'
          | _ => Below W.heap.size W W')
        [fun x => ⟨#[.slice (some ⟨b, off, none⟩) n c, undef, undef, undef, undef, undef, undef, undef, undef, undef, undef, undef, undef, undef, undef, undef, undef, undef, undef, undef], []⟩,
   fun x => ⟨#[undef, undef, undef, undef, undef, undef, .int .i64 (k : Int), undef, undef, undef, undef, undef, undef, undef, undef, undef, undef, undef, undef, undef, undef], []⟩,
   fun x => ⟨#[undef, undef, undef, undef, undef, undef, undef, undef, undef, undef, undef, undef, undef, undef, undef, undef, undef, undef, undef, x 0, x 1, undef], []⟩,
   fun x => ⟨#[undef, undef, undef, undef, undef, undef, undef, undef, undef, undef, undef, undef, undef, undef, undef, undef, undef, undef, undef, undef, undef, x 2, undef], []⟩,
   fun x => ⟨#[.slice (some ⟨b, off, none⟩) n c, undef, undef, undef, undef, undef, undef, undef, undef, undef, undef, undef, undef, undef, undef, undef, undef, undef, undef, undef, undef, undef, undef, undef], []⟩,
   fun x => ⟨#[undef, undef, undef, undef, undef, undef, .int .i64 (k : Int), undef, undef, undef, undef, undef, undef, undef, undef, undef, undef, undef, undef, undef, undef, undef, undef, undef, undef], []⟩,
   fun x => ⟨#[undef, undef, undef, undef, undef, undef, .int .i64 (k : Int), undef, undef, undef, undef, undef, undef, undef, undef, undef, undef, undef, undef, undef, undef, undef, undef, undef, undef, undef], []⟩,
   fun x => ⟨#[undef, undef, undef, undef, undef, undef, undef, undef, undef, undef, undef, undef, undef, undef, undef, undef, undef, undef, undef, undef, undef, undef, undef, undef, undef, x 6, undef], []⟩,
   fun x => ⟨#[.slice (some ⟨b, off, none⟩) n c, undef, undef, undef, undef, undef, undef, undef, undef, undef, undef, undef, undef, undef, undef, undef, undef, undef, undef, undef, undef, undef, undef, undef, undef, undef, undef, undef], []⟩,
   fun x => ⟨#[undef, undef, undef, undef, undef, undef, undef, undef, undef, undef, undef, undef, undef, undef, undef, undef, undef, undef, undef, undef, undef, undef, undef, undef, undef, undef, undef, x 8, undef], []⟩,
   fun x => ⟨#[undef, undef, undef, undef, undef, undef, undef, undef, undef, undef, undef, undef, undef, undef, undef, undef, undef, undef, undef, undef, undef, undef, undef, undef, undef, undef, x 7, undef, x 9, undef], []⟩,
   fun x => ⟨#[undef, undef, undef, undef, undef, undef, undef, undef, undef, undef, undef, undef, undef, undef, undef, undef, undef, undef, undef, undef, undef, undef, undef, x 4, x 5, undef, undef, undef, undef, x 10, undef], []⟩,
   fun x => ⟨#[undef, undef, undef, undef, undef, undef, undef, undef, undef, undef, undef, undef, undef, undef, undef, undef, undef, undef, undef, undef, undef, undef, x 3, undef, undef, undef, undef, undef, undef, undef, x 11, undef], []⟩,
   fun x => ⟨#[undef, undef, undef, undef, undef, undef, undef, undef], []⟩,
   fun x => ⟨#[undef, undef, undef, undef, undef, undef, undef, x 13, undef, undef, undef, undef, undef, undef, undef, undef, undef, undef, undef, undef, undef, undef, undef, undef, undef, undef, undef, undef, undef, undef, undef, x 12], []⟩]
        ?hF ?mono ?h0 ?step [0, 1, 2, 3, 4, 5, 6, 7, 8, 9, 10, 11, 12, 14] (by kernel_rfl) ?fin
      case hF =>
        exact ⟨fun x => ⟨by kernel_rfl, by kernel_rfl⟩, fun x => ⟨by kernel_rfl, by kernel_rfl⟩, fun x => ⟨by kernel_rfl, by kernel_rfl⟩, fun x => ⟨by kernel_rfl, by kernel_rfl⟩, fun x => ⟨by kernel_rfl, by kernel_rfl⟩, fun x => ⟨by kernel_rfl, by kernel_rfl⟩, fun x => ⟨by kernel_rfl, by kernel_rfl⟩, fun x => ⟨by kernel_rfl, by kernel_rfl⟩, fun x => ⟨by kernel_rfl, by kernel_rfl⟩, fun x => ⟨by kernel_rfl, by kernel_rfl⟩, fun x => ⟨by kernel_rfl, by kernel_rfl⟩, fun x => ⟨by kernel_rfl, by kernel_rfl⟩, fun x => ⟨by kernel_rfl, by kernel_rfl⟩, fun x => ⟨by kernel_rfl, by kernel_rfl⟩, fun x => ⟨by kernel_rfl, by kernel_rfl⟩, trivial⟩
      case mono =>
        intro i j hi hj hne hna hnk v W W' hE hv
        rw [HV.out] at hv ⊢
        simp only [List.length_cons, List.length_nil] at hi hj
        match i, hi with
        | 0, _ | 1, _ | 2, _ | 3, _ | 4, _ | 5, _ | 6, _ | 7, _ | 8, _ | 9, _ | 10, _ | 11, _ | 12, _ | 14, _ => exact hv
        | 13, _ =>
          match j, hj with
          | 13, _ => exact absurd rfl hne
          | 14, _ => exact absurd (by simp) hnk
          | 0, _ => exact (by obtain ⟨g, h1, h2, h3⟩ := hv; exact ⟨g, h1, h2, h3.go hE⟩)
          | 1, _ => exact (by obtain ⟨g, h1, h2, h3⟩ := hv; exact ⟨g, h1, h2, h3.go hE⟩)
          | 2, _ => exact (by obtain ⟨g, h1, h2, h3⟩ := hv; exact ⟨g, h1, h2, h3.go hE⟩)
          | 3, _ => exact (by obtain ⟨g, h1, h2, h3⟩ := hv; exact ⟨g, h1, h2, h3.go hE⟩)
          | 4, _ => exact (by obtain ⟨g, h1, h2, h3⟩ := hv; exact ⟨g, h1, h2, h3.go hE⟩)
          | 5, _ => exact (by obtain ⟨g, h1, h2, h3⟩ := hv; exact ⟨g, h1, h2, h3.go hE⟩)
          | 6, _ => exact (by obtain ⟨g, h1, h2, h3⟩ := hv; exact ⟨g, h1, h2, h3.go hE⟩)
          | 7, _ => exact (by obtain ⟨g, h1, h2, h3⟩ := hv; exact ⟨g, h1, h2, h3.go hE⟩)
          | 8, _ => exact (by obtain ⟨g, h1, h2, h3⟩ := hv; exact ⟨g, h1, h2, h3.go hE⟩)
          | 9, _ => exact (by obtain ⟨g, h1, h2, h3⟩ := hv; exact ⟨g, h1, h2, h3.go hE⟩)
          | 10, _ => exact (by obtain ⟨g, h1, h2, h3⟩ := hv; exact ⟨g, h1, h2, h3.go hE⟩)
          | 11, _ => exact (by obtain ⟨g, h1, h2, h3⟩ := hv; exact ⟨g, h1, h2, h3.go hE⟩)
          | 12, _ => exact (by obtain ⟨g, h1, h2, h3⟩ := hv; exact ⟨g, h1, h2, h3.go hE⟩)
          | m + 15, h => exact absurd h (by omega)
        | m + 15, h => exact absurd h (by omega)
      case h0 => intro x; exact toI HIp ⟨(Below.refl _ _).drew, ⟨(fun h => by cases h), (fun h => by cases h)⟩, (fun h => by cases h)⟩
      case step =>
        refine ⟨?_, ?_, ?_, ?_, ?_, ?_, ?_, ?_, ?_, ?_, ?_, ?_, ?_, ?_, ?_, trivial⟩
        all_goals
          intro x W L hI hL hV
          replace hI : (Below wr.heap.size wr W ∧ RecJ wr.heap.size o no (L 12) (x 12) (L 13) (x 13) W ∧ (L 14 = true → ∃ g a' c', x 13 = .pointer (some ⟨g, 0, none⟩) ∧ Blk g (.cells #[.int .i64 o.epoch, .slice a' no c'] 33 (0, 0)) W ∧ RdS (fun b => (wr.heap.size ≤ b ∧ b < W.heap.size) ∧ b ≠ g) W o.op a' no c')) := ofI HIp hI
          rw [HV.out] at hV
          simp only [AllV, and_true] at hV
        · clear hV
          (try dsimp only)
          have HI := Lib.hid hI
          have HL := Lib.hid hL
          clear hI hL
          go_wp2_with fail
          refine step3_done rfl ?_ ?_ ?_
          · exact (toI HIp HI.out)
          · exact (Below.refl _ _)
          · exact (toV HV rfl)
        · clear hV
          (try dsimp only)
          have HI := Lib.hid hI
          have HL := Lib.hid hL
          clear hI hL
          go_wp2_with fail
          refine step3_done rfl ?_ ?_ ?_
          · exact (toI HIp HI.out)
          · exact (Below.refl _ _)
          · exact (toV HV rfl)
        · obtain ⟨u0, u1⟩ := hV
          simp only [u0, u1]
          clear u0 u1
          have HI := Lib.hid hI
          have HL := Lib.hid hL
          clear hI hL
          go_wp2_with fail
          refine step3_done rfl ?_ ?_ ?_
          · exact (toI HIp HI.out)
          · exact (Below.refl _ _)
          · exact (toV HV rfl)
        · have u2 := hV
          clear hV
          simp only [u2]
          clear u2
          have HI := Lib.hid hI
          have HL := Lib.hid hL
          clear hI hL
          have c0 : W.cell? ⟨b, off + k * 5, none⟩ = some (.int .i64 xk) := (HI.out.1.cell (p := ⟨b, off + k * 5, none⟩) hbs).trans d0
          have c1 : W.cell? ⟨b, off + k * 5 + 1, none⟩ = some (.int .i64 xa) := (HI.out.1.cell (p := ⟨b, off + k * 5 + 1, none⟩) hbs).trans d1
          have c2 : W.cell? ⟨b, off + k * 5 + 2, none⟩ = some (.int .i64 xb) := (HI.out.1.cell (p := ⟨b, off + k * 5 + 2, none⟩) hbs).trans d2
          have c3 : W.cell? ⟨b, off + k * 5 + 3, none⟩ = some (.int .i64 xc) := (HI.out.1.cell (p := ⟨b, off + k * 5 + 3, none⟩) hbs).trans d3
          have c4 : W.cell? ⟨b, off + k * 5 + 4, none⟩ = some (.string xt) := (HI.out.1.cell (p := ⟨b, off + k * 5 + 4, none⟩) hbs).trans d4
          clear d0 d1 d2 d3 d4
          go_wp2_with fail
          refine step3_done rfl ?_ ?_ ?_
          · exact (toI HIp HI.out)
          · exact (Below.refl _ _)
          · exact (toV HV rfl)
        · clear hV
          (try dsimp only)
          have HI := Lib.hid hI
          have HL := Lib.hid hL
          clear hI hL
          go_wp2_with fail
          refine step3_done rfl ?_ ?_ ?_
          · exact (toI HIp HI.out)
          · exact (Below.refl _ _)
          · exact (toV HV rfl)
        · clear hV
          (try dsimp only)
          have HI := Lib.hid hI
          have HL := Lib.hid hL
          clear hI hL
          go_wp2_with fail
          refine step3_done rfl ?_ ?_ ?_
          · exact (toI HIp HI.out)
          · exact (Below.refl _ _)
          · exact (toV HV rfl)
        · clear hV
          (try dsimp only)
          have HI := Lib.hid hI
          have HL := Lib.hid hL
          clear hI hL
          go_wp2_with fail
          refine step3_done rfl ?_ ?_ ?_
          · exact (toI HIp HI.out)
          · exact (Below.refl _ _)
          · exact (toV HV rfl)
        · have u6 := hV
          clear hV
          simp only [u6]
          clear u6
          have HI := Lib.hid hI
          have HL := Lib.hid hL
          clear hI hL
          go_wp2_with fail
          refine step3_done rfl ?_ ?_ ?_
          · exact (toI HIp HI.out)
          · exact (Below.refl _ _)
          · exact (toV HV rfl)
        · clear hV
          (try dsimp only)
          have HI := Lib.hid hI
          have HL := Lib.hid hL
          clear hI hL
          go_wp2_with fail
          refine step3_done rfl ?_ ?_ ?_
          · exact (toI HIp HI.out)
          · exact (Below.refl _ _)
          · exact (toV HV rfl)
        · have u8 := hV
          clear hV
          simp only [u8]
          clear u8
          have HI := Lib.hid hI
          have HL := Lib.hid hL
          clear hI hL
          go_wp2_with fail
          refine step3_done rfl ?_ ?_ ?_
          · exact (toI HIp HI.out)
          · exact (Below.refl _ _)
          · exact (toV HV rfl)
        · obtain ⟨u7, u9⟩ := hV
          simp only [u7, u9]
          clear u7 u9
          have HI := Lib.hid hI
          have HL := Lib.hid hL
          clear hI hL
          go_wp2_with fail
          refine step3_done rfl ?_ ?_ ?_
          · exact (toI HIp HI.out)
          · exact (Below.refl _ _)
          · exact (toV HV (by have h := HM.out; show Value.int _ _ = Value.int _ _; congr 1; omega))
        · obtain ⟨u4, u5, u10⟩ := hV
          simp only [u4, u5, u10]
          clear u4 u5 u10
          have HI := Lib.hid hI
          have HL := Lib.hid hL
          clear hI hL
          have i1 : (0 : Int) ≤ (k : Int) := by omega
          have i2 : (k : Int) ≤ (M : Int) := by omega
          have i3 : (M : Int) ≤ (c : Int) := by omega
          go_wp2_with fail
          refine step3_done rfl ?_ ?_ ?_
          · exact (toI HIp HI.out)
          · exact (Below.refl _ _)
          · exact (toV HV ⟨_, rfl, by omega, by omega⟩)
        · obtain ⟨u3, ⟨c9, u11, l9, m9⟩⟩ := hV
          simp only [u3, u11]
          have U11 := Lib.hid u11
          clear u3 u11
          have HI := Lib.hid hI
          have HL := Lib.hid hL
          clear hI hL
          go_wp2_with fail
          refine (HR.out _ _ (Hsub.out _ _ (upper HB.out HI.out.1 hz) l9 m9)).mono ?_
          rintro e W' ⟨a', c', rfl, hrd, uW⟩
          simp only [hno] at hrd ⊢
          have HW := Lib.hid (up HI.out.1 uW)
          have HU := Lib.hid uW
          have hzw := HI.out.1.size
          have HJ := Lib.hid (HI.out.2.1.made hrd uW hzw)
          clear uW hrd
          go_wp2_with fail
          refine step3_done rfl ?_ ?_ ?_
          · exact (toI HIp ⟨HW.out, HJ.out, fun h => absurd ((HL.out.2 14 (by simp)).symm.trans h) (by simp)⟩)
          · exact HU.out
          · exact (toV HV ⟨_, _, rfl⟩)
        · clear hV
          (try dsimp only)
          have HI := Lib.hid hI
          have HL := Lib.hid hL
          clear hI hL
          go_wp2_with fail
          have uW : ∀ o, Below W.heap.size W (W.alloc o) := fun o => (Below.refl _ _).alloc (Nat.le_refl _) o
          have hsz := HI.out.1.size
          refine step3_done rfl ?_ ?_ ?_
          · exact (toI HIp ⟨up HI.out.1 (uW _), HI.out.2.1.box _, fun h => absurd ((HL.out.2 14 (by simp)).symm.trans h) (by simp)⟩)
          · exact (uW _)
          · exact (toV HV ⟨_, rfl, hsz, Blk.new _ _⟩)
        · obtain ⟨⟨a12, c12, u12⟩, ⟨g13, u13, l13, b13⟩⟩ := hV
          simp only [u13, u12]
          have U12 := Lib.hid u12
          have U13 := Lib.hid u13
          clear u12 u13
          have HI := Lib.hid hI
          have HL := Lib.hid hL
          clear hI hL
          have c0 : W.cell? ⟨g13, 0, none⟩ = some (.int .i64 0) := b13.cell 0
          have c1 : W.cell? ⟨g13, 1, none⟩ = some (.slice none 0 0) := b13.cell 1
          have cf := b13.frozen
          have hJ := HI.out.2.1
          rw [HL.out.1 12 (by simp), HL.out.1 13 (by simp), U13.out] at hJ
          have hT := touch2 W g13 (.int .i64 o.epoch) (.slice a12 no c12)
          have hJ' := hJ.put hT
          obtain ⟨a', c', e12, r12⟩ := hJ'.2 rfl
          have hac := U12.out.symm.trans e12
          simp at hac
          obtain ⟨rfl, rfl⟩ := hac
          have HN : Hid (Below wr.heap.size W ((W.setCell ⟨g13, 0, none⟩ (.int .i64 o.epoch)).setCell ⟨g13, 1, none⟩ (.slice a12 no c12)) ∧ RecJ wr.heap.size o no (L 12) (x 12) (L 13) (x 13) ((W.setCell ⟨g13, 0, none⟩ (.int .i64 o.epoch)).setCell ⟨g13, 1, none⟩ (.slice a12 no c12)) ∧ ∃ g a' c', x 13 = .pointer (some ⟨g, 0, none⟩) ∧ Blk g (.cells #[.int .i64 o.epoch, .slice a' no c'] 33 (0, 0)) ((W.setCell ⟨g13, 0, none⟩ (.int .i64 o.epoch)).setCell ⟨g13, 1, none⟩ (.slice a12 no c12)) ∧ RdS (fun b => (wr.heap.size ≤ b ∧ b < ((W.setCell ⟨g13, 0, none⟩ (.int .i64 o.epoch)).setCell ⟨g13, 1, none⟩ (.slice a12 no c12)).heap.size) ∧ b ≠ g) ((W.setCell ⟨g13, 0, none⟩ (.int .i64 o.epoch)).setCell ⟨g13, 1, none⟩ (.slice a12 no c12)) o.op a' no c') := by
            refine ⟨hT.toBelow HI.out.1.size (fun k hk => by subst hk; exact l13), ?_, g13, a12, c12, U13.out, (b13.set 0 _).set 1 _, r12.mono fun b hb => ⟨⟨hb.1, fun e => hb.2 rfl (by rw [e])⟩, rfl⟩⟩
            rw [HL.out.1 12 (by simp), HL.out.1 13 (by simp), U13.out]
            exact hJ'
          clear b13 hJ hT hJ' e12 r12
          go_wp2_with fail
          refine step3_done (v := undef) rfl ?_ ?_ ?_
          · exact (toI HIp ⟨HI.out.1.trans HN.out.1, HN.out.2.1, fun _ => HN.out.2.2⟩)
          · exact HN.out.1
          · exact (toV HV rfl)
      case fin =>
        intro x W L hL hI hV
        replace hI : (Below wr.heap.size wr W ∧ RecJ wr.heap.size o no (L 12) (x 12) (L 13) (x 13) W ∧ (L 14 = true → ∃ g a' c', x 13 = .pointer (some ⟨g, 0, none⟩) ∧ Blk g (.cells #[.int .i64 o.epoch, .slice a' no c'] 33 (0, 0)) W ∧ RdS (fun b => (wr.heap.size ≤ b ∧ b < W.heap.size) ∧ b ≠ g) W o.op a' no c')) := ofI HIp hI
        rw [HV.out] at hV
        simp only [AllV, and_true] at hV
        obtain ⟨u0, u1, u2, u3, u4, u5, u6, u7, u8, u9, u10, ⟨c9, u11, l9, m9⟩, ⟨a12, c12, u12⟩, u14⟩ := hV
        simp only [getsD, List.getD_cons_succ, List.getD_cons_zero, List.length_cons, List.length_nil, List.range, List.range.loop, u0, u1, u2, u3, u4, u5, u6, u7, u8, u9, u10, u11, u12, u14, Act.put, List.setIfInBounds_toArray, List.set_cons_succ, List.set_cons_zero]
        clear u0 u1 u2 u3 u4 u5 u6 u7 u8 u9 u10 u11 u12 u14
        obtain ⟨g, a', c', e7, bg, rg⟩ := hI.2.2 (hL 14 (by simp))
        have d0 : W.cell? ⟨g, 0, none⟩ = some (.int .i64 o.epoch) := bg.cell 0
        have d1 : W.cell? ⟨g, 1, none⟩ = some (.slice a' no c') := bg.cell 1
        have Hzz := Lib.hid (hI.1.size)
        have HB2 := Lib.hid (upper HB.out hI.1 hz)
        have HO2 := Lib.hid (Hown.out.go hI.1)
        have HR2 := Lib.hid rg
        have Hro := Lib.hid Hown.out.rowlt
        obtain ⟨a5, c5, hv5⟩ := Hown.out.form
        simp only [e7]
        clear hI hL bg rg e7 HB HR Hsub
        have hl5 := Hlen.out
        rw [hl5] at hv5
        subst hv5
        have Hrd : Hid (∀ W', Below W.heap.size W W' → Rep.rd (fun b => b < W'.heap.size ∧ ¬ b < w.heap.size ∧ (Value.slice a5 k c5).ownBlock ≠ some b) W' o [.int .i64 o.epoch, .slice a' no c']) := fun W' hW => ⟨a', no, c', rfl, HI6.out, HR2.out.mono fun b hb => ⟨⟨Nat.lt_of_lt_of_le hb.1.2 hW.size, by have := hb.1.1; omega, fun e => by have := (Hro.out b e).2; have := hb.1.1; omega⟩, hW.block b hb.1.2⟩⟩
        have Hu : Hid (∀ o, Below W.heap.size W (W.alloc o)) := fun o => (Below.refl _ _).alloc (Nat.le_refl _) o
        clear Hown
        go_wp2_with (at_builtin; refine wpList_append_one rfl _ _ _ (by rfl) w.heap.size 33 i0 _ 32 Tryd.underlying23 Hi.out Hz0.out Hz1.out Hz2.out rfl (.slice a5 k c5) (recsOf l k) (by rfl) (HO2.out.go (Hu.out _)) W.heap.size 1 _ [.int .i64 o.epoch, .slice a' no c'] o (by rfl) (Blk.new W _) (Hrd.out _ (Hu.out _)) (by rw [Hlen.out]; unfold maxLen; omega) (by rw [Hlen.out]; omega) (by have := Hzz.out; simp; omega) ?_)
        intro g2 cap w5 hown5 hgrow hat hlt5
        have hzz := Hzz.out
        have hb5 : Below w.heap.size w w5 := (upper HB2.out (Hu.out _) (by omega)).grown hgrow (by simp; omega) (fun g hg => (Hro.out g hg).1)
        rw [← Hnext.out] at hown5
        try rw [Hlen.out] at hown5
        try rw [Hlen.out]
        have HO5 := Lib.hid hown5
        have HB5 := Lib.hid hb5
        clear hown5 hgrow hat hb5 HO2 HB2 Hrd HR2
        go_wp2_with fail
        go_roundw
        case rel => exact ⟨k + 1, by omega, by omega, by go_num, HO5.out, HB5.out⟩
        case measure => simp [intOf]; omega
    · have hk : k = min n m := by omega
      obtain ⟨a5, c5, hv, hr5⟩ := own.rdw
      rw [recsOf_len] at hv hr5
      subst hv
      have G : Hid (∃ a' c', Ending.returned (.slice a5 k c5) = .returned (.slice a' (min n m) c') ∧ RdS (· < wr.heap.size) wr (recsOf l (min n m)) a' (min n m) c' ∧ Below w.heap.size w wr) := by rw [← hk]; exact ⟨_, _, rfl, hr5, hb⟩
      have hway : (k < n ∧ ¬ k < m) ∨ ¬ k < n := by omega
      clear own hb hr5 hk hlt
      rcases hway with ⟨h1, h2⟩ | h1 <;>
      · go_wp2_with fail
        go_ret
        exact G.out
end Go.Proofs.YtdbdhpjjndhjiaaDoor
