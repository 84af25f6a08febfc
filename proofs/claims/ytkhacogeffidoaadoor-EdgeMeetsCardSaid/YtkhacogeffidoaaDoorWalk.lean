/- The walks of (*text.walker).part and (*text.walker).pass. -/
import Derived.Test.YtkhacogeffidoaaDoorXf
import Derived.Test.YtkhacogeffidoaaDoorSubP
import Derived.Handy
set_option linter.unusedVariables false
set_option linter.unusedSimpArgs false
namespace Go.Proofs.YtkhacogeffidoaaDoor
open Go.RowKit

/-- what is left of parts behind n runes of the at'th one -/
def remOf (la : List P) (at_ n : Nat) : List P := match la.drop at_ with | [] => [] | p :: r => p.cut n :: r
def partV (p : Part) : Value := .agg #[.int .i64 p.kind, .int .i64 p.n, .string p.text]
def headV : List P → Value
  | [] => .tuple #[partV ⟨0, 0, noText⟩, .bool false]
  | p :: _ => .tuple #[partV p.part, .bool true]
/-- block b is a walker through parts -/
structure Wk (D b : Nat) (la : List P) (at_ n : Nat) (w : World) : Prop where
  ex : ∃ a c, Blk b (.cells #[.slice a la.length c, .int .i64 at_, .int .i64 n] 133 (0, 0)) w ∧ RdS (fun k => k < D) w (la.map P.part) a la.length c
  db : D ≤ b
  ok : AllOk la
  len : la.length ≤ 8001
  f : FS la ≤ 4000
  t : TS la ≤ 4000
  le : at_ ≤ la.length
  lt : ∀ p, la[at_]? = some p → n < p.z
  n0 : at_ = la.length → n = 0
theorem Wk.go {D b : Nat} {la : List P} {k n : Nat} {w w' : World} (h : Wk D b la k n w) (hb : Below w.heap.size w w') : Wk D b la k n w' := by
  obtain ⟨a, c, h1, h2⟩ := h.ex
  have hbl := h1.lt
  have hdb := h.db
  exact ⟨⟨a, c, h1.go hb, h2.mono fun z hz => ⟨hz, hb.block z (by omega)⟩⟩, h.db, h.ok, h.len, h.f, h.t, h.le, h.lt, h.n0⟩
theorem P.z_le (p : P) : p.z ≤ p.F + p.T := by cases p <;> simp [P.z, P.F, P.T]
theorem P.one_le {p : P} : ∀ {l : List P}, p ∈ l → p.F ≤ FS l ∧ p.T ≤ TS l
  | [], h => by cases h
  | q :: l, h => by
    rcases List.mem_cons.1 h with rfl | h
    · simp only [FS, TS]; omega
    · have := P.one_le h; simp only [FS, TS]; omega
theorem infoPt : (Tryd.prog.info? 110).map (fun i => (i.zero, i.size, i.bytes)) = some (some (.agg #[.int .i64 0, .int .i64 0, .string ⟨#[]⟩]), 3, 32) := by kernel_rfl

set_option maxRecDepth 100000 in
set_option maxHeartbeats 3000000 in
theorem part_end (D b : Nat) (la : List P) (n : Nat) (w : World) (h : Wk D b la la.length n w) :
    Calls Tryd.prog 67 #[.pointer (some ⟨b, 0, none⟩)] w fun e w' => e = .returned (headV []) ∧ Below w.heap.size w w' := by
  obtain ⟨a, c, hb, hr⟩ := h.ex
  have hlen := h.len
  have hb' := hb.alloc (.cells #[.int .i64 0, .int .i64 0, .string ⟨#[]⟩] 110)
  have c0 : (w.alloc (.cells #[.int .i64 0, .int .i64 0, .string ⟨#[]⟩] 110)).cell? ⟨b, 0, none⟩ = some (.slice a la.length c) := hb'.cell 0
  have c1 : (w.alloc (.cells #[.int .i64 0, .int .i64 0, .string ⟨#[]⟩] 110)).cell? ⟨b, 1, none⟩ = some (.int .i64 la.length) := hb'.cell 1
  generalize la.length = m at *
  clear hr hb h hb'
  go_enter Tryd.func67, Tryd.ntmps67
  go_wp2_with fail
  go_quiet (fail)
  go_wp2_with fail
  refine abs_ret (fun W => Blk w.heap.size (.cells #[.int .i64 0, .int .i64 0, .string ⟨#[]⟩] 110 (0, 0)) W ∧ Below w.heap.size w W)
    ⟨Blk.set3 (show Blk w.heap.size (.cells #[.int .i64 0, .int .i64 0, .string ⟨#[]⟩] 110 (0, 0)) _ from Blk.new w _) _ _ _, ((touch3 _ _ _).toBelow (B := w.heap.size) (by simp) (fun k hk => by omega) |> Below.trans (below_drewN ((Below.refl _ _).alloc (Nat.le_refl _) _) _))⟩ ?_
  rintro W ⟨hB, hW⟩
  have p0 : W.cell? ⟨w.heap.size, 0, none⟩ = some (.int .i64 0) := hB.cell 0
  have p1 : W.cell? ⟨w.heap.size, 1, none⟩ = some (.int .i64 0) := hB.cell 1
  have p2 : W.cell? ⟨w.heap.size, 2, none⟩ = some (.string ⟨#[]⟩) := hB.cell 2
  have HW := Lib.hid hW
  clear hB hW c0 c1
  refine bodyPost_ret (v := headV []) (by simp [results, Tryd.results67, go_sem, p0, p1, p2, headV, partV, noText]) rfl ?_
  exact ⟨rfl, HW.out⟩

set_option maxRecDepth 100000 in
set_option maxHeartbeats 6000000 in
theorem part_num (D b : Nat) (la : List P) (k n : Nat) (kk : Int) (nn : Nat) (p : P) (hkk : p.part = ⟨kk, nn, noText⟩) (hpz : p.z = nn) (hki : kk = 1 ∨ kk = 3) (hp : la[k]? = some (p)) (w : World) (h : Wk D b la k n w) :
    Calls Tryd.prog 67 #[.pointer (some ⟨b, 0, none⟩)] w fun e w' => e = .returned (.tuple #[partV ⟨kk, (nn : Int) - n, noText⟩, .bool true]) ∧ Below w.heap.size w w' := by
  have hkl : k < la.length := (List.getElem?_eq_some_iff.1 hp).1
  obtain ⟨a, c, hb, hr⟩ := h.ex
  have hlen := h.len
  obtain ⟨g, off, rfl, hgA, hgl, hcs⟩ := hr.part (by omega)
  obtain ⟨hk64, hn64, ht, d0, d1, d2⟩ := hcs k (by simpa using hkl)
  have hpe : (la.map P.part)[k]'(by simpa using hkl) = (⟨kk, (nn : Int), noText⟩ : Part) := by
    rw [List.getElem_map]; rw [List.getElem?_eq_getElem hkl] at hp; rw [Option.some.inj hp]; exact hkk
  simp only [hpe] at hk64 hn64 ht d0 d1 d2
  have hpm : (p) ∈ la := List.mem_of_getElem? hp
  have hpok := h.ok _ hpm
  have hnz := h.lt _ hp
  have hzl := P.z_le (p)
  have hone := P.one_le hpm
  have hf := h.f
  have htt := h.t
  have hz8 : P.z (p) ≤ 8000 := by omega
  have ht4 : P.T (p) ≤ 4000 := by omega
  rw [hpz] at hz8 hnz
  have hgb : g ≠ b := by have h1 : g < D := hgA; have := h.db; omega
  have hr1 := hb.alloc (.cells #[.int .i64 0, .int .i64 0, .string ⟨#[]⟩] 110)
  have hkc : k < c := by have := hr.2.1; omega
  have hcm : c ≤ 9223372036854775807 := hr.2.2.1
  have i1 : (0 : Int) ≤ (k : Int) := by omega
  have i2 : (k : Int) < (la.length : Int) := by omega
  have hne : ((k : Int) == (la.length : Int)) = false := by simp; omega
  have hlk := List.length_pos_of_mem hpm
  clear hcs hr h hp hpm hpe hgA hone
  generalize la.length = m at *
  have Hb := Lib.hid hb
  have hbl := hb.lt
  have c0 : (w.alloc (.cells #[.int .i64 0, .int .i64 0, .string ⟨#[]⟩] 110)).cell? ⟨b, 0, none⟩ = some (.slice (some ⟨g, off, none⟩) m c) := hr1.cell 0
  have c1 : (w.alloc (.cells #[.int .i64 0, .int .i64 0, .string ⟨#[]⟩] 110)).cell? ⟨b, 1, none⟩ = some (.int .i64 k) := hr1.cell 1
  clear hb hr1
  go_enter Tryd.func67, Tryd.ntmps67
  go_wp2_with fail
  go_quiet (fail)
  go_wp2_with fail
  refine abs_w (fun W => Below w.heap.size w W ∧ Blk b (.cells #[.slice (some ⟨g, off, none⟩) m c, .int .i64 k, .int .i64 n] 133 (0, 0)) W ∧ Blk w.heap.size (.cells #[.int .i64 0, .int .i64 0, .string ⟨#[]⟩] 110 (0, 0)) W)
    ⟨below_drewN ((Below.refl _ _).alloc (Nat.le_refl _) _) _, Hb.out.alloc _, show Blk w.heap.size _ (w.alloc _) from Blk.new _ _⟩ ?_
  rintro W0 ⟨B0, X0, Y0⟩
  have Hd := Lib.hid (p := ∀ W, Below w.heap.size w W → W.cell? ⟨g, off + k * 3, none⟩ = some (.int .i64 kk) ∧ W.cell? ⟨g, off + k * 3 + 1, none⟩ = some (.int .i64 (nn : Int)) ∧ W.cell? ⟨g, off + k * 3 + 2, none⟩ = some (.string (noText)))
    (fun W hW => ⟨(hW.cell (p := ⟨g, off + k * 3, none⟩) hgl).trans d0, (hW.cell (p := ⟨g, off + k * 3 + 1, none⟩) hgl).trans d1, (hW.cell (p := ⟨g, off + k * 3 + 2, none⟩) hgl).trans d2⟩)
  have HB0 := Lib.hid B0
  have HX0 := Lib.hid X0
  have HY0 := Lib.hid Y0
  have hz0 := B0.size
  clear B0 X0 Y0 d0 d1 d2 c0 c1
  obtain ⟨Vp, HV⟩ : ∃ Vp : Nat → Value → World → Prop, Hid (Vp = fun i v W => match i with
      | 0 => v = .pointer (some ⟨b, 0, none⟩)
      | 1 => v = .pointer (some ⟨b, 0, none⟩)
      | 2 => v = .pointer (some ⟨b, 0, none⟩)
      | 3 => v = .slice (some ⟨g, off, none⟩) m c
      | 4 => v = .pointer (some ⟨b, 0, none⟩)
      | 5 => v = .pointer (some ⟨b, 0, none⟩)
      | 6 => v = .pointer (some ⟨b, 1, none⟩)
      | 7 => v = .int .i64 (k : Int)
      | 8 => v = .pointer (some ⟨g, off + k * 3, none⟩)
      | 9 => v = .agg #[.int .i64 kk, .int .i64 (nn : Int), .string (noText)]
      | 10 => ∃ g, v = .pointer (some ⟨g, 0, none⟩) ∧ W0.heap.size ≤ g ∧ Blk g (.cells #[.int .i64 0, .int .i64 0, .string ⟨#[]⟩] 110 (0, 0)) W
      | _ => v = undef) := ⟨_, rfl⟩
  obtain ⟨Ip, HIp⟩ : ∃ Ip : (Nat → Bool) → (Nat → Value) → World → Prop, Hid (Ip = fun L x W => (Below W0.heap.size W0 W ∧ (L 11 = true → ∃ g4, x 10 = .pointer (some ⟨g4, 0, none⟩) ∧ W0.heap.size ≤ g4 ∧ Blk g4 (.cells #[.int .i64 kk, .int .i64 (nn : Int), .string (noText)] 110 (0, 0)) W))) := ⟨_, rfl⟩
  refine region_lit3 (by kernel_rfl) (by kernel_rfl) (by kernel_rfl) [[], [0], [0, 1], [0, 1, 2], [], [4], [4, 5], [4, 5, 6], [0, 1, 2, 3, 4, 5, 6, 7], [0, 1, 2, 3, 4, 5, 6, 7, 8], [], [0, 1, 2, 3, 4, 5, 6, 7, 8, 9, 10]] (by kernel_rfl) [some 16, some 17, some 18, some 19, some 20, some 21, some 22, some 23, some 24, some 25, some 4, none] (by kernel_rfl) [[0, 1, 2, 3, 8, 9, 11], [1, 2, 3, 8, 9, 11], [2, 3, 8, 9, 11], [3, 8, 9, 11], [4, 5, 6, 7, 8, 9, 11], [5, 6, 7, 8, 9, 11], [6, 7, 8, 9, 11], [7, 8, 9, 11], [8, 9, 11], [9, 11], [10, 11], [11]] (by kernel_rfl) [[], [], [], [], [], [], [], [], [], [], [11], []] [[], [0], [1], [2], [], [4], [5], [6], [3, 7], [8], [], [9, 10]] (by kernel_rfl)
    Ip
    Vp
    (fun j W W' => match j with
      | 11 => Below W0.heap.size W W'
      | _ => Below W.heap.size W W')
    [fun x => ⟨#[.pointer (some ⟨b, 0, none⟩), undef, undef, undef, undef, undef, undef, undef, undef, undef, undef, undef, undef, undef, undef, undef, undef], []⟩,
   fun x => ⟨#[undef, undef, undef, undef, undef, undef, undef, undef, undef, undef, undef, undef, undef, undef, undef, undef, x 0, undef], []⟩,
   fun x => ⟨#[undef, undef, undef, undef, undef, undef, undef, undef, undef, undef, undef, undef, undef, undef, undef, undef, undef, x 1, undef], []⟩,
   fun x => ⟨#[undef, undef, undef, undef, undef, undef, undef, undef, undef, undef, undef, undef, undef, undef, undef, undef, undef, undef, x 2, undef], []⟩,
   fun x => ⟨#[.pointer (some ⟨b, 0, none⟩), undef, undef, undef, undef, undef, undef, undef, undef, undef, undef, undef, undef, undef, undef, undef, undef, undef, undef, undef, undef], []⟩,
   fun x => ⟨#[undef, undef, undef, undef, undef, undef, undef, undef, undef, undef, undef, undef, undef, undef, undef, undef, undef, undef, undef, undef, x 4, undef], []⟩,
   fun x => ⟨#[undef, undef, undef, undef, undef, undef, undef, undef, undef, undef, undef, undef, undef, undef, undef, undef, undef, undef, undef, undef, undef, x 5, undef], []⟩,
   fun x => ⟨#[undef, undef, undef, undef, undef, undef, undef, undef, undef, undef, undef, undef, undef, undef, undef, undef, undef, undef, undef, undef, undef, undef, x 6, undef], []⟩,
   fun x => ⟨#[undef, undef, undef, undef, undef, undef, undef, undef, undef, undef, undef, undef, undef, undef, undef, undef, undef, undef, undef, x 3, undef, undef, undef, x 7, undef], []⟩,
   fun x => ⟨#[undef, undef, undef, undef, undef, undef, undef, undef, undef, undef, undef, undef, undef, undef, undef, undef, undef, undef, undef, undef, undef, undef, undef, undef, x 8, undef], []⟩,
   fun x => ⟨#[undef, undef, undef, undef, undef], []⟩,
   fun x => ⟨#[undef, undef, undef, undef, x 10, undef, undef, undef, undef, undef, undef, undef, undef, undef, undef, undef, undef, undef, undef, undef, undef, undef, undef, undef, undef, x 9], []⟩]
    ?hF ?mono ?h0 ?step [0, 1, 2, 3, 4, 5, 6, 7, 8, 9, 11] (by kernel_rfl) ?fin
  case hF =>
    exact ⟨fun x => ⟨by kernel_rfl, by kernel_rfl⟩, fun x => ⟨by kernel_rfl, by kernel_rfl⟩, fun x => ⟨by kernel_rfl, by kernel_rfl⟩, fun x => ⟨by kernel_rfl, by kernel_rfl⟩, fun x => ⟨by kernel_rfl, by kernel_rfl⟩, fun x => ⟨by kernel_rfl, by kernel_rfl⟩, fun x => ⟨by kernel_rfl, by kernel_rfl⟩, fun x => ⟨by kernel_rfl, by kernel_rfl⟩, fun x => ⟨by kernel_rfl, by kernel_rfl⟩, fun x => ⟨by kernel_rfl, by kernel_rfl⟩, fun x => ⟨by kernel_rfl, by kernel_rfl⟩, fun x => ⟨by kernel_rfl, by kernel_rfl⟩, trivial⟩
  case mono =>
    intro i j hi hj hne hna hnk v W W' hE hv
    rw [HV.out] at hv ⊢
    simp only [List.length_cons, List.length_nil] at hi hj
    match i, hi with
    | 0, _ | 1, _ | 2, _ | 3, _ | 4, _ | 5, _ | 6, _ | 7, _ | 8, _ | 9, _ | 11, _ => exact hv
    | 10, _ =>
      match j, hj with
      | 10, _ => exact absurd rfl hne
      | 11, _ => exact absurd (by simp) hnk
      | 0, _ => exact (by obtain ⟨g, h1, h2, h3⟩ := hv; exact ⟨g, h1, h2, h3.go hE⟩)
      | 1, _ => exact (by obtain ⟨g, h1, h2, h3⟩ := hv; exact ⟨g, h1, h2, h3.go hE⟩)
      | 2, _ => exact (by obtain ⟨g, h1, h2, h3⟩ := hv; exact ⟨g, h1, h2, h3.go hE⟩)
      | 3, _ => exact (by obtain ⟨g, h1, h2, h3⟩ := hv; exact ⟨g, h1, h2, h3.go hE⟩)
      | 4, _ => exact (by obtain ⟨g, h1, h2, h3⟩ := hv; exact ⟨g, h1, h2, h3.go hE⟩)
      | 5, _ => exact (by obtain ⟨g, h1, h2, h3⟩ := hv; exact ⟨g, h1, h2, h3.go hE⟩)
      | 6, _ => exact (by obtain ⟨g, h1, h2, h3⟩ := hv; exact ⟨g, h1, h2, h3.go hE⟩)
      | 7, _ => exact (by obtain ⟨g, h1, h2, h3⟩ := hv; exact ⟨g, h1, h2, h3.go hE⟩)
      | 8, _ => exact (by obtain ⟨g, h1, h2, h3⟩ := hv; exact ⟨g, h1, h2, h3.go hE⟩)
      | 9, _ => exact (by obtain ⟨g, h1, h2, h3⟩ := hv; exact ⟨g, h1, h2, h3.go hE⟩)
      | m + 12, h => exact absurd h (by omega)
    | m + 12, h => exact absurd h (by omega)
  case h0 => intro x; exact toI HIp ⟨(Below.refl _ _).drew, fun h => by cases h⟩
  case step =>
    refine ⟨?_, ?_, ?_, ?_, ?_, ?_, ?_, ?_, ?_, ?_, ?_, ?_, trivial⟩
    all_goals
      intro x W L hI hL hV
      replace hI : (Below W0.heap.size W0 W ∧ (L 11 = true → ∃ g4, x 10 = .pointer (some ⟨g4, 0, none⟩) ∧ W0.heap.size ≤ g4 ∧ Blk g4 (.cells #[.int .i64 kk, .int .i64 (nn : Int), .string (noText)] 110 (0, 0)) W)) := ofI HIp hI
      rw [HV.out] at hV
      simp only [AllV, and_true] at hV
    · clear hV
      (try dsimp only)
      have HI := Lib.hid hI
      have HL := Lib.hid hL
      clear hI hL
      go_wp2_with fail
      refine step3_done rfl ?_ ?_ ?_
      · exact (toI HIp HI.out)
      · exact (Below.refl _ _)
      · exact (toV HV rfl)
    · have u0 := hV
      clear hV
      simp only [u0]
      clear u0
      have HI := Lib.hid hI
      have HL := Lib.hid hL
      clear hI hL
      go_wp2_with fail
      refine step3_done rfl ?_ ?_ ?_
      · exact (toI HIp HI.out)
      · exact (Below.refl _ _)
      · exact (toV HV rfl)
    · have u1 := hV
      clear hV
      simp only [u1]
      clear u1
      have HI := Lib.hid hI
      have HL := Lib.hid hL
      clear hI hL
      go_wp2_with fail
      refine step3_done rfl ?_ ?_ ?_
      · exact (toI HIp HI.out)
      · exact (Below.refl _ _)
      · exact (toV HV rfl)
    · have u2 := hV
      clear hV
      simp only [u2]
      clear u2
      have HI := Lib.hid hI
      have HL := Lib.hid hL
      clear hI hL
      have x3 : W.cell? ⟨b, 0, none⟩ = some (.slice (some ⟨g, off, none⟩) m c) := (HX0.out.go HI.out.1).cell 0
      go_wp2_with fail
      refine step3_done rfl ?_ ?_ ?_
      · exact (toI HIp HI.out)
      · exact (Below.refl _ _)
      · exact (toV HV rfl)
    · clear hV
      (try dsimp only)
      have HI := Lib.hid hI
      have HL := Lib.hid hL
      clear hI hL
      go_wp2_with fail
      refine step3_done rfl ?_ ?_ ?_
      · exact (toI HIp HI.out)
      · exact (Below.refl _ _)
      · exact (toV HV rfl)
    · have u4 := hV
      clear hV
      simp only [u4]
      clear u4
      have HI := Lib.hid hI
      have HL := Lib.hid hL
      clear hI hL
      go_wp2_with fail
      refine step3_done rfl ?_ ?_ ?_
      · exact (toI HIp HI.out)
      · exact (Below.refl _ _)
      · exact (toV HV rfl)
    · have u5 := hV
      clear hV
      simp only [u5]
      clear u5
      have HI := Lib.hid hI
      have HL := Lib.hid hL
      clear hI hL
      go_wp2_with fail
      refine step3_done rfl ?_ ?_ ?_
      · exact (toI HIp HI.out)
      · exact (Below.refl _ _)
      · exact (toV HV rfl)
    · have u6 := hV
      clear hV
      simp only [u6]
      clear u6
      have HI := Lib.hid hI
      have HL := Lib.hid hL
      clear hI hL
      have x3 : W.cell? ⟨b, 1, none⟩ = some (.int .i64 (k : Int)) := (HX0.out.go HI.out.1).cell 1
      go_wp2_with fail
      refine step3_done rfl ?_ ?_ ?_
      · exact (toI HIp HI.out)
      · exact (Below.refl _ _)
      · exact (toV HV rfl)
    · obtain ⟨u3, u7⟩ := hV
      simp only [u3, u7]
      clear u3 u7
      have HI := Lib.hid hI
      have HL := Lib.hid hL
      clear hI hL
      go_wp2_with fail
      refine step3_done rfl ?_ ?_ ?_
      · exact (toI HIp HI.out)
      · exact (Below.refl _ _)
      · exact (toV HV rfl)
    · have u8 := hV
      clear hV
      simp only [u8]
      clear u8
      have HI := Lib.hid hI
      have HL := Lib.hid hL
      clear hI hL
      obtain ⟨e0, e1, e2⟩ := Hd.out W (up HB0.out HI.out.1)
      go_wp2_with fail
      refine step3_done rfl ?_ ?_ ?_
      · exact (toI HIp HI.out)
      · exact (Below.refl _ _)
      · exact (toV HV rfl)
    · clear hV
      (try dsimp only)
      have HI := Lib.hid hI
      have HL := Lib.hid hL
      clear hI hL
      go_wp2_with fail
      have uW : ∀ o, Below W.heap.size W (W.alloc o) := fun o => (Below.refl _ _).alloc (Nat.le_refl _) o
      have hsz := HI.out.1.size
      refine step3_done rfl ?_ ?_ ?_
      · exact (toI HIp ⟨up HI.out.1 (uW _), fun h => absurd ((HL.out.2 11 (by simp)).symm.trans h) (by simp)⟩)
      · exact (uW _)
      · exact (toV HV ⟨_, rfl, hsz, Blk.new _ _⟩)
    · obtain ⟨u9, ⟨g10, u10, l10, b10⟩⟩ := hV
      simp only [u10, u9]
      have U10 := Lib.hid u10
      clear u9 u10
      have HI := Lib.hid hI
      have HL := Lib.hid hL
      clear hI hL
      have e0 : W.cell? ⟨g10, 0, none⟩ = some (.int .i64 0) := b10.cell 0
      have e1 : W.cell? ⟨g10, 1, none⟩ = some (.int .i64 0) := b10.cell 1
      have e2 : W.cell? ⟨g10, 2, none⟩ = some (.string ⟨#[]⟩) := b10.cell 2
      have cf := b10.frozen
      have B10 := Lib.hid b10
      have hsz := HI.out.1.size
      clear b10
      go_wp2_with fail
      have hE : Below W0.heap.size W (((W.setCell ⟨g10, 0, none⟩ (.int .i64 kk)).setCell ⟨g10, 1, none⟩ (.int .i64 (nn : Int))).setCell ⟨g10, 2, none⟩ (.string (noText))) := (touch3 _ _ _).toBelow hsz (fun k hk => by omega)
      refine step3_done (v := undef) rfl ?_ ?_ ?_
      · exact (toI HIp ⟨HI.out.1.trans hE, fun _ => ⟨_, U10.out, l10, B10.out.set3 _ _ _⟩⟩)
      · exact hE
      · exact (toV HV rfl)
  case fin =>
    intro x W L hL hI hV
    replace hI : (Below W0.heap.size W0 W ∧ (L 11 = true → ∃ g4, x 10 = .pointer (some ⟨g4, 0, none⟩) ∧ W0.heap.size ≤ g4 ∧ Blk g4 (.cells #[.int .i64 kk, .int .i64 (nn : Int), .string (noText)] 110 (0, 0)) W)) := ofI HIp hI
    rw [HV.out] at hV
    simp only [AllV, and_true] at hV
    obtain ⟨u0, u1, u2, u3, u4, u5, u6, u7, u8, u9, u11⟩ := hV
    simp only [getsD, List.getD_cons_succ, List.getD_cons_zero, List.length_cons, List.length_nil, List.range, List.range.loop, u0, u1, u2, u3, u4, u5, u6, u7, u8, u9, u11, Act.put, List.setIfInBounds_toArray, List.set_cons_succ, List.set_cons_zero]
    clear u0 u1 u2 u3 u4 u5 u6 u7 u8 u9 u11
    obtain ⟨g4, e10, l4, b4⟩ := hI.2 (hL 11 (by simp))
    have q0 : W.cell? ⟨g4, 0, none⟩ = some (.int .i64 kk) := b4.cell 0
    have q1 : W.cell? ⟨g4, 1, none⟩ = some (.int .i64 (nn : Int)) := b4.cell 1
    have q2 : W.cell? ⟨g4, 2, none⟩ = some (.string (noText)) := b4.cell 2
    have qf := b4.frozen
    have HB1 := Lib.hid (up HB0.out hI.1)
    have HX1 := Lib.hid (HX0.out.go hI.1)
    have HY1 := Lib.hid (HY0.out.go hI.1)
    have B4 := Lib.hid b4
    have hy0 := HY0.out.lt
    have hz1 := hI.1.size
    simp only [e10]
    clear hI hL e10 b4 HB0 HX0 HY0 Hd Hb
    go_wp2_with fail
    obtain ⟨W1, hW1⟩ : ∃ W1, W1 = W := ⟨_, rfl⟩
    subst hW1
    obtain ⟨Vp, HV⟩ : ∃ Vp : Nat → Value → World → Prop, Hid (Vp = fun i v W => match i with
        | 0 => v = .pointer (some ⟨g4, 1, none⟩)
        | 1 => v = .int .i64 (nn : Int)
        | 2 => v = .pointer (some ⟨b, 0, none⟩)
        | 3 => v = .pointer (some ⟨b, 0, none⟩)
        | 4 => v = .pointer (some ⟨b, 2, none⟩)
        | 5 => v = .int .i64 (n : Int)
        | 6 => v = .int .i64 ((nn : Int) - n)
        | 7 => v = .pointer (some ⟨g4, 1, none⟩)
        | _ => v = undef) := ⟨_, rfl⟩
    obtain ⟨Ip, HIp⟩ : ∃ Ip : (Nat → Bool) → (Nat → Value) → World → Prop, Hid (Ip = fun L x W => (Touch (fun z => z = g4) W1 W ∧ (L 8 = false → Blk g4 (.cells #[.int .i64 kk, .int .i64 (nn : Int), .string noText] 110 (0, 0)) W) ∧ (L 8 = true → Blk g4 (.cells #[.int .i64 kk, .int .i64 ((nn : Int) - n), .string noText] 110 (0, 0)) W))) := ⟨_, rfl⟩
    refine region_lit3 (by kernel_rfl) (by kernel_rfl) (by kernel_rfl) [[], [0], [], [2], [2, 3], [2, 3, 4], [0, 1, 2, 3, 4, 5], [], [0, 1, 2, 3, 4, 5, 6, 7]] (by kernel_rfl) [some 40, some 41, some 42, some 43, some 44, some 45, some 46, some 47, none] (by kernel_rfl) [[0, 1, 6, 8], [1, 6, 8], [2, 3, 4, 5, 6, 8], [3, 4, 5, 6, 8], [4, 5, 6, 8], [5, 6, 8], [6, 8], [7, 8], [8]] (by kernel_rfl) [[], [], [], [], [], [], [], [], []] [[], [0], [], [2], [3], [4], [1, 5], [], [6, 7]] (by kernel_rfl)
      Ip
      Vp
      (fun j W W' => match j with
        | 8 => Touch (fun z => z = g4) W W'
        | _ => Below W.heap.size W W')
      [fun x => ⟨#[undef, undef, undef, undef, .pointer (some ⟨g4, 0, none⟩), undef, undef, undef, undef, undef, undef, undef, undef, undef, undef, undef, undef, undef, undef, undef, undef, undef, undef, undef, undef, undef, undef, undef, undef, undef, undef, undef, undef, undef, undef, undef, undef, undef, undef, undef, undef], []⟩,
   fun x => ⟨#[undef, undef, undef, undef, undef, undef, undef, undef, undef, undef, undef, undef, undef, undef, undef, undef, undef, undef, undef, undef, undef, undef, undef, undef, undef, undef, undef, undef, undef, undef, undef, undef, undef, undef, undef, undef, undef, undef, undef, undef, x 0, undef], []⟩,
   fun x => ⟨#[.pointer (some ⟨b, 0, none⟩), undef, undef, undef, undef, undef, undef, undef, undef, undef, undef, undef, undef, undef, undef, undef, undef, undef, undef, undef, undef, undef, undef, undef, undef, undef, undef, undef, undef, undef, undef, undef, undef, undef, undef, undef, undef, undef, undef, undef, undef, undef, undef], []⟩,
   fun x => ⟨#[undef, undef, undef, undef, undef, undef, undef, undef, undef, undef, undef, undef, undef, undef, undef, undef, undef, undef, undef, undef, undef, undef, undef, undef, undef, undef, undef, undef, undef, undef, undef, undef, undef, undef, undef, undef, undef, undef, undef, undef, undef, undef, x 2, undef], []⟩,
   fun x => ⟨#[undef, undef, undef, undef, undef, undef, undef, undef, undef, undef, undef, undef, undef, undef, undef, undef, undef, undef, undef, undef, undef, undef, undef, undef, undef, undef, undef, undef, undef, undef, undef, undef, undef, undef, undef, undef, undef, undef, undef, undef, undef, undef, undef, x 3, undef], []⟩,
   fun x => ⟨#[undef, undef, undef, undef, undef, undef, undef, undef, undef, undef, undef, undef, undef, undef, undef, undef, undef, undef, undef, undef, undef, undef, undef, undef, undef, undef, undef, undef, undef, undef, undef, undef, undef, undef, undef, undef, undef, undef, undef, undef, undef, undef, undef, undef, x 4, undef], []⟩,
   fun x => ⟨#[undef, undef, undef, undef, undef, undef, undef, undef, undef, undef, undef, undef, undef, undef, undef, undef, undef, undef, undef, undef, undef, undef, undef, undef, undef, undef, undef, undef, undef, undef, undef, undef, undef, undef, undef, undef, undef, undef, undef, undef, undef, x 1, undef, undef, undef, x 5, undef], []⟩,
   fun x => ⟨#[undef, undef, undef, undef, .pointer (some ⟨g4, 0, none⟩), undef, undef, undef, undef, undef, undef, undef, undef, undef, undef, undef, undef, undef, undef, undef, undef, undef, undef, undef, undef, undef, undef, undef, undef, undef, undef, undef, undef, undef, undef, undef, undef, undef, undef, undef, undef, undef, undef, undef, undef, undef, undef, undef], []⟩,
   fun x => ⟨#[undef, undef, undef, undef, undef, undef, undef, undef, undef, undef, undef, undef, undef, undef, undef, undef, undef, undef, undef, undef, undef, undef, undef, undef, undef, undef, undef, undef, undef, undef, undef, undef, undef, undef, undef, undef, undef, undef, undef, undef, undef, undef, undef, undef, undef, undef, x 6, x 7], []⟩]
      ?hF ?mono ?h0 ?step [0, 1, 2, 3, 4, 5, 6, 7, 8] (by kernel_rfl) ?fin
    case hF =>
      exact ⟨fun x => ⟨by kernel_rfl, by kernel_rfl⟩, fun x => ⟨by kernel_rfl, by kernel_rfl⟩, fun x => ⟨by kernel_rfl, by kernel_rfl⟩, fun x => ⟨by kernel_rfl, by kernel_rfl⟩, fun x => ⟨by kernel_rfl, by kernel_rfl⟩, fun x => ⟨by kernel_rfl, by kernel_rfl⟩, fun x => ⟨by kernel_rfl, by kernel_rfl⟩, fun x => ⟨by kernel_rfl, by kernel_rfl⟩, fun x => ⟨by kernel_rfl, by kernel_rfl⟩, trivial⟩
    case mono =>
      intro i j hi hj hne hna hnk v W W' hE hv
      rw [HV.out] at hv ⊢
      simp only [List.length_cons, List.length_nil] at hi hj
      match i, hi with
      | 0, _ | 1, _ | 2, _ | 3, _ | 4, _ | 5, _ | 6, _ | 7, _ | 8, _ => exact hv
      | m + 9, h => exact absurd h (by omega)
    case h0 => intro x; exact toI HIp ⟨(Touch.refl _ _).drew, fun _ => B4.out, fun h => by cases h⟩
    case step =>
      refine ⟨?_, ?_, ?_, ?_, ?_, ?_, ?_, ?_, ?_, trivial⟩
      all_goals
        intro x W L hI hL hV
        replace hI : (Touch (fun z => z = g4) W1 W ∧ (L 8 = false → Blk g4 (.cells #[.int .i64 kk, .int .i64 (nn : Int), .string noText] 110 (0, 0)) W) ∧ (L 8 = true → Blk g4 (.cells #[.int .i64 kk, .int .i64 ((nn : Int) - n), .string noText] 110 (0, 0)) W)) := ofI HIp hI
        rw [HV.out] at hV
        simp only [AllV, and_true] at hV
      · clear hV
        (try dsimp only)
        have HI := Lib.hid hI
        have HL := Lib.hid hL
        clear hI hL
        go_wp2_with fail
        refine step3_done rfl ?_ ?_ ?_
        · exact (toI HIp HI.out)
        · exact (Below.refl _ _)
        · exact (toV HV rfl)
      · have u0 := hV
        clear hV
        simp only [u0]
        clear u0
        have HI := Lib.hid hI
        have HL := Lib.hid hL
        clear hI hL
        have e1 : W.cell? ⟨g4, 1, none⟩ = some (.int .i64 (nn : Int)) := (HI.out.2.1 (HL.out.2 8 (by simp))).cell 1
        go_wp2_with fail
        refine step3_done rfl ?_ ?_ ?_
        · exact (toI HIp HI.out)
        · exact (Below.refl _ _)
        · exact (toV HV rfl)
      · clear hV
        (try dsimp only)
        have HI := Lib.hid hI
        have HL := Lib.hid hL
        clear hI hL
        go_wp2_with fail
        refine step3_done rfl ?_ ?_ ?_
        · exact (toI HIp HI.out)
        · exact (Below.refl _ _)
        · exact (toV HV rfl)
      · have u2 := hV
        clear hV
        simp only [u2]
        clear u2
        have HI := Lib.hid hI
        have HL := Lib.hid hL
        clear hI hL
        go_wp2_with fail
        refine step3_done rfl ?_ ?_ ?_
        · exact (toI HIp HI.out)
        · exact (Below.refl _ _)
        · exact (toV HV rfl)
      · have u3 := hV
        clear hV
        simp only [u3]
        clear u3
        have HI := Lib.hid hI
        have HL := Lib.hid hL
        clear hI hL
        go_wp2_with fail
        refine step3_done rfl ?_ ?_ ?_
        · exact (toI HIp HI.out)
        · exact (Below.refl _ _)
        · exact (toV HV rfl)
      · have u4 := hV
        clear hV
        simp only [u4]
        clear u4
        have HI := Lib.hid hI
        have HL := Lib.hid hL
        clear hI hL
        have e1 : W.cell? ⟨b, 2, none⟩ = some (.int .i64 (n : Int)) := (HX1.out.touch HI.out.1 (by omega)).cell 2
        go_wp2_with fail
        refine step3_done rfl ?_ ?_ ?_
        · exact (toI HIp HI.out)
        · exact (Below.refl _ _)
        · exact (toV HV rfl)
      · obtain ⟨u1, u5⟩ := hV
        simp only [u1, u5]
        clear u1 u5
        have HI := Lib.hid hI
        have HL := Lib.hid hL
        clear hI hL
        go_wp2_with fail
        refine step3_done rfl ?_ ?_ ?_
        · exact (toI HIp HI.out)
        · exact (Below.refl _ _)
        · exact (toV HV rfl)
      · clear hV
        (try dsimp only)
        have HI := Lib.hid hI
        have HL := Lib.hid hL
        clear hI hL
        go_wp2_with fail
        refine step3_done rfl ?_ ?_ ?_
        · exact (toI HIp HI.out)
        · exact (Below.refl _ _)
        · exact (toV HV rfl)
      · obtain ⟨u6, u7⟩ := hV
        simp only [u6, u7]
        clear u6 u7
        have HI := Lib.hid hI
        have HL := Lib.hid hL
        clear hI hL
        have e1 : W.cell? ⟨g4, 1, none⟩ = some (.int .i64 (nn : Int)) := (HI.out.2.1 (HL.out.2 8 (by simp))).cell 1
        have ef := (HI.out.2.1 (HL.out.2 8 (by simp))).frozen
        go_wp2_with fail
        refine step3_done (v := undef) rfl ?_ ?_ ?_
        · exact (toI HIp ⟨HI.out.1.trans (touch1 _), fun h => absurd h (by simp [setB]), fun _ => (HI.out.2.1 (HL.out.2 8 (by simp))).set 1 _⟩)
        · exact (touch1 _)
        · exact (toV HV rfl)
    case fin =>
      intro x W L hL hI hV
      replace hI : (Touch (fun z => z = g4) W1 W ∧ (L 8 = false → Blk g4 (.cells #[.int .i64 kk, .int .i64 (nn : Int), .string noText] 110 (0, 0)) W) ∧ (L 8 = true → Blk g4 (.cells #[.int .i64 kk, .int .i64 ((nn : Int) - n), .string noText] 110 (0, 0)) W)) := ofI HIp hI
      rw [HV.out] at hV
      simp only [AllV, and_true] at hV
      obtain ⟨u0, u1, u2, u3, u4, u5, u6, u7, u8⟩ := hV
      simp only [getsD, List.getD_cons_succ, List.getD_cons_zero, List.length_cons, List.length_nil, List.range, List.range.loop, u0, u1, u2, u3, u4, u5, u6, u7, u8, Act.put, List.setIfInBounds_toArray, List.set_cons_succ, List.set_cons_zero]
      clear u0 u1 u2 u3 u4 u5 u6 u7 u8
      have b5 := hI.2.2 (hL 8 (by simp))
      have r0 : W.cell? ⟨g4, 0, none⟩ = some (.int .i64 kk) := b5.cell 0
      have r1 : W.cell? ⟨g4, 1, none⟩ = some (.int .i64 ((nn : Int) - n)) := b5.cell 1
      have r2 : W.cell? ⟨g4, 2, none⟩ = some (.string noText) := b5.cell 2
      have y1 := HY1.out.touch hI.1 (by have := HY1.out.lt; omega)
      have s0 : W.cell? ⟨w.heap.size, 0, none⟩ = some (.int .i64 0) := y1.cell 0
      have s1 : W.cell? ⟨w.heap.size, 1, none⟩ = some (.int .i64 0) := y1.cell 1
      have s2 : W.cell? ⟨w.heap.size, 2, none⟩ = some (.string ⟨#[]⟩) := y1.cell 2
      have sf := y1.frozen
      have Y2 := Lib.hid (y1.set3 (.int .i64 kk) (.int .i64 ((nn : Int) - n)) (.string (noText)))
      have HB2 := Lib.hid (HB1.out.trans (hI.1.toBelow (B := w.heap.size) HB1.out.size (fun k hk => by have hk' : k = g4 := hk; omega)))
      clear hI hL b5 y1 HB1 HX1 HY1 B4 q0 q1 q2 qf
      go_wp2_with fail
      refine abs_ret (fun W' => Blk w.heap.size (.cells #[.int .i64 kk, .int .i64 ((nn : Int) - n), .string (noText)] 110 (0, 0)) W' ∧ Below w.heap.size w W') ⟨Y2.out, HB2.out.trans ((touch3 _ _ _).toBelow HB2.out.size (fun k hk => Nat.le_of_eq (Eq.symm hk)))⟩ ?_
      rintro W' ⟨hB, hW⟩
      have p0 : W'.cell? ⟨w.heap.size, 0, none⟩ = some (.int .i64 kk) := hB.cell 0
      have p1 : W'.cell? ⟨w.heap.size, 1, none⟩ = some (.int .i64 ((nn : Int) - n)) := hB.cell 1
      have p2 : W'.cell? ⟨w.heap.size, 2, none⟩ = some (.string (noText)) := hB.cell 2
      have HW := Lib.hid hW
      clear hB hW s0 s1 s2 sf r0 r1 r2 Y2
      refine bodyPost_ret (v := .tuple #[partV ⟨kk, (nn : Int) - n, noText⟩, .bool true]) (by simp [results, Tryd.results67, go_sem, p0, p1, p2, partV]) rfl ?_
      exact ⟨rfl, HW.out⟩

set_option maxRecDepth 100000 in
set_option maxHeartbeats 6000000 in
theorem part_ins (D b : Nat) (la : List P) (k n : Nat) (t : List Nat) (hp : la[k]? = some (.i t)) (w : World) (h : Wk D b la k n w) :
    Calls Tryd.prog 67 #[.pointer (some ⟨b, 0, none⟩)] w fun e w' => e = .returned (.tuple #[partV ⟨2, 0, Uni.enc (t.drop n)⟩, .bool true]) ∧ Below w.heap.size w w' := by
  have hkl : k < la.length := (List.getElem?_eq_some_iff.1 hp).1
  obtain ⟨a, c, hb, hr⟩ := h.ex
  have hlen := h.len
  obtain ⟨g, off, rfl, hgA, hgl, hcs⟩ := hr.part (by omega)
  obtain ⟨hk64, hn64, ht, d0, d1, d2⟩ := hcs k (by simpa using hkl)
  have hpe : (la.map P.part)[k]'(by simpa using hkl) = (⟨2, 0, Uni.enc t⟩ : Part) := by
    rw [List.getElem_map]; rw [List.getElem?_eq_getElem hkl] at hp; rw [Option.some.inj hp]; rfl
  simp only [hpe] at hk64 hn64 ht d0 d1 d2
  have hpm : (.i t) ∈ la := List.mem_of_getElem? hp
  have hpok := h.ok _ hpm
  have hnz := h.lt _ hp
  have hzl := P.z_le (.i t)
  have hone := P.one_le hpm
  have hf := h.f
  have htt := h.t
  have hz8 : P.z (.i t) ≤ 8000 := by omega
  have ht4 : P.T (.i t) ≤ 4000 := by omega
  simp only [P.z, P.T] at hz8 ht4 hnz
  have hgb : g ≠ b := by have h1 : g < D := hgA; have := h.db; omega
  have hr1 := hb.alloc (.cells #[.int .i64 0, .int .i64 0, .string ⟨#[]⟩] 110)
  have hkc : k < c := by have := hr.2.1; omega
  have hcm : c ≤ 9223372036854775807 := hr.2.2.1
  have i1 : (0 : Int) ≤ (k : Int) := by omega
  have i2 : (k : Int) < (la.length : Int) := by omega
  have hne : ((k : Int) == (la.length : Int)) = false := by simp; omega
  have hlk := List.length_pos_of_mem hpm
  clear hcs hr h hp hpm hpe hgA hone
  generalize la.length = m at *
  have Hb := Lib.hid hb
  have hbl := hb.lt
  have c0 : (w.alloc (.cells #[.int .i64 0, .int .i64 0, .string ⟨#[]⟩] 110)).cell? ⟨b, 0, none⟩ = some (.slice (some ⟨g, off, none⟩) m c) := hr1.cell 0
  have c1 : (w.alloc (.cells #[.int .i64 0, .int .i64 0, .string ⟨#[]⟩] 110)).cell? ⟨b, 1, none⟩ = some (.int .i64 k) := hr1.cell 1
  clear hb hr1
  go_enter Tryd.func67, Tryd.ntmps67
  go_wp2_with fail
  go_quiet (fail)
  go_wp2_with fail
  refine abs_w (fun W => Below w.heap.size w W ∧ Blk b (.cells #[.slice (some ⟨g, off, none⟩) m c, .int .i64 k, .int .i64 n] 133 (0, 0)) W ∧ Blk w.heap.size (.cells #[.int .i64 0, .int .i64 0, .string ⟨#[]⟩] 110 (0, 0)) W)
    ⟨below_drewN ((Below.refl _ _).alloc (Nat.le_refl _) _) _, Hb.out.alloc _, show Blk w.heap.size _ (w.alloc _) from Blk.new _ _⟩ ?_
  rintro W0 ⟨B0, X0, Y0⟩
  have Hd := Lib.hid (p := ∀ W, Below w.heap.size w W → W.cell? ⟨g, off + k * 3, none⟩ = some (.int .i64 2) ∧ W.cell? ⟨g, off + k * 3 + 1, none⟩ = some (.int .i64 0) ∧ W.cell? ⟨g, off + k * 3 + 2, none⟩ = some (.string (Uni.enc t)))
    (fun W hW => ⟨(hW.cell (p := ⟨g, off + k * 3, none⟩) hgl).trans d0, (hW.cell (p := ⟨g, off + k * 3 + 1, none⟩) hgl).trans d1, (hW.cell (p := ⟨g, off + k * 3 + 2, none⟩) hgl).trans d2⟩)
  have HB0 := Lib.hid B0
  have HX0 := Lib.hid X0
  have HY0 := Lib.hid Y0
  have hz0 := B0.size
  clear B0 X0 Y0 d0 d1 d2 c0 c1
  obtain ⟨Vp, HV⟩ : ∃ Vp : Nat → Value → World → Prop, Hid (Vp = fun i v W => match i with
      | 0 => v = .pointer (some ⟨b, 0, none⟩)
      | 1 => v = .pointer (some ⟨b, 0, none⟩)
      | 2 => v = .pointer (some ⟨b, 0, none⟩)
      | 3 => v = .slice (some ⟨g, off, none⟩) m c
      | 4 => v = .pointer (some ⟨b, 0, none⟩)
      | 5 => v = .pointer (some ⟨b, 0, none⟩)
      | 6 => v = .pointer (some ⟨b, 1, none⟩)
      | 7 => v = .int .i64 (k : Int)
      | 8 => v = .pointer (some ⟨g, off + k * 3, none⟩)
      | 9 => v = .agg #[.int .i64 2, .int .i64 0, .string (Uni.enc t)]
      | 10 => ∃ g, v = .pointer (some ⟨g, 0, none⟩) ∧ W0.heap.size ≤ g ∧ Blk g (.cells #[.int .i64 0, .int .i64 0, .string ⟨#[]⟩] 110 (0, 0)) W
      | _ => v = undef) := ⟨_, rfl⟩
  obtain ⟨Ip, HIp⟩ : ∃ Ip : (Nat → Bool) → (Nat → Value) → World → Prop, Hid (Ip = fun L x W => (Below W0.heap.size W0 W ∧ (L 11 = true → ∃ g4, x 10 = .pointer (some ⟨g4, 0, none⟩) ∧ W0.heap.size ≤ g4 ∧ Blk g4 (.cells #[.int .i64 2, .int .i64 0, .string (Uni.enc t)] 110 (0, 0)) W))) := ⟨_, rfl⟩
  refine region_lit3 (by kernel_rfl) (by kernel_rfl) (by kernel_rfl) [[], [0], [0, 1], [0, 1, 2], [], [4], [4, 5], [4, 5, 6], [0, 1, 2, 3, 4, 5, 6, 7], [0, 1, 2, 3, 4, 5, 6, 7, 8], [], [0, 1, 2, 3, 4, 5, 6, 7, 8, 9, 10]] (by kernel_rfl) [some 16, some 17, some 18, some 19, some 20, some 21, some 22, some 23, some 24, some 25, some 4, none] (by kernel_rfl) [[0, 1, 2, 3, 8, 9, 11], [1, 2, 3, 8, 9, 11], [2, 3, 8, 9, 11], [3, 8, 9, 11], [4, 5, 6, 7, 8, 9, 11], [5, 6, 7, 8, 9, 11], [6, 7, 8, 9, 11], [7, 8, 9, 11], [8, 9, 11], [9, 11], [10, 11], [11]] (by kernel_rfl) [[], [], [], [], [], [], [], [], [], [], [11], []] [[], [0], [1], [2], [], [4], [5], [6], [3, 7], [8], [], [9, 10]] (by kernel_rfl)
    Ip
    Vp
    (fun j W W' => match j with
      | 11 => Below W0.heap.size W W'
      | _ => Below W.heap.size W W')
    [fun x => ⟨#[.pointer (some ⟨b, 0, none⟩), undef, undef, undef, undef, undef, undef, undef, undef, undef, undef, undef, undef, undef, undef, undef, undef], []⟩,
   fun x => ⟨#[undef, undef, undef, undef, undef, undef, undef, undef, undef, undef, undef, undef, undef, undef, undef, undef, x 0, undef], []⟩,
   fun x => ⟨#[undef, undef, undef, undef, undef, undef, undef, undef, undef, undef, undef, undef, undef, undef, undef, undef, undef, x 1, undef], []⟩,
   fun x => ⟨#[undef, undef, undef, undef, undef, undef, undef, undef, undef, undef, undef, undef, undef, undef, undef, undef, undef, undef, x 2, undef], []⟩,
   fun x => ⟨#[.pointer (some ⟨b, 0, none⟩), undef, undef, undef, undef, undef, undef, undef, undef, undef, undef, undef, undef, undef, undef, undef, undef, undef, undef, undef, undef], []⟩,
   fun x => ⟨#[undef, undef, undef, undef, undef, undef, undef, undef, undef, undef, undef, undef, undef, undef, undef, undef, undef, undef, undef, undef, x 4, undef], []⟩,
   fun x => ⟨#[undef, undef, undef, undef, undef, undef, undef, undef, undef, undef, undef, undef, undef, undef, undef, undef, undef, undef, undef, undef, undef, x 5, undef], []⟩,
   fun x => ⟨#[undef, undef, undef, undef, undef, undef, undef, undef, undef, undef, undef, undef, undef, undef, undef, undef, undef, undef, undef, undef, undef, undef, x 6, undef], []⟩,
   fun x => ⟨#[undef, undef, undef, undef, undef, undef, undef, undef, undef, undef, undef, undef, undef, undef, undef, undef, undef, undef, undef, x 3, undef, undef, undef, x 7, undef], []⟩,
   fun x => ⟨#[undef, undef, undef, undef, undef, undef, undef, undef, undef, undef, undef, undef, undef, undef, undef, undef, undef, undef, undef, undef, undef, undef, undef, undef, x 8, undef], []⟩,
   fun x => ⟨#[undef, undef, undef, undef, undef], []⟩,
   fun x => ⟨#[undef, undef, undef, undef, x 10, undef, undef, undef, undef, undef, undef, undef, undef, undef, undef, undef, undef, undef, undef, undef, undef, undef, undef, undef, undef, x 9], []⟩]
    ?hF ?mono ?h0 ?step [0, 1, 2, 3, 4, 5, 6, 7, 8, 9, 11] (by kernel_rfl) ?fin
  case hF =>
    exact ⟨fun x => ⟨by kernel_rfl, by kernel_rfl⟩, fun x => ⟨by kernel_rfl, by kernel_rfl⟩, fun x => ⟨by kernel_rfl, by kernel_rfl⟩, fun x => ⟨by kernel_rfl, by kernel_rfl⟩, fun x => ⟨by kernel_rfl, by kernel_rfl⟩, fun x => ⟨by kernel_rfl, by kernel_rfl⟩, fun x => ⟨by kernel_rfl, by kernel_rfl⟩, fun x => ⟨by kernel_rfl, by kernel_rfl⟩, fun x => ⟨by kernel_rfl, by kernel_rfl⟩, fun x => ⟨by kernel_rfl, by kernel_rfl⟩, fun x => ⟨by kernel_rfl, by kernel_rfl⟩, fun x => ⟨by kernel_rfl, by kernel_rfl⟩, trivial⟩
  case mono =>
    intro i j hi hj hne hna hnk v W W' hE hv
    rw [HV.out] at hv ⊢
    simp only [List.length_cons, List.length_nil] at hi hj
    match i, hi with
    | 0, _ | 1, _ | 2, _ | 3, _ | 4, _ | 5, _ | 6, _ | 7, _ | 8, _ | 9, _ | 11, _ => exact hv
    | 10, _ =>
      match j, hj with
      | 10, _ => exact absurd rfl hne
      | 11, _ => exact absurd (by simp) hnk
      | 0, _ => exact (by obtain ⟨g, h1, h2, h3⟩ := hv; exact ⟨g, h1, h2, h3.go hE⟩)
      | 1, _ => exact (by obtain ⟨g, h1, h2, h3⟩ := hv; exact ⟨g, h1, h2, h3.go hE⟩)
      | 2, _ => exact (by obtain ⟨g, h1, h2, h3⟩ := hv; exact ⟨g, h1, h2, h3.go hE⟩)
      | 3, _ => exact (by obtain ⟨g, h1, h2, h3⟩ := hv; exact ⟨g, h1, h2, h3.go hE⟩)
      | 4, _ => exact (by obtain ⟨g, h1, h2, h3⟩ := hv; exact ⟨g, h1, h2, h3.go hE⟩)
      | 5, _ => exact (by obtain ⟨g, h1, h2, h3⟩ := hv; exact ⟨g, h1, h2, h3.go hE⟩)
      | 6, _ => exact (by obtain ⟨g, h1, h2, h3⟩ := hv; exact ⟨g, h1, h2, h3.go hE⟩)
      | 7, _ => exact (by obtain ⟨g, h1, h2, h3⟩ := hv; exact ⟨g, h1, h2, h3.go hE⟩)
      | 8, _ => exact (by obtain ⟨g, h1, h2, h3⟩ := hv; exact ⟨g, h1, h2, h3.go hE⟩)
      | 9, _ => exact (by obtain ⟨g, h1, h2, h3⟩ := hv; exact ⟨g, h1, h2, h3.go hE⟩)
      | m + 12, h => exact absurd h (by omega)
    | m + 12, h => exact absurd h (by omega)
  case h0 => intro x; exact toI HIp ⟨(Below.refl _ _).drew, fun h => by cases h⟩
  case step =>
    refine ⟨?_, ?_, ?_, ?_, ?_, ?_, ?_, ?_, ?_, ?_, ?_, ?_, trivial⟩
    all_goals
      intro x W L hI hL hV
      replace hI : (Below W0.heap.size W0 W ∧ (L 11 = true → ∃ g4, x 10 = .pointer (some ⟨g4, 0, none⟩) ∧ W0.heap.size ≤ g4 ∧ Blk g4 (.cells #[.int .i64 2, .int .i64 0, .string (Uni.enc t)] 110 (0, 0)) W)) := ofI HIp hI
      rw [HV.out] at hV
      simp only [AllV, and_true] at hV
    · clear hV
      (try dsimp only)
      have HI := Lib.hid hI
      have HL := Lib.hid hL
      clear hI hL
      go_wp2_with fail
      refine step3_done rfl ?_ ?_ ?_
      · exact (toI HIp HI.out)
      · exact (Below.refl _ _)
      · exact (toV HV rfl)
    · have u0 := hV
      clear hV
      simp only [u0]
      clear u0
      have HI := Lib.hid hI
      have HL := Lib.hid hL
      clear hI hL
      go_wp2_with fail
      refine step3_done rfl ?_ ?_ ?_
      · exact (toI HIp HI.out)
      · exact (Below.refl _ _)
      · exact (toV HV rfl)
    · have u1 := hV
      clear hV
      simp only [u1]
      clear u1
      have HI := Lib.hid hI
      have HL := Lib.hid hL
      clear hI hL
      go_wp2_with fail
      refine step3_done rfl ?_ ?_ ?_
      · exact (toI HIp HI.out)
      · exact (Below.refl _ _)
      · exact (toV HV rfl)
    · have u2 := hV
      clear hV
      simp only [u2]
      clear u2
      have HI := Lib.hid hI
      have HL := Lib.hid hL
      clear hI hL
      have x3 : W.cell? ⟨b, 0, none⟩ = some (.slice (some ⟨g, off, none⟩) m c) := (HX0.out.go HI.out.1).cell 0
      go_wp2_with fail
      refine step3_done rfl ?_ ?_ ?_
      · exact (toI HIp HI.out)
      · exact (Below.refl _ _)
      · exact (toV HV rfl)
    · clear hV
      (try dsimp only)
      have HI := Lib.hid hI
      have HL := Lib.hid hL
      clear hI hL
      go_wp2_with fail
      refine step3_done rfl ?_ ?_ ?_
      · exact (toI HIp HI.out)
      · exact (Below.refl _ _)
      · exact (toV HV rfl)
    · have u4 := hV
      clear hV
      simp only [u4]
      clear u4
      have HI := Lib.hid hI
      have HL := Lib.hid hL
      clear hI hL
      go_wp2_with fail
      refine step3_done rfl ?_ ?_ ?_
      · exact (toI HIp HI.out)
      · exact (Below.refl _ _)
      · exact (toV HV rfl)
    · have u5 := hV
      clear hV
      simp only [u5]
      clear u5
      have HI := Lib.hid hI
      have HL := Lib.hid hL
      clear hI hL
      go_wp2_with fail
      refine step3_done rfl ?_ ?_ ?_
      · exact (toI HIp HI.out)
      · exact (Below.refl _ _)
      · exact (toV HV rfl)
    · have u6 := hV
      clear hV
      simp only [u6]
      clear u6
      have HI := Lib.hid hI
      have HL := Lib.hid hL
      clear hI hL
      have x3 : W.cell? ⟨b, 1, none⟩ = some (.int .i64 (k : Int)) := (HX0.out.go HI.out.1).cell 1
      go_wp2_with fail
      refine step3_done rfl ?_ ?_ ?_
      · exact (toI HIp HI.out)
      · exact (Below.refl _ _)
      · exact (toV HV rfl)
    · obtain ⟨u3, u7⟩ := hV
      simp only [u3, u7]
      clear u3 u7
      have HI := Lib.hid hI
      have HL := Lib.hid hL
      clear hI hL
      go_wp2_with fail
      refine step3_done rfl ?_ ?_ ?_
      · exact (toI HIp HI.out)
      · exact (Below.refl _ _)
      · exact (toV HV rfl)
    · have u8 := hV
      clear hV
      simp only [u8]
      clear u8
      have HI := Lib.hid hI
      have HL := Lib.hid hL
      clear hI hL
      obtain ⟨e0, e1, e2⟩ := Hd.out W (up HB0.out HI.out.1)
      go_wp2_with fail
      refine step3_done rfl ?_ ?_ ?_
      · exact (toI HIp HI.out)
      · exact (Below.refl _ _)
      · exact (toV HV rfl)
    · clear hV
      (try dsimp only)
      have HI := Lib.hid hI
      have HL := Lib.hid hL
      clear hI hL
      go_wp2_with fail
      have uW : ∀ o, Below W.heap.size W (W.alloc o) := fun o => (Below.refl _ _).alloc (Nat.le_refl _) o
      have hsz := HI.out.1.size
      refine step3_done rfl ?_ ?_ ?_
      · exact (toI HIp ⟨up HI.out.1 (uW _), fun h => absurd ((HL.out.2 11 (by simp)).symm.trans h) (by simp)⟩)
      · exact (uW _)
      · exact (toV HV ⟨_, rfl, hsz, Blk.new _ _⟩)
    · obtain ⟨u9, ⟨g10, u10, l10, b10⟩⟩ := hV
      simp only [u10, u9]
      have U10 := Lib.hid u10
      clear u9 u10
      have HI := Lib.hid hI
      have HL := Lib.hid hL
      clear hI hL
      have e0 : W.cell? ⟨g10, 0, none⟩ = some (.int .i64 0) := b10.cell 0
      have e1 : W.cell? ⟨g10, 1, none⟩ = some (.int .i64 0) := b10.cell 1
      have e2 : W.cell? ⟨g10, 2, none⟩ = some (.string ⟨#[]⟩) := b10.cell 2
      have cf := b10.frozen
      have B10 := Lib.hid b10
      have hsz := HI.out.1.size
      clear b10
      go_wp2_with fail
      have hE : Below W0.heap.size W (((W.setCell ⟨g10, 0, none⟩ (.int .i64 2)).setCell ⟨g10, 1, none⟩ (.int .i64 0)).setCell ⟨g10, 2, none⟩ (.string (Uni.enc t))) := (touch3 _ _ _).toBelow hsz (fun k hk => by omega)
      refine step3_done (v := undef) rfl ?_ ?_ ?_
      · exact (toI HIp ⟨HI.out.1.trans hE, fun _ => ⟨_, U10.out, l10, B10.out.set3 _ _ _⟩⟩)
      · exact hE
      · exact (toV HV rfl)
  case fin =>
    intro x W L hL hI hV
    replace hI : (Below W0.heap.size W0 W ∧ (L 11 = true → ∃ g4, x 10 = .pointer (some ⟨g4, 0, none⟩) ∧ W0.heap.size ≤ g4 ∧ Blk g4 (.cells #[.int .i64 2, .int .i64 0, .string (Uni.enc t)] 110 (0, 0)) W)) := ofI HIp hI
    rw [HV.out] at hV
    simp only [AllV, and_true] at hV
    obtain ⟨u0, u1, u2, u3, u4, u5, u6, u7, u8, u9, u11⟩ := hV
    simp only [getsD, List.getD_cons_succ, List.getD_cons_zero, List.length_cons, List.length_nil, List.range, List.range.loop, u0, u1, u2, u3, u4, u5, u6, u7, u8, u9, u11, Act.put, List.setIfInBounds_toArray, List.set_cons_succ, List.set_cons_zero]
    clear u0 u1 u2 u3 u4 u5 u6 u7 u8 u9 u11
    obtain ⟨g4, e10, l4, b4⟩ := hI.2 (hL 11 (by simp))
    have q0 : W.cell? ⟨g4, 0, none⟩ = some (.int .i64 2) := b4.cell 0
    have q1 : W.cell? ⟨g4, 1, none⟩ = some (.int .i64 0) := b4.cell 1
    have q2 : W.cell? ⟨g4, 2, none⟩ = some (.string (Uni.enc t)) := b4.cell 2
    have qf := b4.frozen
    have HB1 := Lib.hid (up HB0.out hI.1)
    have HX1 := Lib.hid (HX0.out.go hI.1)
    have HY1 := Lib.hid (HY0.out.go hI.1)
    have B4 := Lib.hid b4
    have hy0 := HY0.out.lt
    have hz1 := hI.1.size
    simp only [e10]
    clear hI hL e10 b4 HB0 HX0 HY0 Hd Hb
    go_wp2_with fail
    obtain ⟨W1, hW1⟩ : ∃ W1, W1 = W := ⟨_, rfl⟩
    subst hW1
    obtain ⟨R, hRz, hR, hconv⟩ := runes_of (Uni.enc t) (by have := enc_size t hpok.2; have := ht4; omega)
    rw [rns_enc hpok.2] at hRz hR hconv
    have HRz := Lib.hid hRz
    have HR := Lib.hid hR
    have Hconv := Lib.hid hconv
    have hdt : (t.drop n).take (t.length - n) = t.drop n := List.take_of_length_le (by rw [List.length_drop]; exact Nat.le_refl _)
    have HDT := Lib.hid hdt
    clear hRz hR hconv hdt
    generalize hTn : Uni.enc (t.drop n) = TD at *
    have HTD := Lib.hid hTn
    clear hTn
    obtain ⟨Vp, HV⟩ : ∃ Vp : Nat → Value → World → Prop, Hid (Vp = fun i v W => match i with
        | 0 => v = .pointer (some ⟨g4, 2, none⟩)
        | 1 => v = .string (Uni.enc t)
        | 2 => ∃ g c, v = .slice (some ⟨g, 0, none⟩) t.length c ∧ t.length ≤ c ∧ c ≤ 9223372036854775807 ∧ RunesAt W g t
        | 3 => v = .pointer (some ⟨b, 0, none⟩)
        | 4 => v = .pointer (some ⟨b, 0, none⟩)
        | 5 => v = .pointer (some ⟨b, 2, none⟩)
        | 6 => v = .int .i64 (n : Int)
        | 7 => ∃ g c, v = .slice (some ⟨g, n, none⟩) (t.length - n) c ∧ RunesAt W g t
        | 8 => v = .string TD
        | 9 => v = .pointer (some ⟨g4, 2, none⟩)
        | _ => v = undef) := ⟨_, rfl⟩
    obtain ⟨Ip, HIp⟩ : ∃ Ip : (Nat → Bool) → (Nat → Value) → World → Prop, Hid (Ip = fun L x W => (Below w.heap.size w W ∧ Blk b (.cells #[.slice (some ⟨g, off, none⟩) m c, .int .i64 k, .int .i64 n] 133 (0, 0)) W ∧ Blk w.heap.size (.cells #[.int .i64 0, .int .i64 0, .string ⟨#[]⟩] 110 (0, 0)) W ∧ (L 10 = false → Blk g4 (.cells #[.int .i64 2, .int .i64 0, .string (Uni.enc t)] 110 (0, 0)) W) ∧ (L 10 = true → Blk g4 (.cells #[.int .i64 2, .int .i64 0, .string TD] 110 (0, 0)) W))) := ⟨_, rfl⟩
    refine region_lit3 (by kernel_rfl) (by kernel_rfl) (by kernel_rfl) [[], [0], [0, 1], [], [3], [3, 4], [3, 4, 5], [0, 1, 2, 3, 4, 5, 6], [0, 1, 2, 3, 4, 5, 6, 7], [], [0, 1, 2, 3, 4, 5, 6, 7, 8, 9]] (by kernel_rfl) [some 29, some 30, some 31, some 32, some 33, some 34, some 35, some 36, some 37, some 38, none] (by kernel_rfl) [[0, 1, 2, 7, 8, 10], [1, 2, 7, 8, 10], [2, 7, 8, 10], [3, 4, 5, 6, 7, 8, 10], [4, 5, 6, 7, 8, 10], [5, 6, 7, 8, 10], [6, 7, 8, 10], [7, 8, 10], [8, 10], [9, 10], [10]] (by kernel_rfl) [[], [], [10], [], [], [], [], [10], [], [], []] [[], [0], [1], [], [3], [4], [5], [2, 6], [7], [], [8, 9]] (by kernel_rfl)
      Ip
      Vp
      (fun j W W' => match j with
        | 10 => Touch (fun z => z = g4) W W'
        | _ => Below W.heap.size W W')
      [fun x => ⟨#[undef, undef, undef, undef, .pointer (some ⟨g4, 0, none⟩), undef, undef, undef, undef, undef, undef, undef, undef, undef, undef, undef, undef, undef, undef, undef, undef, undef, undef, undef, undef, undef, undef, undef, undef, undef], []⟩,
   fun x => ⟨#[undef, undef, undef, undef, undef, undef, undef, undef, undef, undef, undef, undef, undef, undef, undef, undef, undef, undef, undef, undef, undef, undef, undef, undef, undef, undef, undef, undef, undef, x 0, undef], []⟩,
   fun x => ⟨#[undef, undef, undef, undef, undef, undef, undef, undef, undef, undef, undef, undef, undef, undef, undef, undef, undef, undef, undef, undef, undef, undef, undef, undef, undef, undef, undef, undef, undef, undef, x 1, undef], []⟩,
   fun x => ⟨#[.pointer (some ⟨b, 0, none⟩), undef, undef, undef, undef, undef, undef, undef, undef, undef, undef, undef, undef, undef, undef, undef, undef, undef, undef, undef, undef, undef, undef, undef, undef, undef, undef, undef, undef, undef, undef, undef, undef], []⟩,
   fun x => ⟨#[undef, undef, undef, undef, undef, undef, undef, undef, undef, undef, undef, undef, undef, undef, undef, undef, undef, undef, undef, undef, undef, undef, undef, undef, undef, undef, undef, undef, undef, undef, undef, undef, x 3, undef], []⟩,
   fun x => ⟨#[undef, undef, undef, undef, undef, undef, undef, undef, undef, undef, undef, undef, undef, undef, undef, undef, undef, undef, undef, undef, undef, undef, undef, undef, undef, undef, undef, undef, undef, undef, undef, undef, undef, x 4, undef], []⟩,
   fun x => ⟨#[undef, undef, undef, undef, undef, undef, undef, undef, undef, undef, undef, undef, undef, undef, undef, undef, undef, undef, undef, undef, undef, undef, undef, undef, undef, undef, undef, undef, undef, undef, undef, undef, undef, undef, x 5, undef], []⟩,
   fun x => ⟨#[undef, undef, undef, undef, undef, undef, undef, undef, undef, undef, undef, undef, undef, undef, undef, undef, undef, undef, undef, undef, undef, undef, undef, undef, undef, undef, undef, undef, undef, undef, undef, x 2, undef, undef, undef, x 6, undef], []⟩,
   fun x => ⟨#[undef, undef, undef, undef, undef, undef, undef, undef, undef, undef, undef, undef, undef, undef, undef, undef, undef, undef, undef, undef, undef, undef, undef, undef, undef, undef, undef, undef, undef, undef, undef, undef, undef, undef, undef, undef, x 7, undef], []⟩,
   fun x => ⟨#[undef, undef, undef, undef, .pointer (some ⟨g4, 0, none⟩), undef, undef, undef, undef, undef, undef, undef, undef, undef, undef, undef, undef, undef, undef, undef, undef, undef, undef, undef, undef, undef, undef, undef, undef, undef, undef, undef, undef, undef, undef, undef, undef, undef, undef], []⟩,
   fun x => ⟨#[undef, undef, undef, undef, undef, undef, undef, undef, undef, undef, undef, undef, undef, undef, undef, undef, undef, undef, undef, undef, undef, undef, undef, undef, undef, undef, undef, undef, undef, undef, undef, undef, undef, undef, undef, undef, undef, x 8, x 9], []⟩]
      ?hF ?mono ?h0 ?step [0, 1, 3, 4, 5, 6, 8, 9, 10] (by kernel_rfl) ?fin
    case hF =>
      exact ⟨fun x => ⟨by kernel_rfl, by kernel_rfl⟩, fun x => ⟨by kernel_rfl, by kernel_rfl⟩, fun x => ⟨by kernel_rfl, by kernel_rfl⟩, fun x => ⟨by kernel_rfl, by kernel_rfl⟩, fun x => ⟨by kernel_rfl, by kernel_rfl⟩, fun x => ⟨by kernel_rfl, by kernel_rfl⟩, fun x => ⟨by kernel_rfl, by kernel_rfl⟩, fun x => ⟨by kernel_rfl, by kernel_rfl⟩, fun x => ⟨by kernel_rfl, by kernel_rfl⟩, fun x => ⟨by kernel_rfl, by kernel_rfl⟩, fun x => ⟨by kernel_rfl, by kernel_rfl⟩, trivial⟩
    case mono =>
      intro i j hi hj hne hna hnk v W W' hE hv
      rw [HV.out] at hv ⊢
      simp only [List.length_cons, List.length_nil] at hi hj
      match i, hi with
      | 0, _ | 1, _ | 3, _ | 4, _ | 5, _ | 6, _ | 8, _ | 9, _ | 10, _ => exact hv
      | 2, _ =>
        match j, hj with
        | 2, _ => exact absurd rfl hne
        | 0, _ => exact absurd (by simp) hna
        | 1, _ => exact absurd (by simp) hna
        | 10, _ => exact absurd (by simp) hnk
        | 3, _ => exact (by obtain ⟨g, c, h1, h2, h3, h4⟩ := hv; exact ⟨g, c, h1, h2, h3, h4.below hE h4.1⟩)
        | 4, _ => exact (by obtain ⟨g, c, h1, h2, h3, h4⟩ := hv; exact ⟨g, c, h1, h2, h3, h4.below hE h4.1⟩)
        | 5, _ => exact (by obtain ⟨g, c, h1, h2, h3, h4⟩ := hv; exact ⟨g, c, h1, h2, h3, h4.below hE h4.1⟩)
        | 6, _ => exact (by obtain ⟨g, c, h1, h2, h3, h4⟩ := hv; exact ⟨g, c, h1, h2, h3, h4.below hE h4.1⟩)
        | 7, _ => exact (by obtain ⟨g, c, h1, h2, h3, h4⟩ := hv; exact ⟨g, c, h1, h2, h3, h4.below hE h4.1⟩)
        | 8, _ => exact (by obtain ⟨g, c, h1, h2, h3, h4⟩ := hv; exact ⟨g, c, h1, h2, h3, h4.below hE h4.1⟩)
        | 9, _ => exact (by obtain ⟨g, c, h1, h2, h3, h4⟩ := hv; exact ⟨g, c, h1, h2, h3, h4.below hE h4.1⟩)
        | m + 11, h => exact absurd h (by omega)
      | 7, _ =>
        match j, hj with
        | 7, _ => exact absurd rfl hne
        | 0, _ => exact absurd (by simp) hna
        | 1, _ => exact absurd (by simp) hna
        | 2, _ => exact absurd (by simp) hna
        | 3, _ => exact absurd (by simp) hna
        | 4, _ => exact absurd (by simp) hna
        | 5, _ => exact absurd (by simp) hna
        | 6, _ => exact absurd (by simp) hna
        | 10, _ => exact absurd (by simp) hnk
        | 8, _ => exact (by obtain ⟨g, c, h1, h4⟩ := hv; exact ⟨g, c, h1, h4.below hE h4.1⟩)
        | 9, _ => exact (by obtain ⟨g, c, h1, h4⟩ := hv; exact ⟨g, c, h1, h4.below hE h4.1⟩)
        | m + 11, h => exact absurd h (by omega)
      | m + 11, h => exact absurd h (by omega)
    case h0 => intro x; exact toI HIp ⟨HB1.out.drew, HX1.out, HY1.out, fun _ => B4.out, fun h => by cases h⟩
    case step =>
      refine ⟨?_, ?_, ?_, ?_, ?_, ?_, ?_, ?_, ?_, ?_, ?_, trivial⟩
      all_goals
        intro x W L hI hL hV
        replace hI : (Below w.heap.size w W ∧ Blk b (.cells #[.slice (some ⟨g, off, none⟩) m c, .int .i64 k, .int .i64 n] 133 (0, 0)) W ∧ Blk w.heap.size (.cells #[.int .i64 0, .int .i64 0, .string ⟨#[]⟩] 110 (0, 0)) W ∧ (L 10 = false → Blk g4 (.cells #[.int .i64 2, .int .i64 0, .string (Uni.enc t)] 110 (0, 0)) W) ∧ (L 10 = true → Blk g4 (.cells #[.int .i64 2, .int .i64 0, .string TD] 110 (0, 0)) W)) := ofI HIp hI
        rw [HV.out] at hV
        simp only [AllV, and_true] at hV
      · clear hV
        (try dsimp only)
        have HI := Lib.hid hI
        have HL := Lib.hid hL
        clear hI hL
        go_wp2_with fail
        refine step3_done rfl ?_ ?_ ?_
        · exact (toI HIp HI.out)
        · exact (Below.refl _ _)
        · exact (toV HV rfl)
      · have u0 := hV
        clear hV
        simp only [u0]
        clear u0
        have HI := Lib.hid hI
        have HL := Lib.hid hL
        clear hI hL
        have e1 : W.cell? ⟨g4, 2, none⟩ = some (.string (Uni.enc t)) := (HI.out.2.2.2.1 (HL.out.2 10 (by simp))).cell 2
        go_wp2_with fail
        refine step3_done rfl ?_ ?_ ?_
        · exact (toI HIp HI.out)
        · exact (Below.refl _ _)
        · exact (toV HV rfl)
      · have u1 := hV
        clear hV
        simp only [u1]
        clear u1
        have HI := Lib.hid hI
        have HL := Lib.hid hL
        clear hI hL
        have hcv := Hconv.out W
        go_wp2_with fail
        have uW : ∀ o, Below W.heap.size W (W.alloc o).drew := fun o => ((Below.refl _ _).alloc (Nat.le_refl _) o).drew
        obtain ⟨i1, i2, i3, i4, i5⟩ := HI.out
        have HP := Lib.hid (p := ∀ o, Below w.heap.size w (W.alloc o).drew) (fun o => upper i1 (uW o) i1.size)
        have hcap : grownCap W t.length 0 21 ≤ 9223372036854775807 := Nat.le_trans (grownCap_le_maxLen _ _ _ _ (by unfold maxLen; omega)) (by unfold maxLen; omega)
        refine step3_done rfl ?_ ?_ ?_
        · exact (toI HIp ⟨HP.out _, i2.go (uW _), i3.go (uW _), fun h => (i4 h).go (uW _), fun h : L 10 = true => absurd ((HL.out.2 10 (by simp)).symm.trans h) (by simp)⟩)
        · exact (uW _)
        · exact (toV HV ⟨_, _, rfl, grownCap_ge _ _ _ _, hcap, runesAt_new W R _ t HR.out _⟩)
      · clear hV
        (try dsimp only)
        have HI := Lib.hid hI
        have HL := Lib.hid hL
        clear hI hL
        go_wp2_with fail
        refine step3_done rfl ?_ ?_ ?_
        · exact (toI HIp HI.out)
        · exact (Below.refl _ _)
        · exact (toV HV rfl)
      · have u3 := hV
        clear hV
        simp only [u3]
        clear u3
        have HI := Lib.hid hI
        have HL := Lib.hid hL
        clear hI hL
        go_wp2_with fail
        refine step3_done rfl ?_ ?_ ?_
        · exact (toI HIp HI.out)
        · exact (Below.refl _ _)
        · exact (toV HV rfl)
      · have u4 := hV
        clear hV
        simp only [u4]
        clear u4
        have HI := Lib.hid hI
        have HL := Lib.hid hL
        clear hI hL
        go_wp2_with fail
        refine step3_done rfl ?_ ?_ ?_
        · exact (toI HIp HI.out)
        · exact (Below.refl _ _)
        · exact (toV HV rfl)
      · have u5 := hV
        clear hV
        simp only [u5]
        clear u5
        have HI := Lib.hid hI
        have HL := Lib.hid hL
        clear hI hL
        have e1 : W.cell? ⟨b, 2, none⟩ = some (.int .i64 (n : Int)) := HI.out.2.1.cell 2
        go_wp2_with fail
        refine step3_done rfl ?_ ?_ ?_
        · exact (toI HIp HI.out)
        · exact (Below.refl _ _)
        · exact (toV HV rfl)
      · obtain ⟨⟨g2, c2, u2, h2, m2, r2⟩, u6⟩ := hV
        simp only [u2, u6]
        have U2 := Lib.hid u2
        clear u2 u6
        have HI := Lib.hid hI
        have HL := Lib.hid hL
        clear hI hL
        have j1 : (0 : Int) ≤ (n : Int) := by omega
        have j2 : n < t.length := hnz
        have j3 : n < c2 := by omega
        have j4 : (n : Int) ≤ (t.length : Int) := by omega
        have j5 : (t.length : Int) ≤ (c2 : Int) := by omega
        have R2 := Lib.hid r2
        clear r2
        go_wp2_with fail
        refine step3_done rfl ?_ ?_ ?_
        · exact (toI HIp HI.out)
        · exact (Below.refl _ _)
        · exact (toV HV ⟨_, _, rfl, R2.out⟩)
      · obtain ⟨g7, c7, u7, r7⟩ := hV
        simp only [u7]
        have U7 := Lib.hid u7
        clear u7
        have HI := Lib.hid hI
        have HL := Lib.hid hL
        clear hI hL
        have hcv := r7.conv n (t.length - n) c7 (by have : n < t.length := hnz; omega)
        rw [HDT.out, HTD.out] at hcv
        clear r7
        go_wp2_with fail
        refine step3_done rfl ?_ ?_ ?_
        · exact (toI HIp HI.out)
        · exact (Below.refl _ _)
        · exact (toV HV rfl)
      · clear hV
        (try dsimp only)
        have HI := Lib.hid hI
        have HL := Lib.hid hL
        clear hI hL
        go_wp2_with fail
        refine step3_done rfl ?_ ?_ ?_
        · exact (toI HIp HI.out)
        · exact (Below.refl _ _)
        · exact (toV HV rfl)
      · obtain ⟨u8, u9⟩ := hV
        simp only [u8, u9]
        clear u8 u9
        have HI := Lib.hid hI
        have HL := Lib.hid hL
        clear hI hL
        have b10 := HI.out.2.2.2.1 (HL.out.2 10 (by simp))
        have e1 : W.cell? ⟨g4, 2, none⟩ = some (.string (Uni.enc t)) := b10.cell 2
        have ef := b10.frozen
        have hyl := HY1.out.lt
        have B10 := Lib.hid b10
        clear b10
        go_wp2_with fail
        obtain ⟨i1, i2, i3, i4, i5⟩ := HI.out
        have hT := fun u => touch1 (g := g4) (i := 2) (w := W) u
        refine step3_done (v := undef) rfl ?_ ?_ ?_
        · exact (toI HIp ⟨i1.trans ((hT _).toBelow i1.size (fun k hk => by have hk' : k = g4 := hk; omega)), i2.touch (hT _) (by omega), i3.touch (hT _) (by omega), fun h => absurd h (by simp [setB]), fun _ => B10.out.set 2 _⟩)
        · exact (hT _)
        · exact (toV HV rfl)
    case fin =>
      intro x W L hL hI hV
      replace hI : (Below w.heap.size w W ∧ Blk b (.cells #[.slice (some ⟨g, off, none⟩) m c, .int .i64 k, .int .i64 n] 133 (0, 0)) W ∧ Blk w.heap.size (.cells #[.int .i64 0, .int .i64 0, .string ⟨#[]⟩] 110 (0, 0)) W ∧ (L 10 = false → Blk g4 (.cells #[.int .i64 2, .int .i64 0, .string (Uni.enc t)] 110 (0, 0)) W) ∧ (L 10 = true → Blk g4 (.cells #[.int .i64 2, .int .i64 0, .string TD] 110 (0, 0)) W)) := ofI HIp hI
      rw [HV.out] at hV
      simp only [AllV, and_true] at hV
      obtain ⟨u0, u1, u3, u4, u5, u6, u8, u9, u10⟩ := hV
      simp only [getsD, List.getD_cons_succ, List.getD_cons_zero, List.length_cons, List.length_nil, List.range, List.range.loop, u0, u1, u3, u4, u5, u6, u8, u9, u10, Act.put, List.setIfInBounds_toArray, List.set_cons_succ, List.set_cons_zero]
      clear u0 u1 u3 u4 u5 u6 u8 u9 u10
      have b5 := hI.2.2.2.2 (hL 10 (by simp))
      have r0 : W.cell? ⟨g4, 0, none⟩ = some (.int .i64 2) := b5.cell 0
      have r1 : W.cell? ⟨g4, 1, none⟩ = some (.int .i64 0) := b5.cell 1
      have r2 : W.cell? ⟨g4, 2, none⟩ = some (.string TD) := b5.cell 2
      have y1 := hI.2.2.1
      have s0 : W.cell? ⟨w.heap.size, 0, none⟩ = some (.int .i64 0) := y1.cell 0
      have s1 : W.cell? ⟨w.heap.size, 1, none⟩ = some (.int .i64 0) := y1.cell 1
      have s2 : W.cell? ⟨w.heap.size, 2, none⟩ = some (.string ⟨#[]⟩) := y1.cell 2
      have sf := y1.frozen
      have Y2 := Lib.hid (y1.set3 (.int .i64 2) (.int .i64 (0)) (.string (TD)))
      have HB2 := Lib.hid hI.1
      clear hI hL b5 y1 HB1 HX1 HY1 B4 q0 q1 q2 qf
      go_wp2_with fail
      refine abs_ret (fun W' => Blk w.heap.size (.cells #[.int .i64 2, .int .i64 (0), .string (TD)] 110 (0, 0)) W' ∧ Below w.heap.size w W') ⟨Y2.out, HB2.out.trans ((touch3 _ _ _).toBelow HB2.out.size (fun k hk => Nat.le_of_eq (Eq.symm hk)))⟩ ?_
      rintro W' ⟨hB, hW⟩
      have p0 : W'.cell? ⟨w.heap.size, 0, none⟩ = some (.int .i64 2) := hB.cell 0
      have p1 : W'.cell? ⟨w.heap.size, 1, none⟩ = some (.int .i64 (0)) := hB.cell 1
      have p2 : W'.cell? ⟨w.heap.size, 2, none⟩ = some (.string (TD)) := hB.cell 2
      have HW := Lib.hid hW
      clear hB hW s0 s1 s2 sf r0 r1 r2 Y2
      refine bodyPost_ret (v := .tuple #[partV ⟨2, 0, TD⟩, .bool true]) (by simp [results, Tryd.results67, go_sem, p0, p1, p2, partV]) rfl ?_
      exact ⟨by rw [HTD.out], HW.out⟩
end Go.Proofs.YtkhacogeffidoaaDoor
