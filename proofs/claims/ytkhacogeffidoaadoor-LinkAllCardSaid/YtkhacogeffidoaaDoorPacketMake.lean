/- The walk of wherrykeep.Packet. -/
import Derived.Test.YtkhacogeffidoaaDoorFrameMake
import Derived.Test.YtkhacogeffidoaaDoorFirst
import Derived.Test.YtkhacogeffidoaaDoorOwn
import Derived.Test.YtkhacogeffidoaaDoorReg3
set_option linter.unusedVariables false
set_option linter.unusedSimpArgs false
namespace Go.Proofs.YtkhacogeffidoaaDoor
open Go.RowKit

def packetOf (r : Raw) (l : List Raw) : Pkt :=
  if pk r.kind 4 = 0 then ⟨pk r.a 5000, 0, true, pk r.b 50, bareFr⟩ else ⟨pk r.a 5000 + 1, 1 + pk r.c 30, false, pk r.b 50, frameOf r l⟩
/-- a packet as a value, its operation's slice given -/
def pktV (p : Pkt) (a : Option Addr) (c : Nat) : Value := .agg #[.int .i64 p.epoch, .int .i64 p.number, .bool p.bare, .int .i64 p.ack, .int .i64 p.f.kind, .int .i64 p.f.heard, .int .i64 p.f.epoch, .slice a p.f.op.length c, .string p.f.text]
def PktP (w : World) (p : Pkt) (e : Ending) (w' : World) : Prop :=
  ∃ a c, e = .returned (pktV p a c) ∧ RdS (fun b => w.heap.size ≤ b ∧ b < w'.heap.size) w' p.f.op a p.f.op.length c ∧ Below w.heap.size w w'
theorem noText_bytes : noText = ⟨#[]⟩ := rfl
/-- nine cells of a block are written -/
theorem blk_set9 {w : World} {g T : Nat} {c0 c1 c2 c3 c4 c5 c6 c7 c8 : Value} (h : Blk g (.cells #[c0, c1, c2, c3, c4, c5, c6, c7, c8] T (0, 0)) w) (v0 v1 v2 v3 v4 v5 v6 v7 v8 : Value) : Blk g (.cells #[v0, v1, v2, v3, v4, v5, v6, v7, v8] T (0, 0)) (((((((((w.setCell ⟨g, 0, none⟩ v0).setCell ⟨g, 1, none⟩ v1).setCell ⟨g, 2, none⟩ v2).setCell ⟨g, 3, none⟩ v3).setCell ⟨g, 4, none⟩ v4).setCell ⟨g, 5, none⟩ v5).setCell ⟨g, 6, none⟩ v6).setCell ⟨g, 7, none⟩ v7).setCell ⟨g, 8, none⟩ v8) :=
  by
  have h9 := ((((((((h.set 0 v0).set 1 v1).set 2 v2).set 3 v3).set 4 v4).set 5 v5).set 6 v6).set 7 v7).set 8 v8
  simp only [List.setIfInBounds_toArray, List.set_cons_succ, List.set_cons_zero] at h9
  exact h9
theorem touch9 (w : World) (g : Nat) (v0 v1 v2 v3 v4 v5 v6 v7 v8 : Value) : Touch (fun z => z = g) w (((((((((w.setCell ⟨g, 0, none⟩ v0).setCell ⟨g, 1, none⟩ v1).setCell ⟨g, 2, none⟩ v2).setCell ⟨g, 3, none⟩ v3).setCell ⟨g, 4, none⟩ v4).setCell ⟨g, 5, none⟩ v5).setCell ⟨g, 6, none⟩ v6).setCell ⟨g, 7, none⟩ v7).setCell ⟨g, 8, none⟩ v8) :=
  (((((((((Touch.refl (fun z => z = g) w).setCell (p := ⟨g, 0, none⟩) (.inl rfl) _).setCell (p := ⟨g, 1, none⟩) (.inl rfl) _).setCell (p := ⟨g, 2, none⟩) (.inl rfl) _).setCell (p := ⟨g, 3, none⟩) (.inl rfl) _).setCell (p := ⟨g, 4, none⟩) (.inl rfl) _).setCell (p := ⟨g, 5, none⟩) (.inl rfl) _).setCell (p := ⟨g, 6, none⟩) (.inl rfl) _).setCell (p := ⟨g, 7, none⟩) (.inl rfl) _).setCell (p := ⟨g, 8, none⟩) (.inl rfl) _
theorem far9 {w : World} {g b : Nat} (h : b ≠ g) (v0 v1 v2 v3 v4 v5 v6 v7 v8 : Value) : (((((((((w.setCell ⟨g, 0, none⟩ v0).setCell ⟨g, 1, none⟩ v1).setCell ⟨g, 2, none⟩ v2).setCell ⟨g, 3, none⟩ v3).setCell ⟨g, 4, none⟩ v4).setCell ⟨g, 5, none⟩ v5).setCell ⟨g, 6, none⟩ v6).setCell ⟨g, 7, none⟩ v7).setCell ⟨g, 8, none⟩ v8).heap[b]? = w.heap[b]? := by
  rw [Below.heap_setCell _ _ _ _ h, Below.heap_setCell _ _ _ _ h, Below.heap_setCell _ _ _ _ h, Below.heap_setCell _ _ _ _ h, Below.heap_setCell _ _ _ _ h, Below.heap_setCell _ _ _ _ h, Below.heap_setCell _ _ _ _ h, Below.heap_setCell _ _ _ _ h, Below.heap_setCell _ _ _ _ h]
theorem blk_cells9 {w : World} {g T : Nat} {c0 c1 c2 c3 c4 c5 c6 c7 c8 : Value} (h : Blk g (.cells #[c0, c1, c2, c3, c4, c5, c6, c7, c8] T (0, 0)) w) : w.cell? ⟨g, 0, none⟩ = some c0 ∧ w.cell? ⟨g, 1, none⟩ = some c1 ∧ w.cell? ⟨g, 2, none⟩ = some c2 ∧ w.cell? ⟨g, 3, none⟩ = some c3 ∧ w.cell? ⟨g, 4, none⟩ = some c4 ∧ w.cell? ⟨g, 5, none⟩ = some c5 ∧ w.cell? ⟨g, 6, none⟩ = some c6 ∧ w.cell? ⟨g, 7, none⟩ = some c7 ∧ w.cell? ⟨g, 8, none⟩ = some c8 :=
  ⟨h.cell 0, h.cell 1, h.cell 2, h.cell 3, h.cell 4, h.cell 5, h.cell 6, h.cell 7, h.cell 8⟩
set_option maxRecDepth 100000 in
set_option maxHeartbeats 4000000 in
theorem packet_any (r : Raw) (l : List Raw) (a : Option Addr) (n c : Nat) (w : World) (hr : RdS (· < w.heap.size) w l a n c) (hk : r.ok) :
    Calls Tryd.prog 17 #[rawV r, .slice a n c] w (PktP w (packetOf r l)) := by
  have HF := Lib.hid (fun W (hb : Below w.heap.size w W) => frame_go r l a n c W (hr.go hb) hk)
  obtain ⟨k, xa, xb, xc, t⟩ := r
  obtain ⟨hk, ha, hb, hc, ht⟩ := hk
  unfold packetOf
  unfold rawV at *
  simp only at *
  have HK := Lib.hid (fun W => picked_any k 4 W hk (by omega) (by omega))
  have HA := Lib.hid (fun W => picked_any xa 5000 W ha (by omega) (by omega))
  have HB := Lib.hid (fun W => picked_any xb 50 W hb (by omega) (by omega))
  have HC := Lib.hid (fun W => picked_any xc 30 W hc (by omega) (by omega))
  have ra := pk_range xa 5000 (by omega)
  have rc' := pk_range xc 30 (by omega)
  generalize frameOf ⟨k, xa, xb, xc, t⟩ l = f at *
  generalize pk xa 5000 = PA at *
  generalize pk xb 50 = PB at *
  generalize pk xc 30 = PC at *
  generalize pk k 4 = PK at *
  clear hr ha hb hc ht hk
  obtain ⟨P, hP⟩ : ∃ P : Pkt, P = if PK = 0 then ⟨PA, 0, true, PB, bareFr⟩ else ⟨PA + 1, 1 + PC, false, PB, f⟩ := ⟨_, rfl⟩
  rw [← hP]
  have HP := Lib.hid hP
  clear hP
  go_enter Tryd.func17, Tryd.ntmps17
  go_wp2_with fail
  refine abs_w (fun W => Below w.heap.size w W ∧ Blk w.heap.size (.cells #[.int .i64 k, .int .i64 xa, .int .i64 xb, .int .i64 xc, .string t] 42 (0, 0)) W ∧ Blk (w.heap.size + 1) (.cells #[.int .i64 0, .int .i64 0, .bool false, .int .i64 0, .int .i64 0, .int .i64 0, .int .i64 0, .slice none 0 0, .string ⟨#[]⟩] 45 (0, 0)) W) ⟨by (repeat (first | exact Below.refl _ _ | assumption | (refine Below.drew ?_) | (refine below_drewN ?_ _) | (refine Below.alloc ?_ (by first | (simp; done) | (simp; omega) | omega) _) | (refine Below.setCell ?_ (by first | (simp; done) | (simp; omega) | omega) _) | (refine Below.trans ?_ (Below.mono (by assumption) (by first | (simp; done) | (simp; omega) | omega))))), (Blk.new w _).alloc _, Blk.at (w.alloc _) _ (w.heap.size + 1) (by simp)⟩ ?_
  rintro w1 ⟨hb1, hx1, ho1⟩
  have H1 := Lib.hid (And.intro hb1 (And.intro hx1 ho1))
  have z1 := ho1.lt
  clear hb1 hx1 ho1
  obtain ⟨Vp, HV⟩ : ∃ Vp : Nat → Value → World → Prop, Hid (Vp = fun i v W => match i with
      | 0 => v = .pointer (some ⟨w.heap.size, 1, none⟩)
      | 1 => v = .int .i64 xa
      | 2 => v = .int .i64 PA
      | 3 => v = .pointer (some ⟨w.heap.size, 2, none⟩)
      | 4 => v = .int .i64 xb
      | 5 => v = .int .i64 PB
      | 6 => v = .agg #[.int .i64 PA, .int .i64 0, .bool false, .int .i64 PB, .int .i64 0, .int .i64 0, .int .i64 0, .slice none 0 0, .string ⟨#[]⟩]
      | 7 => ∃ g, v = .pointer (some ⟨g, 0, none⟩) ∧ w1.heap.size ≤ g ∧ Blk g (.cells #[.int .i64 0, .int .i64 0, .bool false, .int .i64 0, .int .i64 0, .int .i64 0, .int .i64 0, .slice none 0 0, .string ⟨#[]⟩] 45 (0, 0)) W
      | _ => v = undef) := ⟨_, rfl⟩
  obtain ⟨Ip, HIp⟩ : ∃ Ip : (Nat → Bool) → (Nat → Value) → World → Prop, Hid (Ip = fun L x W => (Below w1.heap.size w1 W ∧ (L 8 = true → ∃ g, x 7 = .pointer (some ⟨g, 0, none⟩) ∧ w1.heap.size ≤ g ∧ Blk g (.cells #[.int .i64 PA, .int .i64 0, .bool false, .int .i64 PB, .int .i64 0, .int .i64 0, .int .i64 0, .slice none 0 0, .string ⟨#[]⟩] 45 (0, 0)) W))) := ⟨_, rfl⟩
  refine region_lit3 (by kernel_rfl) (by kernel_rfl) (by kernel_rfl) [[], [0], [0, 1], [], [3], [3, 4], [0, 1, 2, 3, 4, 5], [], [0, 1, 2, 3, 4, 5, 6, 7]] (by kernel_rfl) [some 6, some 7, some 8, some 9, some 10, some 11, some 12, some 5, none] (by kernel_rfl) [[0, 1, 2, 6, 8], [1, 2, 6, 8], [2, 6, 8], [3, 4, 5, 6, 8], [4, 5, 6, 8], [5, 6, 8], [6, 8], [7, 8], [8]] (by kernel_rfl) [[], [], [], [], [], [], [], [8], []] [[], [0], [1], [], [3], [4], [2, 5], [], [6, 7]] (by kernel_rfl)
    Ip
    Vp
    (fun j W W' => match j with
      | 8 => Below w1.heap.size W W'
      | _ => Below W.heap.size W W')
    [fun x => ⟨(fZm 2 (.pointer (some ⟨w.heap.size, 0, none⟩)) (fEm 4)).toArray, []⟩,
   fun x => ⟨(fZm 6 (x 0) (fEm 1)).toArray, []⟩,
   fun x => ⟨(fZm 7 (x 1) (fEm 1)).toArray, []⟩,
   fun x => ⟨(fZm 2 (.pointer (some ⟨w.heap.size, 0, none⟩)) (fEm 7)).toArray, []⟩,
   fun x => ⟨(fZm 9 (x 3) (fEm 1)).toArray, []⟩,
   fun x => ⟨(fZm 10 (x 4) (fEm 1)).toArray, []⟩,
   fun x => ⟨(fZm 8 (x 2) (fZm 2 (x 5) (fEm 1))).toArray, []⟩,
   fun x => ⟨(fEm 6).toArray, []⟩,
   fun x => ⟨(fZm 5 (x 7) (fZm 6 (x 6) [])).toArray, []⟩]
    ?hF ?mono ?h0 ?step [0, 1, 2, 3, 4, 5, 6, 8] (by kernel_rfl) ?fin
  case hF =>
    iterate 9 refine ⟨fun x => ⟨by kernel_rfl, by kernel_rfl⟩, ?_⟩
    trivial
  case mono =>
    intro i j hi hj hne hna hnk v W W' hE hv
    rw [HV.out] at hv ⊢
    simp only [List.length_cons, List.length_nil] at hi hj
    match i, hi with
    | 0, _ | 1, _ | 2, _ | 3, _ | 4, _ | 5, _ | 6, _ | 8, _ => exact hv
    | 7, _ =>
      match j, hj with
      | 7, _ => exact absurd rfl hne
      | 8, _ => exact absurd (by simp) hnk
      | 0, _ | 1, _ | 2, _ | 3, _ | 4, _ | 5, _ | 6, _ => exact (by obtain ⟨g, h1, h2, h3⟩ := hv; exact ⟨g, h1, h2, h3.go hE⟩)
      | m + 9, h => exact absurd h (by omega)
    | m + 9, h => exact absurd h (by omega)
  case h0 => intro x; exact toI HIp ⟨(Below.refl _ _).drew, fun h => by cases h⟩
  case step =>
    refine ⟨?_, ?_, ?_, ?_, ?_, ?_, ?_, ?_, ?_, trivial⟩
    all_goals
      intro x W L hI hL hV
      replace hI : (Below w1.heap.size w1 W ∧ (L 8 = true → ∃ g, x 7 = .pointer (some ⟨g, 0, none⟩) ∧ w1.heap.size ≤ g ∧ Blk g (.cells #[.int .i64 PA, .int .i64 0, .bool false, .int .i64 PB, .int .i64 0, .int .i64 0, .int .i64 0, .slice none 0 0, .string ⟨#[]⟩] 45 (0, 0)) W)) := ofI HIp hI
      rw [HV.out] at hV
      simp only [AllV, and_true] at hV
      dsimp only [fZm, fEm, List.reduceReplicate, List.cons_append, List.nil_append]
    · clear hV
      have HI := Lib.hid hI
      clear hI
      go_wp2_with fail
      refine step3_done rfl ?_ ?_ ?_
      · exact (toI HIp HI.out)
      · exact (Below.refl _ _)
      · exact (toV HV rfl)
    · have u0 := hV
      clear hV
      simp only [u0]
      clear u0
      have e1 : W.cell? ⟨w.heap.size, 1, none⟩ = some (.int .i64 xa) := (H1.out.2.1.go hI.1).cell 1
      have e2 : W.cell? ⟨w.heap.size, 2, none⟩ = some (.int .i64 xb) := (H1.out.2.1.go hI.1).cell 2
      have HI := Lib.hid hI
      clear hI
      go_wp2_with fail
      refine step3_done rfl ?_ ?_ ?_
      · exact (toI HIp HI.out)
      · exact (Below.refl _ _)
      · exact (toV HV rfl)
    · have u1 := hV
      clear hV
      simp only [u1]
      clear u1
      have HI := Lib.hid hI
      clear hI
      go_wp2_with fail
      refine (HA.out _).mono ?_
      rintro e W' ⟨rfl, rfl⟩
      go_wp2_with fail
      refine step3_done rfl ?_ ?_ ?_
      · exact (toI HIp HI.out)
      · exact (Below.refl _ _)
      · exact (toV HV rfl)
    · clear hV
      have HI := Lib.hid hI
      clear hI
      go_wp2_with fail
      refine step3_done rfl ?_ ?_ ?_
      · exact (toI HIp HI.out)
      · exact (Below.refl _ _)
      · exact (toV HV rfl)
    · have u3 := hV
      clear hV
      simp only [u3]
      clear u3
      have e1 : W.cell? ⟨w.heap.size, 1, none⟩ = some (.int .i64 xa) := (H1.out.2.1.go hI.1).cell 1
      have e2 : W.cell? ⟨w.heap.size, 2, none⟩ = some (.int .i64 xb) := (H1.out.2.1.go hI.1).cell 2
      have HI := Lib.hid hI
      clear hI
      go_wp2_with fail
      refine step3_done rfl ?_ ?_ ?_
      · exact (toI HIp HI.out)
      · exact (Below.refl _ _)
      · exact (toV HV rfl)
    · have u4 := hV
      clear hV
      simp only [u4]
      clear u4
      have HI := Lib.hid hI
      clear hI
      go_wp2_with fail
      refine (HB.out _).mono ?_
      rintro e W' ⟨rfl, rfl⟩
      go_wp2_with fail
      refine step3_done rfl ?_ ?_ ?_
      · exact (toI HIp HI.out)
      · exact (Below.refl _ _)
      · exact (toV HV rfl)
    · obtain ⟨u2, u5⟩ := hV
      simp only [u2, u5]
      clear u2 u5
      have HI := Lib.hid hI
      clear hI
      go_wp2_with fail
      refine step3_done rfl ?_ ?_ ?_
      · exact (toI HIp HI.out)
      · exact (Below.refl _ _)
      · exact (toV HV rfl)
    · clear hV
      have HL := Lib.hid hL
      have HI := Lib.hid hI
      clear hI hL
      go_wp2_with fail
      have uW : ∀ o, Below W.heap.size W (W.alloc o) := fun o => (Below.refl _ _).alloc (Nat.le_refl _) o
      have hsz := HI.out.1.size
      refine step3_done rfl ?_ ?_ ?_
      · exact (toI HIp ⟨up HI.out.1 (uW _), fun h => absurd ((HL.out.2 8 (by simp)).symm.trans h) (by simp)⟩)
      · exact (uW _)
      · exact (toV HV ⟨_, rfl, hsz, Blk.new _ _⟩)
    · obtain ⟨u6, ⟨g7, u7, l7, b7⟩⟩ := hV
      simp only [u7, u6]
      have U7 := Lib.hid u7
      clear u6 u7
      have HI := Lib.hid hI
      have HB7 := Lib.hid b7
      have hsz := b7.lt
      obtain ⟨c0, c1, c2, c3, c4, c5, c6, c7, c8⟩ := blk_cells9 b7
      have cf := b7.frozen
      clear hI b7
      have HT := Lib.hid (touch9 W g7 (.int .i64 PA) (.int .i64 0) (.bool false) (.int .i64 PB) (.int .i64 0) (.int .i64 0) (.int .i64 0) (.slice none 0 0) (.string ⟨#[]⟩))
      have HN := Lib.hid (blk_set9 HB7.out (.int .i64 PA) (.int .i64 0) (.bool false) (.int .i64 PB) (.int .i64 0) (.int .i64 0) (.int .i64 0) (.slice none 0 0) (.string ⟨#[]⟩))
      go_wp2_with fail
      have hbw := HT.out.toBelow (B := w1.heap.size) HI.out.1.size (fun k hk => by subst hk; exact l7)
      exact step3_done (v := undef) rfl (toI HIp ⟨HI.out.1.trans hbw, fun _ => ⟨g7, U7.out, l7, HN.out⟩⟩) hbw (toV HV rfl)
  case fin =>
    intro x W L hL hI hV
    replace hI : (Below w1.heap.size w1 W ∧ (L 8 = true → ∃ g, x 7 = .pointer (some ⟨g, 0, none⟩) ∧ w1.heap.size ≤ g ∧ Blk g (.cells #[.int .i64 PA, .int .i64 0, .bool false, .int .i64 PB, .int .i64 0, .int .i64 0, .int .i64 0, .slice none 0 0, .string ⟨#[]⟩] 45 (0, 0)) W)) := ofI HIp hI
    rw [HV.out] at hV
    simp only [AllV, and_true] at hV
    obtain ⟨u0, u1, u2, u3, u4, u5, u6, u8⟩ := hV
    simp only [getsD, List.getD_cons_succ, List.getD_cons_zero, List.length_cons, List.length_nil, List.range, List.range.loop, u0, u1, u2, u3, u4, u5, u6, u8, Act.put, List.setIfInBounds_toArray, List.set_cons_succ, List.set_cons_zero]
    clear u0 u1 u2 u3 u4 u5 u6 u8
    obtain ⟨g, e7, hg, bg⟩ := hI.2 (hL 8 (by simp))
    have hb2 := hI.1
    have z2 := bg.lt
    have HZ := Lib.hid (And.intro (up H1.out.1 hb2) (And.intro (H1.out.2.1.go hb2) (And.intro (H1.out.2.2.go hb2) bg)))
    simp only [e7]
    have q0 : W.cell? ⟨w.heap.size, 0, none⟩ = some (.int .i64 k) := HZ.out.2.1.cell 0
    clear hI hL bg hb2 e7 H1 HA HB
    go_wp2_with fail
    refine (HK.out _).mono ?_
    rintro e W' ⟨rfl, rfl⟩
    by_cases h0 : PK = 0
    · have hP := HP.out
      rw [if_pos h0] at hP
      subst h0
      obtain ⟨p0, p1, p2, p3, p4, p5, p6, p7, p8⟩ := blk_cells9 HZ.out.2.2.2
      have pf := HZ.out.2.2.2.frozen
      obtain ⟨o0, o1, o2, o3, o4, o5, o6, o7, o8⟩ := blk_cells9 HZ.out.2.2.1
      have of := HZ.out.2.2.1.frozen
      have hgo : g ≠ w.heap.size + 1 := by omega
      have zo : w.heap.size + 1 < W.heap.size := HZ.out.2.2.1.lt
      subst hP
      clear HP q0
      go_wp2_with fail
      refine abs_ret (fun W' => Blk (w.heap.size + 1) (.cells #[.int .i64 PA, .int .i64 0, .bool true, .int .i64 PB, .int .i64 0, .int .i64 0, .int .i64 0, .slice none 0 0, .string ⟨#[]⟩] 45 (0, 0)) W' ∧ Below w.heap.size w W') ⟨blk_set9 (HZ.out.2.2.1.other (p := ⟨g, 2, none⟩) hgo _) _ _ _ _ _ _ _ _ _, ?_⟩ ?_
      · exact (HZ.out.1.setCell (p := ⟨g, 2, none⟩) (by show w.heap.size ≤ g; omega) _).trans ((touch9 _ _ _ _ _ _ _ _ _ _ _).toBelow (by simp; omega) (fun k hk => by subst hk; omega))
      rintro W' ⟨hB, hW⟩
      have k0 : W'.cell? ⟨w.heap.size + 1, 0, none⟩ = some (.int .i64 PA) := hB.cell 0
      have k1 : W'.cell? ⟨w.heap.size + 1, 1, none⟩ = some (.int .i64 0) := hB.cell 1
      have k2 : W'.cell? ⟨w.heap.size + 1, 2, none⟩ = some (.bool true) := hB.cell 2
      have k3 : W'.cell? ⟨w.heap.size + 1, 3, none⟩ = some (.int .i64 PB) := hB.cell 3
      have k4 : W'.cell? ⟨w.heap.size + 1, 4, none⟩ = some (.int .i64 0) := hB.cell 4
      have k5 : W'.cell? ⟨w.heap.size + 1, 5, none⟩ = some (.int .i64 0) := hB.cell 5
      have k6 : W'.cell? ⟨w.heap.size + 1, 6, none⟩ = some (.int .i64 0) := hB.cell 6
      have k7 : W'.cell? ⟨w.heap.size + 1, 7, none⟩ = some (.slice none 0 0) := hB.cell 7
      have k8 : W'.cell? ⟨w.heap.size + 1, 8, none⟩ = some (.string ⟨#[]⟩) := hB.cell 8
      refine bodyPost_ret (v := .agg #[.int .i64 PA, .int .i64 0, .bool true, .int .i64 PB, .int .i64 0, .int .i64 0, .int .i64 0, .slice none 0 0, .string ⟨#[]⟩]) (by simp [results, Tryd.results17, go_sem, k0, k1, k2, k3, k4, k5, k6, k7, k8]) rfl ?_
      exact ⟨none, 0, rfl, RdS.nil _ _, hW⟩
    · have hP := HP.out
      rw [if_neg h0] at hP
      have hb0 : (PK == 0) = false := by simpa using h0
      obtain ⟨p0, p1, p2, p3, p4, p5, p6, p7, p8⟩ := blk_cells9 HZ.out.2.2.2
      have pf := HZ.out.2.2.2.frozen
      have r0 : W.cell? ⟨w.heap.size, 1, none⟩ = some (.int .i64 xa) := HZ.out.2.1.cell 1
      have r1 : W.cell? ⟨w.heap.size, 2, none⟩ = some (.int .i64 xb) := HZ.out.2.1.cell 2
      have r2 : W.cell? ⟨w.heap.size, 3, none⟩ = some (.int .i64 xc) := HZ.out.2.1.cell 3
      have r3 : W.cell? ⟨w.heap.size, 4, none⟩ = some (.string t) := HZ.out.2.1.cell 4
      have hgo : g ≠ w.heap.size + 1 := by omega
      have hgr : g ≠ w.heap.size := by omega
      have hgr2 : w.heap.size ≠ g := by omega
      subst hP
      clear HP h0
      go_wp2_with fail
      refine (HC.out _).mono ?_
      rintro e W' ⟨rfl, rfl⟩
      go_wp2_with fail
      refine abs_run (fun W' => Below w.heap.size w W' ∧ Blk g (.cells #[.int .i64 (PA + 1), .int .i64 (1 + PC), .bool false, .int .i64 PB, .int .i64 0, .int .i64 0, .int .i64 0, .slice none 0 0, .string ⟨#[]⟩] 45 (0, 0)) W' ∧ Blk (w.heap.size + 1) (.cells #[.int .i64 0, .int .i64 0, .bool false, .int .i64 0, .int .i64 0, .int .i64 0, .int .i64 0, .slice none 0 0, .string ⟨#[]⟩] 45 (0, 0)) W') ⟨(HZ.out.1.setCell (p := ⟨g, 0, none⟩) (by show w.heap.size ≤ g; omega) _).setCell (p := ⟨g, 1, none⟩) (by show w.heap.size ≤ g; omega) _, (HZ.out.2.2.2.set 0 _).set 1 _, (HZ.out.2.2.1.other (p := ⟨g, 0, none⟩) hgo _).other (p := ⟨g, 1, none⟩) hgo _⟩ ?_
      rintro W3 ⟨hb3, hg3, ho3⟩
      have z3 := hg3.lt
      refine (HF.out W3 hb3).mono ?_
      rintro e W4 ⟨af, cf, rfl, rf, hb4⟩
      have hg4 := hg3.go hb4
      have ho4 := ho3.go hb4
      have HB4 := Lib.hid (up hb3 hb4)
      have HG4 := Lib.hid hg4
      have HO4 := Lib.hid ho4
      have HRf : Hid (RdS (fun b => (w.heap.size ≤ b ∧ b ≠ g ∧ b ≠ w.heap.size + 1) ∧ b < W4.heap.size) W4 f.op af f.op.length cf) := rf.mono fun b hb => ⟨⟨⟨by have := hb.1; omega, by have := hb.1; omega, by have := hb.1; omega⟩, hb.2⟩, rfl⟩
      obtain ⟨p0, p1, p2, p3, p4, p5, p6, p7, p8⟩ := blk_cells9 hg4
      have pf := hg4.frozen
      obtain ⟨o0, o1, o2, o3, o4, o5, o6, o7, o8⟩ := blk_cells9 ho4
      have of := ho4.frozen
      have z4 := hb4.size
      clear hb3 hb4 hg3 hg4 ho3 ho4 rf HZ HF HK HC r0 r1 r2 r3 q0
      go_wp2_with fail
      refine abs_ret (fun W' => Blk (w.heap.size + 1) (.cells #[.int .i64 (PA + 1), .int .i64 (1 + PC), .bool false, .int .i64 PB, .int .i64 f.kind, .int .i64 f.heard, .int .i64 f.epoch, .slice af f.op.length cf, .string f.text] 45 (0, 0)) W' ∧ RdS (fun b => w.heap.size ≤ b ∧ b < W'.heap.size) W' f.op af f.op.length cf ∧ Below w.heap.size w W') ⟨blk_set9 (((((HO4.out.other (p := ⟨g, 4, none⟩) hgo _).other (p := ⟨g, 5, none⟩) hgo _).other (p := ⟨g, 6, none⟩) hgo _).other (p := ⟨g, 7, none⟩) hgo _).other (p := ⟨g, 8, none⟩) hgo _) _ _ _ _ _ _ _ _ _, ?_, ?_⟩ ?_
      · refine HRf.out.mono fun b hb => ⟨⟨hb.1.1, by have := hb.2; simpa using this⟩, (far9 hb.1.2.2 _ _ _ _ _ _ _ _ _).trans ?_⟩
        rw [Below.heap_setCell _ _ _ _ hb.1.2.1, Below.heap_setCell _ _ _ _ hb.1.2.1, Below.heap_setCell _ _ _ _ hb.1.2.1, Below.heap_setCell _ _ _ _ hb.1.2.1, Below.heap_setCell _ _ _ _ hb.1.2.1]
      · exact (((((HB4.out.setCell (p := ⟨g, 4, none⟩) (by show w.heap.size ≤ g; omega) _).setCell (p := ⟨g, 5, none⟩) (by show w.heap.size ≤ g; omega) _).setCell (p := ⟨g, 6, none⟩) (by show w.heap.size ≤ g; omega) _).setCell (p := ⟨g, 7, none⟩) (by show w.heap.size ≤ g; omega) _).setCell (p := ⟨g, 8, none⟩) (by show w.heap.size ≤ g; omega) _).trans ((touch9 _ _ _ _ _ _ _ _ _ _ _).toBelow (by simp; omega) (fun k hk => by subst hk; omega))
      rintro W' ⟨hB, hR, hW⟩
      have k0 : W'.cell? ⟨w.heap.size + 1, 0, none⟩ = some (.int .i64 (PA + 1)) := hB.cell 0
      have k1 : W'.cell? ⟨w.heap.size + 1, 1, none⟩ = some (.int .i64 (1 + PC)) := hB.cell 1
      have k2 : W'.cell? ⟨w.heap.size + 1, 2, none⟩ = some (.bool false) := hB.cell 2
      have k3 : W'.cell? ⟨w.heap.size + 1, 3, none⟩ = some (.int .i64 PB) := hB.cell 3
      have k4 : W'.cell? ⟨w.heap.size + 1, 4, none⟩ = some (.int .i64 f.kind) := hB.cell 4
      have k5 : W'.cell? ⟨w.heap.size + 1, 5, none⟩ = some (.int .i64 f.heard) := hB.cell 5
      have k6 : W'.cell? ⟨w.heap.size + 1, 6, none⟩ = some (.int .i64 f.epoch) := hB.cell 6
      have k7 : W'.cell? ⟨w.heap.size + 1, 7, none⟩ = some (.slice af f.op.length cf) := hB.cell 7
      have k8 : W'.cell? ⟨w.heap.size + 1, 8, none⟩ = some (.string f.text) := hB.cell 8
      refine bodyPost_ret (v := .agg #[.int .i64 (PA + 1), .int .i64 (1 + PC), .bool false, .int .i64 PB, .int .i64 f.kind, .int .i64 f.heard, .int .i64 f.epoch, .slice af f.op.length cf, .string f.text]) (by simp [results, Tryd.results17, go_sem, k0, k1, k2, k3, k4, k5, k6, k7, k8]) rfl ?_
      exact ⟨af, cf, rfl, hR, hW⟩
end Go.Proofs.YtkhacogeffidoaaDoor
