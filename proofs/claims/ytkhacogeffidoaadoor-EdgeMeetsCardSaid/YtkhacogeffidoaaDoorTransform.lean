/- The walk of text.Transform. -/
import Derived.Test.YtkhacogeffidoaaDoorTr
import Derived.Deep.LoopGhost
set_option linter.unusedVariables false
set_option linter.unusedSimpArgs false
namespace Go.Proofs.YtkhacogeffidoaaDoor
open Go.RowKit

/-- two operations of the call's own -/
def TrPost (X Y : List P) (w : World) (e : Ending) (w' : World) : Prop :=
  ∃ (a1 : Option Addr) (c1 : Nat) (a2 : Option Addr) (c2 : Nat), e = .returned (.tuple #[.slice a1 (opOfP X).length c1, .slice a2 (opOfP Y).length c2, .int .i64 0]) ∧
    RdS (fun z => w.heap.size ≤ z ∧ z < w'.heap.size) w' (opOfP X) a1 (opOfP X).length c1 ∧ RdS (fun z => w.heap.size ≤ z ∧ z < w'.heap.size) w' (opOfP Y) a2 (opOfP Y).length c2 ∧ Below w.heap.size w w'
/-- .. or what they may not be -/
def TrAny (X Y : List P) (w : World) (e : Ending) (w' : World) : Prop :=
  (fitE (opOfP X) (opOfP Y) = 0 → TrPost X Y w e w') ∧ (fitE (opOfP X) (opOfP Y) ≠ 0 → e = .returned (.tuple #[.slice none 0 0, .slice none 0 0, .int .i64 (fitE (opOfP X) (opOfP Y))]) ∧ Below w.heap.size w w')
theorem xf_nil (f : Nat) : xf f [] [] = ([], []) := by cases f <;> simp only [xf]
theorem can_fit {R : List P} (h : Can R) (hs : FS R + TS R ≤ 100000) (q : Part) (hq : q ∈ (R.map P.part).reverse) : I64 q.kind ∧ I64 q.n ∧ q.text.size ≤ strMax := by
  obtain ⟨⟨⟨_, _⟩, ⟨_, _⟩, _⟩, h4⟩ := can_mild h hs q (by simpa using hq)
  refine ⟨⟨by omega, by omega⟩, ⟨by omega, by omega⟩, by unfold strMax; omega⟩
theorem foldl_bound {l R F : List P} (h : l.foldl addP R = F) (hF : FS F + TS F ≤ 20000) : FS R + TS R ≤ 100000 := by
  have h1 := foldl_FS l R
  have h2 := foldl_TS l R
  rw [h] at h1 h2
  omega
theorem Wk.new {D : Nat} {o : Op} {W : World} {a : Option Addr} {n c : Nat} (hc : check o = 0) (hr : RdS (fun z => z < D) W o a n c) {b : Nat} (hb : Blk b (.cells #[.slice a n c, .int .i64 0, .int .i64 0] 133 (0, 0)) W) (hD : D ≤ b) (h4 : sumF o ≤ 4000 ∧ sumT o ≤ 4000) : Wk D b (opP o) 0 0 W := by
  have hI := opIs hc
  have hn := hr.1
  have hl : (opP o).length = o.length := by unfold opP; simp
  have he : (opP o).map P.part = o := hI.eq.symm
  refine ⟨⟨a, c, ?_, ?_⟩, hD, hI.ok, ?_, ?_, ?_, Nat.zero_le _, fun p hp => P.ok_z (hI.ok p (List.mem_of_getElem? hp)), fun _ => rfl⟩
  · rw [hl, ← hn]; exact hb
  · rw [he, hl, ← hn]; exact hr
  · rw [hl]; exact (check_zero hc).1
  · have := hI.f; omega
  · have := hI.t; omega

theorem xf_TS (f : Nat) : ∀ a b : List P, AllOk a → AllOk b → FS a = FS b → TS (xf f a b).1 ≤ TS a + TS b := by
  induction f with
  | zero => intro a b _ _ _; simp [xf, TS]
  | succ f ih =>
    intro a b ha hb h
    rcases two_ways ha hb h with ⟨rfl, rfl⟩ | ⟨t, r, rfl⟩ | ⟨t, r, rfl, hne⟩ | ⟨x, r, y, s, rfl, rfl, hx, hy⟩
    · simp [xf, TS]
    · have := ih r b (allOk_cons.1 ha).2 hb (by simpa [FS, P.F] using h)
      rw [xf_i1]
      simp only [TS, P.T]; omega
    · have := ih a r ha (allOk_cons.1 hb).2 (by simpa [FS, P.F] using h)
      rw [xf_i2 _ _ _ _ hne]
      simp only [TS, P.T]; omega
    · have h1 := pass_F (p := x) (l := r) (n := min x.z y.z) hx (by omega)
      have h2 := pass_F (p := y) (l := s) (n := min x.z y.z) hy (by omega)
      have := ih (pass (x :: r) (min x.z y.z)) (pass (y :: s) (min x.z y.z)) (pass_ok ha (by omega)) (pass_ok hb (by omega)) (by omega)
      rw [xf_2 _ _ _ _ _ hx hy]
      cases x with
      | i t => cases hx
      | k m =>
        cases y with
        | i t => cases hy
        | k m' =>
          have e1 := pass_Tk (m := m) (l := r) (n := min m m') (by omega)
          have e2 := pass_Tk (m := m') (l := s) (n := min m m') (by omega)
          simp only [P.z, xe1, List.cons_append, List.nil_append] at this ⊢
          simp only [TS, P.T] at e1 e2 ⊢; omega
        | d m' =>
          have e1 := pass_Tk (m := m) (l := r) (n := min m m') (by omega)
          have e2 := pass_Td (m := m') (l := s) (n := min m m')
          simp only [P.z, xe1, List.nil_append] at this ⊢
          omega
      | d m =>
        cases y with
        | i t => cases hy
        | k m' =>
          have e1 := pass_Td (m := m) (l := r) (n := min m m')
          have e2 := pass_Tk (m := m') (l := s) (n := min m m') (by omega)
          simp only [P.z, xe1, List.cons_append, List.nil_append] at this ⊢
          simp only [TS, P.T] at e1 e2 ⊢; omega
        | d m' =>
          have e1 := pass_Td (m := m) (l := r) (n := min m m')
          have e2 := pass_Td (m := m') (l := s) (n := min m m')
          simp only [P.z, xe1, List.nil_append] at this ⊢
          omega


set_option maxRecDepth 100000 in
set_option maxHeartbeats 10000000 in
theorem transform_any (o q : Op) (a b : Option Addr) (n c m d : Nat) (w : World) (hg : Good w) (h1 : RdS (· < w.heap.size) w o a n c) (h2 : RdS (· < w.heap.size) w q b m d) (hb : bothE o q = 0) :
    Calls Tryd.prog 55 #[.slice a n c, .slice b m d] w (TrAny (xf (ZS (opP o) + ZS (opP q)) (opP o) (opP q)).1 (xf (ZS (opP o) + ZS (opP q)) (opP o) (opP q)).2 w) := by
  have HB := Lib.hid (both_any o q a b n c m d w hg h1 h2)
  rw [hb] at HB
  obtain ⟨e1, e2, e3⟩ := bothE_zero.1 hb
  have hI1 := opIs e1
  have hI2 := opIs e2
  have hs1 := (check_zero e1).2.2
  have hs2 := (check_zero e2).2.2
  have hFF : FS (opP o) = FS (opP q) := by have := hI1.f; have := hI2.f; omega
  obtain ⟨l1, l2, l3, l4, l5, _⟩ := xf_laws _ _ _ hI1.ok hI2.ok hFF (Nat.le_refl _)
  have lT := xf_TS (ZS (opP o) + ZS (opP q)) _ _ hI1.ok hI2.ok hFF
  have htq : (TS (opP q) : Int) = sumT q := hI2.t.symm
  have hto : (TS (opP o) : Int) = sumT o := hI1.t.symm
  have hf1 : FS (xf (ZS (opP o) + ZS (opP q)) (opP o) (opP q)).1 ≤ 4000 := by omega
  have hf2 : FS (xf (ZS (opP o) + ZS (opP q)) (opP o) (opP q)).2 ≤ 4000 := by omega
  have hNew1 := fun (D : Nat) (W : World) (bb : Nat) (hr : RdS (fun z => z < D) W o a n c) => Wk.new e1 hr (b := bb)
  have hNew2 := fun (D : Nat) (W : World) (bb : Nat) (hr : RdS (fun z => z < D) W q b m d) => Wk.new e2 hr (b := bb)
  generalize hX : (xf (ZS (opP o) + ZS (opP q)) (opP o) (opP q)).1 = X at *
  generalize hY : (xf (ZS (opP o) + ZS (opP q)) (opP o) (opP q)).2 = Y at *
  have Hst : Hid (∀ w1, Below w.heap.size w w1 → ∀ W2, Below w1.heap.size w1 W2 → Blk w1.heap.size (.cells #[.slice a n c, .int .i64 0, .int .i64 0] 133 (0, 0)) W2 → Blk (w1.heap.size + 1) (.cells #[.slice b m d, .int .i64 0, .int .i64 0] 133 (0, 0)) W2 →
      Blk (w1.heap.size + 1 + 1) (.cells #[.slice none 0 0] 136 (0, 0)) W2 → Blk (w1.heap.size + 1 + 1 + 1) (.cells #[.slice none 0 0] 136 (0, 0)) W2 → Tst w w1.heap.size (opP o) (opP q) (build X) (build Y) (ZS (opP o) + ZS (opP q)) W2) := by
    unfold Hid
    intro w1 hw1 W2 hW2 b1 b2 b3 b4
    have hz := hw1.size
    refine ⟨0, 0, 0, 0, [], [], .slice none 0 0, .slice none 0 0, hNew1 w1.heap.size W2 _ ?_ b1 (Nat.le_refl _) (by omega), hNew2 w1.heap.size W2 _ ?_ b2 (by omega) (by omega), ⟨⟨by omega, b3, World.ownsRow_nil _ _ _ _, by simp [Value.ownBlock]⟩, trivial, fun g hg => by cases hg⟩, ⟨⟨by omega, b4, World.ownsRow_nil _ _ _ _, by simp [Value.ownBlock]⟩, trivial, fun g hg => by cases hg⟩,
      (fun g hg => by cases hg), b4.lt, up hw1 hW2, hz, ?_, ?_, ?_, ?_⟩
    · exact ((h1.go hw1).mono fun z hz => ⟨hz, hW2.block z hz⟩)
    · exact ((h2.go hw1).mono fun z hz => ⟨hz, hW2.block z hz⟩)
    · rw [remOf_zero, remOf_zero]; exact Nat.le_refl _
    · rw [remOf_zero, remOf_zero]; exact hFF
    · rw [remOf_zero, remOf_zero]; exact congrArg build hX
    · rw [remOf_zero, remOf_zero]; exact congrArg build hY
  have hbX : FS (build X) + TS (build X) ≤ 20000 := by rw [build_FS, build_TS]; omega
  have hbY : FS (build Y) + TS (build Y) ≤ 20000 := by rw [build_FS, build_TS]; omega
  generalize opP o = la at *
  generalize opP q = lb at *
  clear hNew1 hNew2 hX hY hI1 hI2 hs1 hs2 hFF l1 l2 l3 l4 l5 lT htq hto hf1 hf2 h1 h2 hb e1 e2 e3
  go_enter Tryd.func55, Tryd.ntmps55
  go_wp2_with fail
  refine HB.out.mono ?_
  rintro e w1 ⟨rfl, u1⟩
  clear HB
  go_wp2_with fail
  refine abs_w (fun W => Tst w w1.heap.size la lb (build X) (build Y) (ZS la + ZS lb) W) (Hst.out w1 u1 _ ?_ ?_ ?_ ?_ ?_) ?_
  · (repeat (first | exact Below.refl _ _ | assumption | (refine Below.drew ?_) | (refine below_drewN ?_ _) | (refine Below.alloc ?_ (by first | (simp; done) | (simp; omega) | omega) _) | (refine Below.setCell ?_ (by first | (simp; done) | (simp; omega) | omega) _) | (refine Below.trans ?_ (Below.mono (by assumption) (by first | (simp; done) | (simp; omega) | omega)))))
  · exact (((Blk.new _ _).alloc _).alloc _).alloc _
  · exact ((Blk.at _ _ _ (by simp)).alloc _).alloc _
  · exact (Blk.at _ _ _ (by simp)).alloc _
  · exact Blk.at _ _ _ (by simp)
  intro W2 hst
  have HS := Lib.hid hst
  clear hst Hst
  have hgW : Hid (∀ W, Below w.heap.size w W → Good W) := fun W hW => hg.go hW
  go_loopg [] (ZS la + ZS lb) (fun f wr => Tst w w1.heap.size la lb (build X) (build Y) f wr)
  case atStart => exact HS.out
  case round =>
    obtain ⟨kx, nx, ky, ny, Rp, Rq, vp, vq, hx, hy, hp, hq, hap, hsz, hbw, hwb, hz, hF, hP, hQ⟩ := hrel
    clear HS
    have oa := hx.rem_ok
    have ob := hy.rem_ok
    have PX := Lib.hid (wpart_any w1.heap.size w1.heap.size la kx nx wr hx)
    have PY := Lib.hid (fun W (hW : Below wr.heap.size wr W) => wpart_any w1.heap.size (w1.heap.size + 1) lb ky ny W (hy.go hW))
    have Start := Lib.hid (fun w2 w3 cs ct u2 u3 => Env.start (w2 := w2) (w3 := w3) hx hy hp hq hap hsz hbw hwb cs ct u2 u3)
    have hfs : True := trivial
    rcases two_ways oa ob hF with ⟨hra, hrb⟩ | ⟨t, r, hra⟩ | ⟨t, r, hrb, hne⟩ | ⟨xx, r, yy, s, hra, hrb, hxi, hyi⟩
    · -- both are at their end
      rw [hra] at PX
      rw [hrb] at PY
      rw [hra, hrb, xf_nil] at hP hQ
      simp only [List.foldl_nil] at hP hQ
      subst hP hQ
      unfold headV at PX PY
      simp only [partV] at PX PY
      have RX := hp.bag.rd (can_fit hp.can (by omega)) (A := fun z => w.heap.size ≤ z ∧ z < wr.heap.size) (fun g hg => ⟨by have := (hp.bag.rowlt g hg).1; omega, by have := (hp.bag.rowlt g hg).2; omega⟩)
      have RY := hq.bag.rd (can_fit hq.can (by omega)) (A := fun z => w.heap.size ≤ z ∧ z < wr.heap.size) (fun g hg => ⟨by have := (hq.bag.rowlt g hg).1; omega, by have := (hq.bag.rowlt g hg).2; omega⟩)
      rw [← List.map_reverse] at RX RY
      obtain ⟨ax, cx, rfl, hrx⟩ := RX
      obtain ⟨ay, cy, rfl, hry⟩ := RY
      have bX := hp.bag.blk
      have bY := hq.bag.blk
      have HRX : Hid (RdS (fun z => w.heap.size ≤ z ∧ z < wr.heap.size) wr (opOfP X) ax (opOfP X).length cx) := hrx
      have HRY : Hid (RdS (fun z => w.heap.size ≤ z ∧ z < wr.heap.size) wr (opOfP Y) ay (opOfP Y).length cy) := hry
      have BX : Hid (Blk (w1.heap.size + 2) (.cells #[.slice ax (opOfP X).length cx] 136 (0, 0)) wr) := bX
      have BY : Hid (Blk (w1.heap.size + 3) (.cells #[.slice ay (opOfP Y).length cy] 136 (0, 0)) wr) := bY
      have Hbw := Lib.hid hbw
      have KEY : ∃ (fx : Option Addr) (fl fc : Nat) (gx : Option Addr) (gl gc : Nat) (E : Int), Hid (∀ W, Below wr.heap.size wr W → Calls Tryd.prog 68 #[.slice ax (opOfP X).length cx, .slice ay (opOfP Y).length cy] W fun e w' => e = .returned (.tuple #[.slice fx fl fc, .slice gx gl gc, .int .i64 E]) ∧ Below W.heap.size W w') ∧
          Hid (∀ W, Below wr.heap.size wr W → TrAny X Y w (.returned (.tuple #[.slice fx fl fc, .slice gx gl gc, .int .i64 E])) W) := by
        by_cases hE : fitE (opOfP X) (opOfP Y) = 0
        · have h0 : check (opOfP X) = 0 ∧ check (opOfP Y) = 0 := by
            unfold fitE at hE
            by_cases h1 : check (opOfP X) = 0
            · rw [if_neg (by simpa using h1)] at hE; exact ⟨h1, hE⟩
            · rw [if_pos h1] at hE; exact absurd hE h1
          refine ⟨ax, (opOfP X).length, cx, ay, (opOfP Y).length, cy, 0, fun W hW => ?_, fun W hW => ⟨fun _ => ⟨ax, cx, ay, cy, rfl, HRX.out.freshB hW, HRY.out.freshB hW, up Hbw.out hW⟩, fun h => absurd hE h⟩⟩
          exact fits_ok _ _ _ _ _ _ _ _ W (hgW.out W (up Hbw.out hW)) ((HRX.out.freshB hW).wide fun b hb => hb.2) ((HRY.out.freshB hW).wide fun b hb => hb.2) h0.1 h0.2
        · refine ⟨none, 0, 0, none, 0, 0, fitE (opOfP X) (opOfP Y), fun W hW => ?_, fun W hW => ⟨fun h => absurd h hE, fun _ => ⟨rfl, up Hbw.out hW⟩⟩⟩
          exact fits_bad _ _ _ _ _ _ _ _ W (hgW.out W (up Hbw.out hW)) ((HRX.out.freshB hW).wide fun b hb => hb.2) ((HRY.out.freshB hW).wide fun b hb => hb.2) hE
      obtain ⟨fx, fl, fc, gx, gl, gc, E, HFi, HPo⟩ := KEY
      clear hx hy hp hq hap hra hrb hF hz oa ob hfs bX bY hrx hry hbX hbY hbw Start
      generalize hlx : (opOfP X).length = lx at *
      generalize hly : (opOfP Y).length = ly at *
      go_wp2_with fail
      refine PX.out.mono ?_
      rintro e w2 ⟨rfl, u2⟩
      have U2 := Lib.hid u2
      clear u2
      go_wp2_with fail
      refine (PY.out _ (up U2.out ((Below.refl _ _).alloc (Nat.le_refl _) _))).mono ?_
      rintro e w3 ⟨rfl, u3⟩
      have U3 := Lib.hid u3
      clear u3 PX PY
      go_wp2_with fail
      refine abs_w (fun W => Below wr.heap.size wr W) ?_ ?_
      · exact up U2.out (up ((Below.refl _ _).alloc (Nat.le_refl _) _) (up U3.out ((Below.refl _ _).alloc (Nat.le_refl _) _)))
      intro w5 u5
      clear U2 U3
      refine region_lit2 (by kernel_rfl) (by kernel_rfl) (by kernel_rfl) [[], [0], [0, 1], [0, 1, 2], [], [4], [4, 5], [4, 5, 6], [0, 1, 2, 3, 4, 5, 6, 7], [0, 1, 2, 3, 4, 5, 6, 7, 8], [0, 1, 2, 3, 4, 5, 6, 7, 8], [0, 1, 2, 3, 4, 5, 6, 7, 8], [0, 1, 2, 3, 4, 5, 6, 7, 8, 9], [0, 1, 2, 3, 4, 5, 6, 7, 8, 10], [0, 1, 2, 3, 4, 5, 6, 7, 8, 11]] (by kernel_rfl) [some 95, some 96, some 97, some 98, some 99, some 100, some 101, some 102, some 103, some 104, some 105, some 106, some 4, some 5, some 6] (by kernel_rfl) [false, false, false, false, false, false, false, false, false, false, false, false, false, false, false] (by kernel_rfl)
        (fun W => Below wr.heap.size wr W)
        (fun i v W => match i with
          | 0 => v = .pointer (some ⟨w1.heap.size + 1 + 1, 0, none⟩)
          | 1 => v = .pointer (some ⟨w1.heap.size + 1 + 1, 0, none⟩)
          | 2 => v = .pointer (some ⟨w1.heap.size + 1 + 1, 0, none⟩)
          | 3 => v = .slice ax lx cx
          | 4 => v = .pointer (some ⟨w1.heap.size + 1 + 1 + 1, 0, none⟩)
          | 5 => v = .pointer (some ⟨w1.heap.size + 1 + 1 + 1, 0, none⟩)
          | 6 => v = .pointer (some ⟨w1.heap.size + 1 + 1 + 1, 0, none⟩)
          | 7 => v = .slice ay ly cy
          | 8 => v = .tuple #[.slice fx fl fc, .slice gx gl gc, .int .i64 E]
          | 9 => v = .slice fx fl fc
          | 10 => v = .slice gx gl gc
          | 11 => v = .int .i64 E
          | 12 => v = .slice fx fl fc
          | 13 => v = .slice gx gl gc
          | _ => v = .int .i64 E)
        (fun W W' => Below W.heap.size W W')
        [fun x => ⟨#[undef, undef, undef, undef, undef, undef, undef, undef, undef, undef, .pointer (some ⟨w1.heap.size + 1 + 1, 0, none⟩), undef, undef, undef, undef, undef, undef, undef, undef, undef, undef, undef, undef, undef, undef, undef, undef, undef, undef, undef, undef, undef, undef, undef, undef, undef, undef, undef, undef, undef, undef, undef, undef, undef, undef, undef, undef, undef, undef, undef, undef, undef, undef, undef, undef, undef, undef, undef, undef, undef, undef, undef, undef, undef, undef, undef, undef, undef, undef, undef, undef, undef, undef, undef, undef, undef, undef, undef, undef, undef, undef, undef, undef, undef, undef, undef, undef, undef, undef, undef, undef, undef, undef, undef, undef, undef], []⟩,
   fun x => ⟨#[undef, undef, undef, undef, undef, undef, undef, undef, undef, undef, undef, undef, undef, undef, undef, undef, undef, undef, undef, undef, undef, undef, undef, undef, undef, undef, undef, undef, undef, undef, undef, undef, undef, undef, undef, undef, undef, undef, undef, undef, undef, undef, undef, undef, undef, undef, undef, undef, undef, undef, undef, undef, undef, undef, undef, undef, undef, undef, undef, undef, undef, undef, undef, undef, undef, undef, undef, undef, undef, undef, undef, undef, undef, undef, undef, undef, undef, undef, undef, undef, undef, undef, undef, undef, undef, undef, undef, undef, undef, undef, undef, undef, undef, undef, undef, x 0, undef], []⟩,
   fun x => ⟨#[undef, undef, undef, undef, undef, undef, undef, undef, undef, undef, undef, undef, undef, undef, undef, undef, undef, undef, undef, undef, undef, undef, undef, undef, undef, undef, undef, undef, undef, undef, undef, undef, undef, undef, undef, undef, undef, undef, undef, undef, undef, undef, undef, undef, undef, undef, undef, undef, undef, undef, undef, undef, undef, undef, undef, undef, undef, undef, undef, undef, undef, undef, undef, undef, undef, undef, undef, undef, undef, undef, undef, undef, undef, undef, undef, undef, undef, undef, undef, undef, undef, undef, undef, undef, undef, undef, undef, undef, undef, undef, undef, undef, undef, undef, undef, undef, x 1, undef], []⟩,
   fun x => ⟨#[undef, undef, undef, undef, undef, undef, undef, undef, undef, undef, undef, undef, undef, undef, undef, undef, undef, undef, undef, undef, undef, undef, undef, undef, undef, undef, undef, undef, undef, undef, undef, undef, undef, undef, undef, undef, undef, undef, undef, undef, undef, undef, undef, undef, undef, undef, undef, undef, undef, undef, undef, undef, undef, undef, undef, undef, undef, undef, undef, undef, undef, undef, undef, undef, undef, undef, undef, undef, undef, undef, undef, undef, undef, undef, undef, undef, undef, undef, undef, undef, undef, undef, undef, undef, undef, undef, undef, undef, undef, undef, undef, undef, undef, undef, undef, undef, undef, x 2, undef], []⟩,
   fun x => ⟨#[undef, undef, undef, undef, undef, undef, undef, undef, undef, undef, undef, .pointer (some ⟨w1.heap.size + 1 + 1 + 1, 0, none⟩), undef, undef, undef, undef, undef, undef, undef, undef, undef, undef, undef, undef, undef, undef, undef, undef, undef, undef, undef, undef, undef, undef, undef, undef, undef, undef, undef, undef, undef, undef, undef, undef, undef, undef, undef, undef, undef, undef, undef, undef, undef, undef, undef, undef, undef, undef, undef, undef, undef, undef, undef, undef, undef, undef, undef, undef, undef, undef, undef, undef, undef, undef, undef, undef, undef, undef, undef, undef, undef, undef, undef, undef, undef, undef, undef, undef, undef, undef, undef, undef, undef, undef, undef, undef, undef, undef, undef, undef], []⟩,
   fun x => ⟨#[undef, undef, undef, undef, undef, undef, undef, undef, undef, undef, undef, undef, undef, undef, undef, undef, undef, undef, undef, undef, undef, undef, undef, undef, undef, undef, undef, undef, undef, undef, undef, undef, undef, undef, undef, undef, undef, undef, undef, undef, undef, undef, undef, undef, undef, undef, undef, undef, undef, undef, undef, undef, undef, undef, undef, undef, undef, undef, undef, undef, undef, undef, undef, undef, undef, undef, undef, undef, undef, undef, undef, undef, undef, undef, undef, undef, undef, undef, undef, undef, undef, undef, undef, undef, undef, undef, undef, undef, undef, undef, undef, undef, undef, undef, undef, undef, undef, undef, undef, x 4, undef], []⟩,
   fun x => ⟨#[undef, undef, undef, undef, undef, undef, undef, undef, undef, undef, undef, undef, undef, undef, undef, undef, undef, undef, undef, undef, undef, undef, undef, undef, undef, undef, undef, undef, undef, undef, undef, undef, undef, undef, undef, undef, undef, undef, undef, undef, undef, undef, undef, undef, undef, undef, undef, undef, undef, undef, undef, undef, undef, undef, undef, undef, undef, undef, undef, undef, undef, undef, undef, undef, undef, undef, undef, undef, undef, undef, undef, undef, undef, undef, undef, undef, undef, undef, undef, undef, undef, undef, undef, undef, undef, undef, undef, undef, undef, undef, undef, undef, undef, undef, undef, undef, undef, undef, undef, undef, x 5, undef], []⟩,
   fun x => ⟨#[undef, undef, undef, undef, undef, undef, undef, undef, undef, undef, undef, undef, undef, undef, undef, undef, undef, undef, undef, undef, undef, undef, undef, undef, undef, undef, undef, undef, undef, undef, undef, undef, undef, undef, undef, undef, undef, undef, undef, undef, undef, undef, undef, undef, undef, undef, undef, undef, undef, undef, undef, undef, undef, undef, undef, undef, undef, undef, undef, undef, undef, undef, undef, undef, undef, undef, undef, undef, undef, undef, undef, undef, undef, undef, undef, undef, undef, undef, undef, undef, undef, undef, undef, undef, undef, undef, undef, undef, undef, undef, undef, undef, undef, undef, undef, undef, undef, undef, undef, undef, undef, x 6, undef], []⟩,
   fun x => ⟨#[undef, undef, undef, undef, undef, undef, undef, undef, undef, undef, undef, undef, undef, undef, undef, undef, undef, undef, undef, undef, undef, undef, undef, undef, undef, undef, undef, undef, undef, undef, undef, undef, undef, undef, undef, undef, undef, undef, undef, undef, undef, undef, undef, undef, undef, undef, undef, undef, undef, undef, undef, undef, undef, undef, undef, undef, undef, undef, undef, undef, undef, undef, undef, undef, undef, undef, undef, undef, undef, undef, undef, undef, undef, undef, undef, undef, undef, undef, undef, undef, undef, undef, undef, undef, undef, undef, undef, undef, undef, undef, undef, undef, undef, undef, undef, undef, undef, undef, x 3, undef, undef, undef, x 7, undef], []⟩,
   fun x => ⟨#[undef, undef, undef, undef, undef, undef, undef, undef, undef, undef, undef, undef, undef, undef, undef, undef, undef, undef, undef, undef, undef, undef, undef, undef, undef, undef, undef, undef, undef, undef, undef, undef, undef, undef, undef, undef, undef, undef, undef, undef, undef, undef, undef, undef, undef, undef, undef, undef, undef, undef, undef, undef, undef, undef, undef, undef, undef, undef, undef, undef, undef, undef, undef, undef, undef, undef, undef, undef, undef, undef, undef, undef, undef, undef, undef, undef, undef, undef, undef, undef, undef, undef, undef, undef, undef, undef, undef, undef, undef, undef, undef, undef, undef, undef, undef, undef, undef, undef, undef, undef, undef, undef, undef, x 8, undef], []⟩,
   fun x => ⟨#[undef, undef, undef, undef, undef, undef, undef, undef, undef, undef, undef, undef, undef, undef, undef, undef, undef, undef, undef, undef, undef, undef, undef, undef, undef, undef, undef, undef, undef, undef, undef, undef, undef, undef, undef, undef, undef, undef, undef, undef, undef, undef, undef, undef, undef, undef, undef, undef, undef, undef, undef, undef, undef, undef, undef, undef, undef, undef, undef, undef, undef, undef, undef, undef, undef, undef, undef, undef, undef, undef, undef, undef, undef, undef, undef, undef, undef, undef, undef, undef, undef, undef, undef, undef, undef, undef, undef, undef, undef, undef, undef, undef, undef, undef, undef, undef, undef, undef, undef, undef, undef, undef, undef, x 8, undef, undef], []⟩,
   fun x => ⟨#[undef, undef, undef, undef, undef, undef, undef, undef, undef, undef, undef, undef, undef, undef, undef, undef, undef, undef, undef, undef, undef, undef, undef, undef, undef, undef, undef, undef, undef, undef, undef, undef, undef, undef, undef, undef, undef, undef, undef, undef, undef, undef, undef, undef, undef, undef, undef, undef, undef, undef, undef, undef, undef, undef, undef, undef, undef, undef, undef, undef, undef, undef, undef, undef, undef, undef, undef, undef, undef, undef, undef, undef, undef, undef, undef, undef, undef, undef, undef, undef, undef, undef, undef, undef, undef, undef, undef, undef, undef, undef, undef, undef, undef, undef, undef, undef, undef, undef, undef, undef, undef, undef, undef, x 8, undef, undef, undef], []⟩,
   fun x => ⟨#[undef, undef, undef, undef, undef, undef, undef, undef, undef, undef, undef, undef, undef, undef, undef, undef, undef, undef, undef, undef, undef, undef, undef, undef, undef, undef, undef, undef, undef, undef, undef, undef, undef, undef, undef, undef, undef, undef, undef, undef, undef, undef, undef, undef, undef, undef, undef, undef, undef, undef, undef, undef, undef, undef, undef, undef, undef, undef, undef, undef, undef, undef, undef, undef, undef, undef, undef, undef, undef, undef, undef, undef, undef, undef, undef, undef, undef, undef, undef, undef, undef, undef, undef, undef, undef, undef, undef, undef, undef, undef, undef, undef, undef, undef, undef, undef, undef, undef, undef, undef, undef, undef, undef, undef, x 9], []⟩,
   fun x => ⟨#[undef, undef, undef, undef, undef, undef, undef, undef, undef, undef, undef, undef, undef, undef, undef, undef, undef, undef, undef, undef, undef, undef, undef, undef, undef, undef, undef, undef, undef, undef, undef, undef, undef, undef, undef, undef, undef, undef, undef, undef, undef, undef, undef, undef, undef, undef, undef, undef, undef, undef, undef, undef, undef, undef, undef, undef, undef, undef, undef, undef, undef, undef, undef, undef, undef, undef, undef, undef, undef, undef, undef, undef, undef, undef, undef, undef, undef, undef, undef, undef, undef, undef, undef, undef, undef, undef, undef, undef, undef, undef, undef, undef, undef, undef, undef, undef, undef, undef, undef, undef, undef, undef, undef, undef, undef, x 10], []⟩,
   fun x => ⟨#[undef, undef, undef, undef, undef, undef, undef, undef, undef, undef, undef, undef, undef, undef, undef, undef, undef, undef, undef, undef, undef, undef, undef, undef, undef, undef, undef, undef, undef, undef, undef, undef, undef, undef, undef, undef, undef, undef, undef, undef, undef, undef, undef, undef, undef, undef, undef, undef, undef, undef, undef, undef, undef, undef, undef, undef, undef, undef, undef, undef, undef, undef, undef, undef, undef, undef, undef, undef, undef, undef, undef, undef, undef, undef, undef, undef, undef, undef, undef, undef, undef, undef, undef, undef, undef, undef, undef, undef, undef, undef, undef, undef, undef, undef, undef, undef, undef, undef, undef, undef, undef, undef, undef, undef, undef, undef, x 11], []⟩]
        ?hF ?mono ?h0 ?step ?fin
      case hF =>
        exact ⟨fun x => ⟨by kernel_rfl, by kernel_rfl⟩, fun x => ⟨by kernel_rfl, by kernel_rfl⟩, fun x => ⟨by kernel_rfl, by kernel_rfl⟩, fun x => ⟨by kernel_rfl, by kernel_rfl⟩, fun x => ⟨by kernel_rfl, by kernel_rfl⟩, fun x => ⟨by kernel_rfl, by kernel_rfl⟩, fun x => ⟨by kernel_rfl, by kernel_rfl⟩, fun x => ⟨by kernel_rfl, by kernel_rfl⟩, fun x => ⟨by kernel_rfl, by kernel_rfl⟩, fun x => ⟨by kernel_rfl, by kernel_rfl⟩, fun x => ⟨by kernel_rfl, by kernel_rfl⟩, fun x => ⟨by kernel_rfl, by kernel_rfl⟩, fun x => ⟨by kernel_rfl, by kernel_rfl⟩, fun x => ⟨by kernel_rfl, by kernel_rfl⟩, fun x => ⟨by kernel_rfl, by kernel_rfl⟩, trivial⟩
      case mono =>
        intro i hi v W W' hE hv
        match i, hi with
        | 0, _ | 1, _ | 2, _ | 3, _ | 4, _ | 5, _ | 6, _ | 7, _ | 8, _ | 9, _ | 10, _ | 11, _ | 12, _ | 13, _ => exact hv
        | 14, _ => exact hv
        | m + 15, h => exact absurd h (by simp)
      case h0 => first | exact (Below.refl _ _).drew | exact Below.drew (by assumption) | (refine Below.drew ?_; assumption)
      case step =>
        refine ⟨?_, ?_, ?_, ?_, ?_, ?_, ?_, ?_, ?_, ?_, ?_, ?_, ?_, ?_, ?_, trivial⟩
        all_goals
          intro x W hI hV
          simp only [AllV, and_true] at hV
        · clear hV
          (try dsimp only)
          go_wp2_with fail
          exact step_done rfl hI (Below.refl _ _) rfl
        · have u0 := hV
          clear hV
          simp only [u0]
          clear u0
          go_wp2_with fail
          exact step_done rfl hI (Below.refl _ _) rfl
        · obtain ⟨u0, u1⟩ := hV
          simp only [u1]
          clear u0 u1
          go_wp2_with fail
          exact step_done rfl hI (Below.refl _ _) rfl
        · obtain ⟨u0, u1, u2⟩ := hV
          simp only [u2]
          clear u0 u1 u2
          have c0 : W.cell? ⟨w1.heap.size + 1 + 1, 0, none⟩ = some (.slice ax lx cx) := (BX.out.go hI).cell 0
          have HI := Lib.hid hI
          clear hI
          go_wp2_with fail
          exact step_done rfl HI.out (Below.refl _ _) rfl
        · clear hV
          (try dsimp only)
          go_wp2_with fail
          exact step_done rfl hI (Below.refl _ _) rfl
        · have u4 := hV
          clear hV
          simp only [u4]
          clear u4
          go_wp2_with fail
          exact step_done rfl hI (Below.refl _ _) rfl
        · obtain ⟨u4, u5⟩ := hV
          simp only [u5]
          clear u4 u5
          go_wp2_with fail
          exact step_done rfl hI (Below.refl _ _) rfl
        · obtain ⟨u4, u5, u6⟩ := hV
          simp only [u6]
          clear u4 u5 u6
          have c0 : W.cell? ⟨w1.heap.size + 1 + 1 + 1, 0, none⟩ = some (.slice ay ly cy) := (BY.out.go hI).cell 0
          have HI := Lib.hid hI
          clear hI
          go_wp2_with fail
          exact step_done rfl HI.out (Below.refl _ _) rfl
        · obtain ⟨u0, u1, u2, u3, u4, u5, u6, u7⟩ := hV
          simp only [u3, u7]
          clear u0 u1 u2 u3 u4 u5 u6 u7
          have HI := Lib.hid hI
          clear hI
          go_wp2_with fail
          refine (HFi.out W HI.out).mono ?_
          rintro e W' ⟨rfl, uW⟩
          have HW := Lib.hid (up HI.out uW)
          have HU := Lib.hid uW
          clear uW
          go_wp2_with fail
          exact step_done rfl HW.out HU.out rfl
        · obtain ⟨u0, u1, u2, u3, u4, u5, u6, u7, u8⟩ := hV
          simp only [u8]
          clear u0 u1 u2 u3 u4 u5 u6 u7 u8
          go_wp2_with fail
          exact step_done rfl hI (Below.refl _ _) rfl
        · obtain ⟨u0, u1, u2, u3, u4, u5, u6, u7, u8⟩ := hV
          simp only [u8]
          clear u0 u1 u2 u3 u4 u5 u6 u7 u8
          go_wp2_with fail
          exact step_done rfl hI (Below.refl _ _) rfl
        · obtain ⟨u0, u1, u2, u3, u4, u5, u6, u7, u8⟩ := hV
          simp only [u8]
          clear u0 u1 u2 u3 u4 u5 u6 u7 u8
          go_wp2_with fail
          exact step_done rfl hI (Below.refl _ _) rfl
        · obtain ⟨u0, u1, u2, u3, u4, u5, u6, u7, u8, u9⟩ := hV
          simp only [u9]
          clear u0 u1 u2 u3 u4 u5 u6 u7 u8 u9
          go_wp2_with fail
          exact step_done rfl hI (Below.refl _ _) rfl
        · obtain ⟨u0, u1, u2, u3, u4, u5, u6, u7, u8, u10⟩ := hV
          simp only [u10]
          clear u0 u1 u2 u3 u4 u5 u6 u7 u8 u10
          go_wp2_with fail
          exact step_done rfl hI (Below.refl _ _) rfl
        · obtain ⟨u0, u1, u2, u3, u4, u5, u6, u7, u8, u11⟩ := hV
          simp only [u11]
          clear u0 u1 u2 u3 u4 u5 u6 u7 u8 u11
          go_wp2_with fail
          exact step_done rfl hI (Below.refl _ _) rfl
      case fin =>
        intro x W hI hV
        simp only [AllV, and_true, List.length_cons, List.length_nil, List.range, List.range.loop] at hV
        obtain ⟨u0, u1, u2, u3, u4, u5, u6, u7, u8, u9, u10, u11, u12, u13, u14⟩ := hV
        simp only [getsD, List.getD_cons_succ, List.getD_cons_zero, List.length_cons, List.length_nil, List.range, List.range.loop, u0, u1, u2, u3, u4, u5, u6, u7, u8, u9, u10, u11, u12, u13, u14, Act.put, List.setIfInBounds_toArray, List.set_cons_succ, List.set_cons_zero]
        clear u0 u1 u2 u3 u4 u5 u6 u7 u8 u9 u10 u11 u12 u13 u14
        have HI := Lib.hid hI
        clear hI
        have HP : Hid (TrAny X Y w (.returned (.tuple #[.slice fx fl fc, .slice gx gl gc, .int .i64 E])) W) := HPo.out W HI.out
        clear HI HRX HRY BX BY Hbw HPo HFi
        generalize TrAny X Y w = TP at *
        go_wp2_with fail
        exact HP.out
    · -- the first one inserts
      obtain ⟨p, hp', hpc, hr⟩ := rem_head hra
      have htok : (P.i t).ok := (allOk_cons.1 (hra ▸ oa)).1
      rw [hra] at hz hF hP hQ PX
      obtain ⟨f, rfl⟩ : ∃ f, gk = f + 1 := ⟨gk - 1, by have := ZS_pos (l := r) htok; omega⟩
      rw [xf_i1] at hP hQ
      simp only [List.foldl_cons] at hP hQ
      simp only [ZS, P.z] at hz
      have htz := P.ok_z htok
      have hR1 := foldl_bound hP hbX
      rw [FS_addP, TS_addP] at hR1
      have htl : t.length ≤ 100000 := by simp only [P.F, P.T] at hR1; omega
      have hsR : FS Rp + TS Rp ≤ 100000 := by omega
      have hR2 := foldl_bound hQ hbY
      rw [FS_addP, TS_addP] at hR2
      have hsQ : FS Rq + TS Rq ≤ 100000 := by omega
      obtain ⟨tk, tn, tt, tb, htv⟩ := headV_form (remOf lb ky ny)
      rw [htv] at PY
      have HSz := Lib.hid (fun W => size_P (.i t) htok (by simp only [P.z]; omega) W)
      have hpz : p.z - nx = t.length := by rw [← P.cut_z, hpc]; rfl
      have hrem : pass (.i t :: r) t.length = r := pass_eq rfl
      have Hpass := Lib.hid (fun W hW => pass_any w1.heap.size w1.heap.size la kx nx t.length p hp' W hW (by omega))
      rw [hra, hrem] at Hpass
      have Hend : Hid (∀ W S T cs ct kx' nx' vp' vq', remOf la kx' nx' = r → Env w w1.heap.size S T la lb kx' nx' ky ny (addP Rp (.i t)) (addP Rq (.k t.length)) vp' vq' cs ct W → Tst w w1.heap.size la lb (build X) (build Y) f W) :=
        fun W S T cs ct kx' nx' vp' vq' he E => E.tst (by rw [he]; simp only [P.z] at htz; omega) (by rw [he]; simpa [FS, P.F] using hF) (by rw [he]; exact hP) (by rw [he]; exact hQ)
      unfold headV at PX
      simp only [P.part, partV] at PX HSz
      simp only [P.z] at HSz htz
      have Hvr := Lib.hid htok.2
      clear hx hy hp hq hap hra hpc hr hP hQ hF hz htok htv hpz hrem hp' oa ob hfs hR1 hR2
      go_wp2_with fail
      refine PX.out.mono ?_
      rintro e w2 ⟨rfl, u2⟩
      have U2 := Lib.hid u2
      clear u2
      go_wp2_with fail
      refine (PY.out _ (up U2.out ((Below.refl _ _).alloc (Nat.le_refl _) _))).mono ?_
      rintro e w3 ⟨rfl, u3⟩
      have xs := (Blk.new w2 (.cells #[.int .i64 2, .int .i64 0, .string (Uni.enc t)] 110)).go u3
      have s0 : w3.cell? ⟨w2.heap.size, 0, none⟩ = some (.int .i64 2) := xs.cell 0
      have s1 : w3.cell? ⟨w2.heap.size, 1, none⟩ = some (.int .i64 0) := xs.cell 1
      have s2 : w3.cell? ⟨w2.heap.size, 2, none⟩ = some (.string (Uni.enc t)) := xs.cell 2
      have hsl := xs.lt
      have hsl2 : w2.heap.size ≠ w3.heap.size := by omega
      have HE := Lib.hid (Start.out w2 w3 _ (.cells #[.int .i64 tk, .int .i64 tn, .string (tt)] 110) U2.out u3)
      clear xs u3 PX PY
      go_wp2_with fail
      refine abs_run (fun W => Env w w1.heap.size w2.heap.size w3.heap.size la lb kx nx ky ny Rp Rq vp vq (.cells #[.int .i64 2, .int .i64 0, .string (Uni.enc t)] 110) (.cells #[.int .i64 tk, .int .i64 tn, .string (tt)] 110) W) HE.out ?_
      intro w5 E5
      have F5 := Lib.hid E5
      clear E5 s0 s1 s2 HE
      refine (binsert w1.heap.size (w1.heap.size + 4) (w1.heap.size + 2) Rp vp t _ F5.out.p hsR htl Hvr.out (by have := F5.out.sz; omega)).mono ?_
      intro e w6 hadd
      obtain ⟨rfl, vp', E6⟩ := F5.out.putP hadd
      have F6 := Lib.hid E6
      clear hadd E6 F5
      have d0s : w6.cell? ⟨w2.heap.size, 0, none⟩ = some (.int .i64 2) := F6.out.s.cell 0
      have d1s : w6.cell? ⟨w2.heap.size, 1, none⟩ = some (.int .i64 0) := F6.out.s.cell 1
      have d2s : w6.cell? ⟨w2.heap.size, 2, none⟩ = some (.string (Uni.enc t)) := F6.out.s.cell 2
      go_wp2_with fail
      clear d0s d1s d2s
      refine (HSz.out _).mono ?_
      intro e w7 h7
      obtain ⟨rfl, u7⟩ := h7
      have F7 := Lib.hid (F6.out.go u7)
      clear u7 F6
      go_wp2_with fail
      refine (bkeep w1.heap.size (w1.heap.size + 4) (w1.heap.size + 3) Rq vq t.length _ F7.out.q hsQ htl (by have := F7.out.sz; omega)).mono ?_
      intro e w8 hadd
      obtain ⟨rfl, vq', E8⟩ := F7.out.putQ hadd
      have F8 := Lib.hid E8
      clear hadd E8 F7
      have d0s : w8.cell? ⟨w2.heap.size, 0, none⟩ = some (.int .i64 2) := F8.out.s.cell 0
      have d1s : w8.cell? ⟨w2.heap.size, 1, none⟩ = some (.int .i64 0) := F8.out.s.cell 1
      have d2s : w8.cell? ⟨w2.heap.size, 2, none⟩ = some (.string (Uni.enc t)) := F8.out.s.cell 2
      go_wp2_with fail
      clear d0s d1s d2s
      refine (HSz.out _).mono ?_
      intro e w9 h9
      obtain ⟨rfl, u9⟩ := h9
      have F9 := Lib.hid (F8.out.go u9)
      clear u9 F8
      go_wp2_with fail
      refine (Hpass.out _ F9.out.x).mono ?_
      intro e w10 h10
      obtain ⟨rfl, hT, kx', nx', hW, hremx⟩ := h10
      have F10 := Lib.hid (F9.out.passX hT hW)
      have Hremx := Lib.hid hremx
      clear hT hW hremx F9
      go_wp2_with fail
      go_roundg f
      case measure => omega
      case rel => exact Hend.out _ _ _ _ _ _ _ _ _ Hremx.out F10.out
    · -- the second one inserts
      obtain ⟨p, hp', hpc, hr⟩ := rem_head hrb
      have htok : (P.i t).ok := (allOk_cons.1 (hrb ▸ ob)).1
      have PY2 := PY
      obtain ⟨sk, sn, ss, sb, hsv, hs2⟩ := headV_noins hne
      rw [hsv] at PX
      rw [hrb] at hz hF hP hQ PY
      obtain ⟨f, rfl⟩ : ∃ f, gk = f + 1 := ⟨gk - 1, by have := ZS_pos (l := r) htok; omega⟩
      rw [xf_i2 _ _ _ _ hne] at hP hQ
      simp only [List.foldl_cons] at hP hQ
      simp only [ZS, P.z] at hz
      have htz := P.ok_z htok
      have hR1 := foldl_bound hP hbX
      rw [FS_addP, TS_addP] at hR1
      have hsR : FS Rp + TS Rp ≤ 100000 := by omega
      have hR2 := foldl_bound hQ hbY
      rw [FS_addP, TS_addP] at hR2
      have htl : t.length ≤ 100000 := by simp only [P.F, P.T] at hR2; omega
      have hsQ : FS Rq + TS Rq ≤ 100000 := by omega
      have HSz := Lib.hid (fun W => size_P (.i t) htok (by simp only [P.z]; omega) W)
      have hpz : p.z - ny = t.length := by rw [← P.cut_z, hpc]; rfl
      have hrem : pass (.i t :: r) t.length = r := pass_eq rfl
      have Hpass := Lib.hid (fun W hW => pass_any w1.heap.size (w1.heap.size + 1) lb ky ny t.length p hp' W hW (by omega))
      rw [hrb, hrem] at Hpass
      have Hend : Hid (∀ W S T cs ct ky' ny' vp' vq', remOf lb ky' ny' = r → Env w w1.heap.size S T la lb kx nx ky' ny' (addP Rp (.k t.length)) (addP Rq (.i t)) vp' vq' cs ct W → Tst w w1.heap.size la lb (build X) (build Y) f W) :=
        fun W S T cs ct ky' ny' vp' vq' he E => E.tst (by rw [he]; simp only [P.z] at htz; omega) (by rw [he]; simpa [FS, P.F] using hF) (by rw [he]; exact hP) (by rw [he]; exact hQ)
      unfold headV at PY
      simp only [P.part, partV] at PY HSz
      simp only [P.z] at HSz htz
      have Hvr := Lib.hid htok.2
      clear hx hy hp hq hap hrb hpc hr hP hQ hF hz htok hsv hpz hrem hp' oa ob hfs hR1 hR2 hne PY2
      cases sb
      all_goals
        go_wp2_with fail
        refine PX.out.mono ?_
        rintro e w2 ⟨rfl, u2⟩
        have U2 := Lib.hid u2
        clear u2
        go_wp2_with fail
        refine (PY.out _ (up U2.out ((Below.refl _ _).alloc (Nat.le_refl _) _))).mono ?_
        rintro e w3 ⟨rfl, u3⟩
        have xs := (Blk.new w2 (.cells #[.int .i64 sk, .int .i64 sn, .string (ss)] 110)).go u3
        have s0 : w3.cell? ⟨w2.heap.size, 0, none⟩ = some (.int .i64 sk) := xs.cell 0
        have s1 : w3.cell? ⟨w2.heap.size, 1, none⟩ = some (.int .i64 sn) := xs.cell 1
        have s2 : w3.cell? ⟨w2.heap.size, 2, none⟩ = some (.string (ss)) := xs.cell 2
        have hsl := xs.lt
        have hsl2 : w2.heap.size ≠ w3.heap.size := by omega
        have HE := Lib.hid (Start.out w2 w3 _ (.cells #[.int .i64 2, .int .i64 0, .string (Uni.enc t)] 110) U2.out u3)
        clear xs u3 PX PY
        go_wp2_with fail
        refine abs_run (fun W => Env w w1.heap.size w2.heap.size w3.heap.size la lb kx nx ky ny Rp Rq vp vq (.cells #[.int .i64 sk, .int .i64 sn, .string (ss)] 110) (.cells #[.int .i64 2, .int .i64 0, .string (Uni.enc t)] 110) W) HE.out ?_
        intro w5 E5
        have F5 := Lib.hid E5
        clear E5 s0 s1 s2 HE
        refine (HSz.out _).mono ?_
        intro e w6 h6
        obtain ⟨rfl, u6⟩ := h6
        have F6 := Lib.hid (F5.out.go u6)
        clear u6 F5
        go_wp2_with fail
        refine (bkeep w1.heap.size (w1.heap.size + 4) (w1.heap.size + 2) Rp vp t.length _ F6.out.p hsR htl (by have := F6.out.sz; omega)).mono ?_
        intro e w7 hadd
        obtain ⟨rfl, vp', E7⟩ := F6.out.putP hadd
        have F7 := Lib.hid E7
        clear hadd E7 F6
        have d0t : w7.cell? ⟨w3.heap.size, 0, none⟩ = some (.int .i64 2) := F7.out.t.cell 0
        have d1t : w7.cell? ⟨w3.heap.size, 1, none⟩ = some (.int .i64 0) := F7.out.t.cell 1
        have d2t : w7.cell? ⟨w3.heap.size, 2, none⟩ = some (.string (Uni.enc t)) := F7.out.t.cell 2
        go_wp2_with fail
        clear d0t d1t d2t
        refine (binsert w1.heap.size (w1.heap.size + 4) (w1.heap.size + 3) Rq vq t _ F7.out.q hsQ htl Hvr.out (by have := F7.out.sz; omega)).mono ?_
        intro e w8 hadd
        obtain ⟨rfl, vq', E8⟩ := F7.out.putQ hadd
        have F8 := Lib.hid E8
        clear hadd E8 F7
        have d0t : w8.cell? ⟨w3.heap.size, 0, none⟩ = some (.int .i64 2) := F8.out.t.cell 0
        have d1t : w8.cell? ⟨w3.heap.size, 1, none⟩ = some (.int .i64 0) := F8.out.t.cell 1
        have d2t : w8.cell? ⟨w3.heap.size, 2, none⟩ = some (.string (Uni.enc t)) := F8.out.t.cell 2
        go_wp2_with fail
        clear d0t d1t d2t
        refine (HSz.out _).mono ?_
        intro e w9 h9
        obtain ⟨rfl, u9⟩ := h9
        have F9 := Lib.hid (F8.out.go u9)
        clear u9 F8
        go_wp2_with fail
        refine (Hpass.out _ F9.out.y).mono ?_
        intro e w10 h10
        obtain ⟨rfl, hT, ky', ny', hW, hremy⟩ := h10
        have F10 := Lib.hid (F9.out.passY hT hW)
        have Hremy := Lib.hid hremy
        clear hT hW hremy F9
        go_wp2_with fail
        go_roundg f
        case measure => omega
        case rel => exact Hend.out _ _ _ _ _ _ _ _ _ Hremy.out F10.out
    · cases xx with
      | i t => cases hxi
      | k m =>
        cases yy with
        | i t => cases hyi
        | k m' =>
          have hnz : 1 ≤ min m m' := by have h1 := P.ok_z (allOk_cons.1 (hra ▸ oa)).1; have h2 := P.ok_z (allOk_cons.1 (hrb ▸ ob)).1; simp only [P.z] at h1 h2; omega
          obtain ⟨f, rfl⟩ : ∃ f, gk = f + 1 := ⟨gk - 1, by rw [hra] at hz; have := ZS_pos (l := r) (allOk_cons.1 (hra ▸ oa)).1; omega⟩
          rw [hra, hrb] at hz hF hP hQ
          rw [hra] at PX
          rw [hrb] at PY
          rw [xf_2 _ _ _ _ _ rfl rfl] at hP hQ
          simp only [xe1, xe2, List.cons_append, List.nil_append, List.foldl_cons, P.z] at hP hQ
          obtain ⟨p1, hp1, hpc1, hr1⟩ := rem_head hra
          obtain ⟨p2, hp2, hpc2, hr2⟩ := rem_head hrb
          have hpz1 : p1.z - nx = m := by rw [← P.cut_z, hpc1]; rfl
          have hpz2 : p2.z - ny = m' := by rw [← P.cut_z, hpc2]; rfl
          have Hpx := Lib.hid (fun W hW => pass_any w1.heap.size w1.heap.size la kx nx (min m m') p1 hp1 W hW (by omega))
          have Hpy := Lib.hid (fun W hW => pass_any w1.heap.size (w1.heap.size + 1) lb ky ny (min m m') p2 hp2 W hW (by omega))
          rw [hra] at Hpx
          rw [hrb] at Hpy
          have hZ1 := pass_Z (p := .k m) (l := r) (n := min m m') (by simp only [P.z]; omega)
          have hZ2 := pass_Z (p := .k m') (l := s) (n := min m m') (by simp only [P.z]; omega)
          have hF1 := pass_F (p := .k m) (l := r) (n := min m m') rfl (by simp only [P.z]; omega)
          have hF2 := pass_F (p := .k m') (l := s) (n := min m m') rfl (by simp only [P.z]; omega)
          have hR1 := foldl_bound hP hbX
          have hR2 := foldl_bound hQ hbY
          rw [FS_addP, TS_addP] at hR1
          rw [FS_addP, TS_addP] at hR2
          have hsR : FS Rp + TS Rp ≤ 100000 := by omega
          have hsQ : FS Rq + TS Rq ≤ 100000 := by omega
          have hmm : m ≤ 100000 := by
            have h3 := hy.f
            have h4 := hx.f
            have h5 := P.one_le (List.mem_of_getElem? hp1)
            have h6 := P.z_le p1
            have h7 := hx.t
            omega
          have Hend : Hid (∀ W S T cs ct kx' nx' ky' ny' vp' vq', remOf la kx' nx' = pass (.k m :: r) (min m m') → remOf lb ky' ny' = pass (.k m' :: s) (min m m') → Env w w1.heap.size S T la lb kx' nx' ky' ny' (addP Rp (.k (min m m'))) (addP Rq (.k (min m m'))) vp' vq' cs ct W → Tst w w1.heap.size la lb (build X) (build Y) f W) :=
            fun W S T cs ct kx' nx' ky' ny' vp' vq' he1 he2 E => E.tst (by rw [he1, he2]; omega) (by rw [he1, he2]; omega) (by rw [he1, he2]; exact hP) (by rw [he1, he2]; exact hQ)
          unfold headV at PX PY
          simp only [P.part, partV] at PX PY
          have hmin : min (m : Int) (m' : Int) = ((min m m' : Nat) : Int) := by omega
          have Hmin := Lib.hid hmin
          have hm100 : min m m' ≤ 100000 := by omega
          clear hx hy hp hq hap hra hrb hpc1 hpc2 hr1 hr2 hP hQ hF hz hpz1 hpz2 oa ob hfs hR1 hR2 hp1 hp2 hZ1 hZ2 hF1 hF2 hmin hmm
          generalize hmg : min m m' = mn at *
          have Hmg := Lib.hid hmg
          clear hmg
          go_wp2_with fail
          refine PX.out.mono ?_
          rintro e w2 ⟨rfl, u2⟩
          have U2 := Lib.hid u2
          clear u2
          go_wp2_with fail
          refine (PY.out _ (up U2.out ((Below.refl _ _).alloc (Nat.le_refl _) _))).mono ?_
          rintro e w3 ⟨rfl, u3⟩
          have xs := (Blk.new w2 (.cells #[.int .i64 1, .int .i64 (m : Int), .string (noText)] 110)).go u3
          have s0 : w3.cell? ⟨w2.heap.size, 0, none⟩ = some (.int .i64 1) := xs.cell 0
          have s1 : w3.cell? ⟨w2.heap.size, 1, none⟩ = some (.int .i64 (m : Int)) := xs.cell 1
          have s2 : w3.cell? ⟨w2.heap.size, 2, none⟩ = some (.string (noText)) := xs.cell 2
          have hsl := xs.lt
          have hsl2 : w2.heap.size ≠ w3.heap.size := by omega
          have HE := Lib.hid (Start.out w2 w3 _ (.cells #[.int .i64 1, .int .i64 (m' : Int), .string (noText)] 110) U2.out u3)
          clear xs u3 PX PY
          go_wp2_with fail
          rw [Hmin.out]
          refine abs_run (fun W => Env w w1.heap.size w2.heap.size w3.heap.size la lb kx nx ky ny Rp Rq vp vq (.cells #[.int .i64 1, .int .i64 (m : Int), .string (noText)] 110) (.cells #[.int .i64 1, .int .i64 (m' : Int), .string (noText)] 110) W) HE.out ?_
          intro w5 E5
          have F5 := Lib.hid E5
          clear E5 s0 s1 s2 HE
          refine (bkeep w1.heap.size (w1.heap.size + 4) (w1.heap.size + 2) Rp vp mn _ F5.out.p hsR hm100 (by have := F5.out.sz; omega)).mono ?_
          intro e w6 hadd
          obtain ⟨rfl, vp', E6⟩ := F5.out.putP hadd
          have F6 := Lib.hid E6
          clear hadd E6 F5
          have d0s : w6.cell? ⟨w2.heap.size, 0, none⟩ = some (.int .i64 1) := F6.out.s.cell 0
          have d1s : w6.cell? ⟨w2.heap.size, 1, none⟩ = some (.int .i64 (m : Int)) := F6.out.s.cell 1
          have d2s : w6.cell? ⟨w2.heap.size, 2, none⟩ = some (.string (noText)) := F6.out.s.cell 2
          have d0t : w6.cell? ⟨w3.heap.size, 0, none⟩ = some (.int .i64 1) := F6.out.t.cell 0
          have d1t : w6.cell? ⟨w3.heap.size, 1, none⟩ = some (.int .i64 (m' : Int)) := F6.out.t.cell 1
          have d2t : w6.cell? ⟨w3.heap.size, 2, none⟩ = some (.string (noText)) := F6.out.t.cell 2
          go_wp2_with fail
          clear d0s d1s d2s
          clear d0t d1t d2t
          refine (bkeep w1.heap.size (w1.heap.size + 4) (w1.heap.size + 3) Rq vq mn _ F6.out.q hsQ hm100 (by have := F6.out.sz; omega)).mono ?_
          intro e w7 hadd
          obtain ⟨rfl, vq', E7⟩ := F6.out.putQ hadd
          have F7 := Lib.hid E7
          clear hadd E7 F6
          have d0s : w7.cell? ⟨w2.heap.size, 0, none⟩ = some (.int .i64 1) := F7.out.s.cell 0
          have d1s : w7.cell? ⟨w2.heap.size, 1, none⟩ = some (.int .i64 (m : Int)) := F7.out.s.cell 1
          have d2s : w7.cell? ⟨w2.heap.size, 2, none⟩ = some (.string (noText)) := F7.out.s.cell 2
          have d0t : w7.cell? ⟨w3.heap.size, 0, none⟩ = some (.int .i64 1) := F7.out.t.cell 0
          have d1t : w7.cell? ⟨w3.heap.size, 1, none⟩ = some (.int .i64 (m' : Int)) := F7.out.t.cell 1
          have d2t : w7.cell? ⟨w3.heap.size, 2, none⟩ = some (.string (noText)) := F7.out.t.cell 2
          go_wp2_with fail
          clear d0s d1s d2s
          clear d0t d1t d2t
          refine (Hpx.out _ F7.out.x).mono ?_
          intro e w8 h8
          obtain ⟨rfl, hT, kx', nx', hW, hremx⟩ := h8
          have F8 := Lib.hid (F7.out.passX hT hW)
          have Hremx := Lib.hid hremx
          clear hT hW hremx F7
          go_wp2_with fail
          refine (Hpy.out _ F8.out.y).mono ?_
          intro e w9 h9
          obtain ⟨rfl, hT, ky', ny', hW, hremy⟩ := h9
          have F9 := Lib.hid (F8.out.passY hT hW)
          have Hremy := Lib.hid hremy
          clear hT hW hremy F8
          go_wp2_with fail
          go_roundg f
          case measure => omega
          case rel => exact Hend.out _ _ _ _ _ _ _ _ _ _ _ Hremx.out Hremy.out F9.out
        | d m' =>
          have hnz : 1 ≤ min m m' := by have h1 := P.ok_z (allOk_cons.1 (hra ▸ oa)).1; have h2 := P.ok_z (allOk_cons.1 (hrb ▸ ob)).1; simp only [P.z] at h1 h2; omega
          obtain ⟨f, rfl⟩ : ∃ f, gk = f + 1 := ⟨gk - 1, by rw [hra] at hz; have := ZS_pos (l := r) (allOk_cons.1 (hra ▸ oa)).1; omega⟩
          rw [hra, hrb] at hz hF hP hQ
          rw [hra] at PX
          rw [hrb] at PY
          rw [xf_2 _ _ _ _ _ rfl rfl] at hP hQ
          simp only [xe1, xe2, List.cons_append, List.nil_append, List.foldl_cons, P.z] at hP hQ
          obtain ⟨p1, hp1, hpc1, hr1⟩ := rem_head hra
          obtain ⟨p2, hp2, hpc2, hr2⟩ := rem_head hrb
          have hpz1 : p1.z - nx = m := by rw [← P.cut_z, hpc1]; rfl
          have hpz2 : p2.z - ny = m' := by rw [← P.cut_z, hpc2]; rfl
          have Hpx := Lib.hid (fun W hW => pass_any w1.heap.size w1.heap.size la kx nx (min m m') p1 hp1 W hW (by omega))
          have Hpy := Lib.hid (fun W hW => pass_any w1.heap.size (w1.heap.size + 1) lb ky ny (min m m') p2 hp2 W hW (by omega))
          rw [hra] at Hpx
          rw [hrb] at Hpy
          have hZ1 := pass_Z (p := .k m) (l := r) (n := min m m') (by simp only [P.z]; omega)
          have hZ2 := pass_Z (p := .d m') (l := s) (n := min m m') (by simp only [P.z]; omega)
          have hF1 := pass_F (p := .k m) (l := r) (n := min m m') rfl (by simp only [P.z]; omega)
          have hF2 := pass_F (p := .d m') (l := s) (n := min m m') rfl (by simp only [P.z]; omega)
          have hR1 := foldl_bound hP hbX
          have hR2 := foldl_bound hQ hbY
          rw [FS_addP, TS_addP] at hR2
          have hsR : FS Rp + TS Rp ≤ 100000 := by omega
          have hsQ : FS Rq + TS Rq ≤ 100000 := by omega
          have hmm : m ≤ 100000 := by
            have h3 := hy.f
            have h4 := hx.f
            have h5 := P.one_le (List.mem_of_getElem? hp1)
            have h6 := P.z_le p1
            have h7 := hx.t
            omega
          have Hend : Hid (∀ W S T cs ct kx' nx' ky' ny' vp' vq', remOf la kx' nx' = pass (.k m :: r) (min m m') → remOf lb ky' ny' = pass (.d m' :: s) (min m m') → Env w w1.heap.size S T la lb kx' nx' ky' ny' (Rp) (addP Rq (.d (min m m'))) vp' vq' cs ct W → Tst w w1.heap.size la lb (build X) (build Y) f W) :=
            fun W S T cs ct kx' nx' ky' ny' vp' vq' he1 he2 E => E.tst (by rw [he1, he2]; omega) (by rw [he1, he2]; omega) (by rw [he1, he2]; exact hP) (by rw [he1, he2]; exact hQ)
          unfold headV at PX PY
          simp only [P.part, partV] at PX PY
          have hmin : min (m : Int) (m' : Int) = ((min m m' : Nat) : Int) := by omega
          have Hmin := Lib.hid hmin
          have hm100 : min m m' ≤ 100000 := by omega
          clear hx hy hp hq hap hra hrb hpc1 hpc2 hr1 hr2 hP hQ hF hz hpz1 hpz2 oa ob hfs hR1 hR2 hp1 hp2 hZ1 hZ2 hF1 hF2 hmin hmm
          generalize hmg : min m m' = mn at *
          have Hmg := Lib.hid hmg
          clear hmg
          go_wp2_with fail
          refine PX.out.mono ?_
          rintro e w2 ⟨rfl, u2⟩
          have U2 := Lib.hid u2
          clear u2
          go_wp2_with fail
          refine (PY.out _ (up U2.out ((Below.refl _ _).alloc (Nat.le_refl _) _))).mono ?_
          rintro e w3 ⟨rfl, u3⟩
          have xs := (Blk.new w2 (.cells #[.int .i64 1, .int .i64 (m : Int), .string (noText)] 110)).go u3
          have s0 : w3.cell? ⟨w2.heap.size, 0, none⟩ = some (.int .i64 1) := xs.cell 0
          have s1 : w3.cell? ⟨w2.heap.size, 1, none⟩ = some (.int .i64 (m : Int)) := xs.cell 1
          have s2 : w3.cell? ⟨w2.heap.size, 2, none⟩ = some (.string (noText)) := xs.cell 2
          have hsl := xs.lt
          have hsl2 : w2.heap.size ≠ w3.heap.size := by omega
          have HE := Lib.hid (Start.out w2 w3 _ (.cells #[.int .i64 3, .int .i64 (m' : Int), .string (noText)] 110) U2.out u3)
          clear xs u3 PX PY
          go_wp2_with fail
          rw [Hmin.out]
          refine abs_run (fun W => Env w w1.heap.size w2.heap.size w3.heap.size la lb kx nx ky ny Rp Rq vp vq (.cells #[.int .i64 1, .int .i64 (m : Int), .string (noText)] 110) (.cells #[.int .i64 3, .int .i64 (m' : Int), .string (noText)] 110) W) HE.out ?_
          intro w5 E5
          have F5 := Lib.hid E5
          clear E5 s0 s1 s2 HE
          refine (bremove w1.heap.size (w1.heap.size + 4) (w1.heap.size + 3) Rq vq mn _ F5.out.q hsQ hm100 (by have := F5.out.sz; omega)).mono ?_
          intro e w6 hadd
          obtain ⟨rfl, vq', E6⟩ := F5.out.putQ hadd
          have F6 := Lib.hid E6
          clear hadd E6 F5
          have d0s : w6.cell? ⟨w2.heap.size, 0, none⟩ = some (.int .i64 1) := F6.out.s.cell 0
          have d1s : w6.cell? ⟨w2.heap.size, 1, none⟩ = some (.int .i64 (m : Int)) := F6.out.s.cell 1
          have d2s : w6.cell? ⟨w2.heap.size, 2, none⟩ = some (.string (noText)) := F6.out.s.cell 2
          have d0t : w6.cell? ⟨w3.heap.size, 0, none⟩ = some (.int .i64 3) := F6.out.t.cell 0
          have d1t : w6.cell? ⟨w3.heap.size, 1, none⟩ = some (.int .i64 (m' : Int)) := F6.out.t.cell 1
          have d2t : w6.cell? ⟨w3.heap.size, 2, none⟩ = some (.string (noText)) := F6.out.t.cell 2
          go_wp2_with fail
          clear d0s d1s d2s
          clear d0t d1t d2t
          refine (Hpx.out _ F6.out.x).mono ?_
          intro e w7 h7
          obtain ⟨rfl, hT, kx', nx', hW, hremx⟩ := h7
          have F7 := Lib.hid (F6.out.passX hT hW)
          have Hremx := Lib.hid hremx
          clear hT hW hremx F6
          go_wp2_with fail
          refine (Hpy.out _ F7.out.y).mono ?_
          intro e w8 h8
          obtain ⟨rfl, hT, ky', ny', hW, hremy⟩ := h8
          have F8 := Lib.hid (F7.out.passY hT hW)
          have Hremy := Lib.hid hremy
          clear hT hW hremy F7
          go_wp2_with fail
          go_roundg f
          case measure => omega
          case rel => exact Hend.out _ _ _ _ _ _ _ _ _ _ _ Hremx.out Hremy.out F8.out
      | d m =>
        cases yy with
        | i t => cases hyi
        | k m' =>
          have hnz : 1 ≤ min m m' := by have h1 := P.ok_z (allOk_cons.1 (hra ▸ oa)).1; have h2 := P.ok_z (allOk_cons.1 (hrb ▸ ob)).1; simp only [P.z] at h1 h2; omega
          obtain ⟨f, rfl⟩ : ∃ f, gk = f + 1 := ⟨gk - 1, by rw [hra] at hz; have := ZS_pos (l := r) (allOk_cons.1 (hra ▸ oa)).1; omega⟩
          rw [hra, hrb] at hz hF hP hQ
          rw [hra] at PX
          rw [hrb] at PY
          rw [xf_2 _ _ _ _ _ rfl rfl] at hP hQ
          simp only [xe1, xe2, List.cons_append, List.nil_append, List.foldl_cons, P.z] at hP hQ
          obtain ⟨p1, hp1, hpc1, hr1⟩ := rem_head hra
          obtain ⟨p2, hp2, hpc2, hr2⟩ := rem_head hrb
          have hpz1 : p1.z - nx = m := by rw [← P.cut_z, hpc1]; rfl
          have hpz2 : p2.z - ny = m' := by rw [← P.cut_z, hpc2]; rfl
          have Hpx := Lib.hid (fun W hW => pass_any w1.heap.size w1.heap.size la kx nx (min m m') p1 hp1 W hW (by omega))
          have Hpy := Lib.hid (fun W hW => pass_any w1.heap.size (w1.heap.size + 1) lb ky ny (min m m') p2 hp2 W hW (by omega))
          rw [hra] at Hpx
          rw [hrb] at Hpy
          have hZ1 := pass_Z (p := .d m) (l := r) (n := min m m') (by simp only [P.z]; omega)
          have hZ2 := pass_Z (p := .k m') (l := s) (n := min m m') (by simp only [P.z]; omega)
          have hF1 := pass_F (p := .d m) (l := r) (n := min m m') rfl (by simp only [P.z]; omega)
          have hF2 := pass_F (p := .k m') (l := s) (n := min m m') rfl (by simp only [P.z]; omega)
          have hR1 := foldl_bound hP hbX
          have hR2 := foldl_bound hQ hbY
          rw [FS_addP, TS_addP] at hR1
          have hsR : FS Rp + TS Rp ≤ 100000 := by omega
          have hsQ : FS Rq + TS Rq ≤ 100000 := by omega
          have hmm : m ≤ 100000 := by
            have h3 := hy.f
            have h4 := hx.f
            have h5 := P.one_le (List.mem_of_getElem? hp1)
            have h6 := P.z_le p1
            have h7 := hx.t
            omega
          have Hend : Hid (∀ W S T cs ct kx' nx' ky' ny' vp' vq', remOf la kx' nx' = pass (.d m :: r) (min m m') → remOf lb ky' ny' = pass (.k m' :: s) (min m m') → Env w w1.heap.size S T la lb kx' nx' ky' ny' (addP Rp (.d (min m m'))) (Rq) vp' vq' cs ct W → Tst w w1.heap.size la lb (build X) (build Y) f W) :=
            fun W S T cs ct kx' nx' ky' ny' vp' vq' he1 he2 E => E.tst (by rw [he1, he2]; omega) (by rw [he1, he2]; omega) (by rw [he1, he2]; exact hP) (by rw [he1, he2]; exact hQ)
          unfold headV at PX PY
          simp only [P.part, partV] at PX PY
          have hmin : min (m : Int) (m' : Int) = ((min m m' : Nat) : Int) := by omega
          have Hmin := Lib.hid hmin
          have hm100 : min m m' ≤ 100000 := by omega
          clear hx hy hp hq hap hra hrb hpc1 hpc2 hr1 hr2 hP hQ hF hz hpz1 hpz2 oa ob hfs hR1 hR2 hp1 hp2 hZ1 hZ2 hF1 hF2 hmin hmm
          generalize hmg : min m m' = mn at *
          have Hmg := Lib.hid hmg
          clear hmg
          go_wp2_with fail
          refine PX.out.mono ?_
          rintro e w2 ⟨rfl, u2⟩
          have U2 := Lib.hid u2
          clear u2
          go_wp2_with fail
          refine (PY.out _ (up U2.out ((Below.refl _ _).alloc (Nat.le_refl _) _))).mono ?_
          rintro e w3 ⟨rfl, u3⟩
          have xs := (Blk.new w2 (.cells #[.int .i64 3, .int .i64 (m : Int), .string (noText)] 110)).go u3
          have s0 : w3.cell? ⟨w2.heap.size, 0, none⟩ = some (.int .i64 3) := xs.cell 0
          have s1 : w3.cell? ⟨w2.heap.size, 1, none⟩ = some (.int .i64 (m : Int)) := xs.cell 1
          have s2 : w3.cell? ⟨w2.heap.size, 2, none⟩ = some (.string (noText)) := xs.cell 2
          have hsl := xs.lt
          have hsl2 : w2.heap.size ≠ w3.heap.size := by omega
          have HE := Lib.hid (Start.out w2 w3 _ (.cells #[.int .i64 1, .int .i64 (m' : Int), .string (noText)] 110) U2.out u3)
          clear xs u3 PX PY
          go_wp2_with fail
          rw [Hmin.out]
          refine abs_run (fun W => Env w w1.heap.size w2.heap.size w3.heap.size la lb kx nx ky ny Rp Rq vp vq (.cells #[.int .i64 3, .int .i64 (m : Int), .string (noText)] 110) (.cells #[.int .i64 1, .int .i64 (m' : Int), .string (noText)] 110) W) HE.out ?_
          intro w5 E5
          have F5 := Lib.hid E5
          clear E5 s0 s1 s2 HE
          refine (bremove w1.heap.size (w1.heap.size + 4) (w1.heap.size + 2) Rp vp mn _ F5.out.p hsR hm100 (by have := F5.out.sz; omega)).mono ?_
          intro e w6 hadd
          obtain ⟨rfl, vp', E6⟩ := F5.out.putP hadd
          have F6 := Lib.hid E6
          clear hadd E6 F5
          have d0s : w6.cell? ⟨w2.heap.size, 0, none⟩ = some (.int .i64 3) := F6.out.s.cell 0
          have d1s : w6.cell? ⟨w2.heap.size, 1, none⟩ = some (.int .i64 (m : Int)) := F6.out.s.cell 1
          have d2s : w6.cell? ⟨w2.heap.size, 2, none⟩ = some (.string (noText)) := F6.out.s.cell 2
          have d0t : w6.cell? ⟨w3.heap.size, 0, none⟩ = some (.int .i64 1) := F6.out.t.cell 0
          have d1t : w6.cell? ⟨w3.heap.size, 1, none⟩ = some (.int .i64 (m' : Int)) := F6.out.t.cell 1
          have d2t : w6.cell? ⟨w3.heap.size, 2, none⟩ = some (.string (noText)) := F6.out.t.cell 2
          go_wp2_with fail
          clear d0s d1s d2s
          clear d0t d1t d2t
          refine (Hpx.out _ F6.out.x).mono ?_
          intro e w7 h7
          obtain ⟨rfl, hT, kx', nx', hW, hremx⟩ := h7
          have F7 := Lib.hid (F6.out.passX hT hW)
          have Hremx := Lib.hid hremx
          clear hT hW hremx F6
          go_wp2_with fail
          refine (Hpy.out _ F7.out.y).mono ?_
          intro e w8 h8
          obtain ⟨rfl, hT, ky', ny', hW, hremy⟩ := h8
          have F8 := Lib.hid (F7.out.passY hT hW)
          have Hremy := Lib.hid hremy
          clear hT hW hremy F7
          go_wp2_with fail
          go_roundg f
          case measure => omega
          case rel => exact Hend.out _ _ _ _ _ _ _ _ _ _ _ Hremx.out Hremy.out F8.out
        | d m' =>
          have hnz : 1 ≤ min m m' := by have h1 := P.ok_z (allOk_cons.1 (hra ▸ oa)).1; have h2 := P.ok_z (allOk_cons.1 (hrb ▸ ob)).1; simp only [P.z] at h1 h2; omega
          obtain ⟨f, rfl⟩ : ∃ f, gk = f + 1 := ⟨gk - 1, by rw [hra] at hz; have := ZS_pos (l := r) (allOk_cons.1 (hra ▸ oa)).1; omega⟩
          rw [hra, hrb] at hz hF hP hQ
          rw [hra] at PX
          rw [hrb] at PY
          rw [xf_2 _ _ _ _ _ rfl rfl] at hP hQ
          simp only [xe1, xe2, List.cons_append, List.nil_append, List.foldl_cons, P.z] at hP hQ
          obtain ⟨p1, hp1, hpc1, hr1⟩ := rem_head hra
          obtain ⟨p2, hp2, hpc2, hr2⟩ := rem_head hrb
          have hpz1 : p1.z - nx = m := by rw [← P.cut_z, hpc1]; rfl
          have hpz2 : p2.z - ny = m' := by rw [← P.cut_z, hpc2]; rfl
          have Hpx := Lib.hid (fun W hW => pass_any w1.heap.size w1.heap.size la kx nx (min m m') p1 hp1 W hW (by omega))
          have Hpy := Lib.hid (fun W hW => pass_any w1.heap.size (w1.heap.size + 1) lb ky ny (min m m') p2 hp2 W hW (by omega))
          rw [hra] at Hpx
          rw [hrb] at Hpy
          have hZ1 := pass_Z (p := .d m) (l := r) (n := min m m') (by simp only [P.z]; omega)
          have hZ2 := pass_Z (p := .d m') (l := s) (n := min m m') (by simp only [P.z]; omega)
          have hF1 := pass_F (p := .d m) (l := r) (n := min m m') rfl (by simp only [P.z]; omega)
          have hF2 := pass_F (p := .d m') (l := s) (n := min m m') rfl (by simp only [P.z]; omega)
          have hR1 := foldl_bound hP hbX
          have hR2 := foldl_bound hQ hbY
          have hsR : FS Rp + TS Rp ≤ 100000 := by omega
          have hsQ : FS Rq + TS Rq ≤ 100000 := by omega
          have hmm : m ≤ 100000 := by
            have h3 := hy.f
            have h4 := hx.f
            have h5 := P.one_le (List.mem_of_getElem? hp1)
            have h6 := P.z_le p1
            have h7 := hx.t
            omega
          have Hend : Hid (∀ W S T cs ct kx' nx' ky' ny' vp' vq', remOf la kx' nx' = pass (.d m :: r) (min m m') → remOf lb ky' ny' = pass (.d m' :: s) (min m m') → Env w w1.heap.size S T la lb kx' nx' ky' ny' (Rp) (Rq) vp' vq' cs ct W → Tst w w1.heap.size la lb (build X) (build Y) f W) :=
            fun W S T cs ct kx' nx' ky' ny' vp' vq' he1 he2 E => E.tst (by rw [he1, he2]; omega) (by rw [he1, he2]; omega) (by rw [he1, he2]; exact hP) (by rw [he1, he2]; exact hQ)
          unfold headV at PX PY
          simp only [P.part, partV] at PX PY
          have hmin : min (m : Int) (m' : Int) = ((min m m' : Nat) : Int) := by omega
          have Hmin := Lib.hid hmin
          have hm100 : min m m' ≤ 100000 := by omega
          clear hx hy hp hq hap hra hrb hpc1 hpc2 hr1 hr2 hP hQ hF hz hpz1 hpz2 oa ob hfs hR1 hR2 hp1 hp2 hZ1 hZ2 hF1 hF2 hmin hmm
          generalize hmg : min m m' = mn at *
          have Hmg := Lib.hid hmg
          clear hmg
          go_wp2_with fail
          refine PX.out.mono ?_
          rintro e w2 ⟨rfl, u2⟩
          have U2 := Lib.hid u2
          clear u2
          go_wp2_with fail
          refine (PY.out _ (up U2.out ((Below.refl _ _).alloc (Nat.le_refl _) _))).mono ?_
          rintro e w3 ⟨rfl, u3⟩
          have xs := (Blk.new w2 (.cells #[.int .i64 3, .int .i64 (m : Int), .string (noText)] 110)).go u3
          have s0 : w3.cell? ⟨w2.heap.size, 0, none⟩ = some (.int .i64 3) := xs.cell 0
          have s1 : w3.cell? ⟨w2.heap.size, 1, none⟩ = some (.int .i64 (m : Int)) := xs.cell 1
          have s2 : w3.cell? ⟨w2.heap.size, 2, none⟩ = some (.string (noText)) := xs.cell 2
          have hsl := xs.lt
          have hsl2 : w2.heap.size ≠ w3.heap.size := by omega
          have HE := Lib.hid (Start.out w2 w3 _ (.cells #[.int .i64 3, .int .i64 (m' : Int), .string (noText)] 110) U2.out u3)
          clear xs u3 PX PY
          go_wp2_with fail
          rw [Hmin.out]
          refine abs_run (fun W => Env w w1.heap.size w2.heap.size w3.heap.size la lb kx nx ky ny Rp Rq vp vq (.cells #[.int .i64 3, .int .i64 (m : Int), .string (noText)] 110) (.cells #[.int .i64 3, .int .i64 (m' : Int), .string (noText)] 110) W) HE.out ?_
          intro w5 E5
          have F5 := Lib.hid E5
          clear E5 s0 s1 s2 HE
          refine (Hpx.out _ F5.out.x).mono ?_
          intro e w6 h6
          obtain ⟨rfl, hT, kx', nx', hW, hremx⟩ := h6
          have F6 := Lib.hid (F5.out.passX hT hW)
          have Hremx := Lib.hid hremx
          clear hT hW hremx F5
          go_wp2_with fail
          refine (Hpy.out _ F6.out.y).mono ?_
          intro e w7 h7
          obtain ⟨rfl, hT, ky', ny', hW, hremy⟩ := h7
          have F7 := Lib.hid (F6.out.passY hT hW)
          have Hremy := Lib.hid hremy
          clear hT hW hremy F6
          go_wp2_with fail
          go_roundg f
          case measure => omega
          case rel => exact Hend.out _ _ _ _ _ _ _ _ _ _ _ Hremx.out Hremy.out F7.out
theorem transform_ok (o q : Op) (a b : Option Addr) (n c m d : Nat) (w : World) (hg : Good w) (h1 : RdS (· < w.heap.size) w o a n c) (h2 : RdS (· < w.heap.size) w q b m d) (hb : bothE o q = 0)
    (hT : TS (xf (ZS (opP o) + ZS (opP q)) (opP o) (opP q)).1 ≤ 4000) :
    Calls Tryd.prog 55 #[.slice a n c, .slice b m d] w (TrPost (xf (ZS (opP o) + ZS (opP q)) (opP o) (opP q)).1 (xf (ZS (opP o) + ZS (opP q)) (opP o) (opP q)).2 w) := by
  obtain ⟨e1, e2, e3⟩ := bothE_zero.1 hb
  have hI1 := opIs e1
  have hI2 := opIs e2
  have hs1 := (check_zero e1).2.2
  have hs2 := (check_zero e2).2.2
  have hFF : FS (opP o) = FS (opP q) := by have := hI1.f; have := hI2.f; omega
  obtain ⟨l1, l2, l3, l4, l5, _⟩ := xf_laws _ _ _ hI1.ok hI2.ok hFF (Nat.le_refl _)
  have htq : (TS (opP q) : Int) = sumT q := hI2.t.symm
  have hto : (TS (opP o) : Int) = sumT o := hI1.t.symm
  have hf1 : FS (xf (ZS (opP o) + ZS (opP q)) (opP o) (opP q)).1 ≤ 4000 := by omega
  have hf2 : FS (xf (ZS (opP o) + ZS (opP q)) (opP o) (opP q)).2 ≤ 4000 := by omega
  have hE : fitE (opOfP (xf (ZS (opP o) + ZS (opP q)) (opP o) (opP q)).1) (opOfP (xf (ZS (opP o) + ZS (opP q)) (opP o) (opP q)).2) = 0 := by
    unfold fitE
    rw [opOfP_check l1 hf1 hT, opOfP_check l2 hf2 (by omega)]
    rfl
  exact (transform_any o q a b n c m d w hg h1 h2 hb).mono fun e w' h => h.1 hE
end Go.Proofs.YtkhacogeffidoaaDoor
