/- The walk of text.Compose. -/
import Derived.Test.YtajijhnnnekhmaaDoorCo
import Derived.Test.YtajijhnnnekhmaaDoorTrLaw
import Derived.Deep.LoopGhost
set_option linter.unusedSimpArgs false
namespace Go.Proofs.YtajijhnnnekhmaaDoor
open Go.RowKit

/-- an operation of the call's own -/
def CoPost (X : List P) (w : World) (e : Ending) (w' : World) : Prop :=
  ∃ (a1 : Option Addr) (c1 : Nat), e = .returned (.tuple #[.slice a1 (opOfP X).length c1, .int .i64 0]) ∧
    RdS (fun z => w.heap.size ≤ z ∧ z < w'.heap.size) w' (opOfP X) a1 (opOfP X).length c1 ∧ Below w.heap.size w w'

set_option maxRecDepth 100000 in
set_option maxHeartbeats 10000000 in
theorem compose_ok (o q : Op) (a b : Option Addr) (n c m d : Nat) (w : World) (hg : Good w) (h1 : RdS (· < w.heap.size) w o a n c) (h2 : RdS (· < w.heap.size) w q b m d) (e1 : check o = 0) (e2 : check q = 0) (e3 : sumT o = sumF q) :
    Calls Tryd.prog 21 #[.slice a n c, .slice b m d] w (CoPost (cf (ZS (opP o) + ZS (opP q)) (opP o) (opP q)) w) := by
  have C1 := Lib.hid (check_go o a n c w hg h1)
  have C2 := Lib.hid (fun W (hW : Below w.heap.size w W) => check_go q b m d W (hg.go hW) (h2.go hW))
  rw [e1] at C1
  rw [e2] at C2
  have L1 := Lib.hid (fun W (hW : Below w.heap.size w W) => lengths_go o a n c W (h1.go hW) e1)
  have L2 := Lib.hid (fun W (hW : Below w.heap.size w W) => lengths_go q b m d W (h2.go hW) e2)
  rw [e3] at L1
  have hI1 := opIs e1
  have hI2 := opIs e2
  have hs1 := (check_zero e1).2.2
  have hs2 := (check_zero e2).2.2
  have htq : (TS (opP q) : Int) = sumT q := hI2.t.symm
  have hto : (FS (opP o) : Int) = sumF o := hI1.f.symm
  have hFF : TS (opP o) = FS (opP q) := by have := hI1.t; have := hI2.f; omega
  obtain ⟨l1, l2, l3, _⟩ := cf_laws _ _ _ hI1.ok hI2.ok hFF (Nat.le_refl _)
  have hNew1 := fun (D : Nat) (W : World) (bb : Nat) (hr : RdS (fun z => z < D) W o a n c) => Wk.new e1 hr (b := bb)
  have hNew2 := fun (D : Nat) (W : World) (bb : Nat) (hr : RdS (fun z => z < D) W q b m d) => Wk.new e2 hr (b := bb)
  generalize hX : cf (ZS (opP o) + ZS (opP q)) (opP o) (opP q) = X at *
  have Hst : Hid (∀ w1, Below w.heap.size w w1 → ∀ W2, Below w1.heap.size w1 W2 → Blk w1.heap.size (.cells #[.slice a n c, .int .i64 0, .int .i64 0] 78 (0, 0)) W2 → Blk (w1.heap.size + 1) (.cells #[.slice b m d, .int .i64 0, .int .i64 0] 78 (0, 0)) W2 →
      Blk (w1.heap.size + 1 + 1) (.cells #[.slice none 0 0] 73 (0, 0)) W2 → Cst w w1.heap.size (opP o) (opP q) (build X) (ZS (opP o) + ZS (opP q)) W2) := by
    unfold Hid
    intro w1 hw1 W2 hW2 b1 b2 b3
    have hz := hw1.size
    refine ⟨0, 0, 0, 0, [], .slice none 0 0, hNew1 w1.heap.size W2 _ ?_ b1 (Nat.le_refl _) (by omega), hNew2 w1.heap.size W2 _ ?_ b2 (by omega) (by omega), ⟨⟨by omega, b3, World.ownsRow_nil _ _ _ _, by simp [Value.ownBlock]⟩, trivial, fun g hg => by cases hg⟩,
      b3.lt, up hw1 hW2, hz, ?_, ?_, ?_⟩
    · exact ((h1.go hw1).mono fun z hz => ⟨hz, hW2.block z hz⟩)
    · exact ((h2.go hw1).mono fun z hz => ⟨hz, hW2.block z hz⟩)
    · rw [remOf_zero, remOf_zero]; exact Nat.le_refl _
    · rw [remOf_zero, remOf_zero]; exact hFF
    · rw [remOf_zero, remOf_zero]; exact congrArg build hX
  have hbX : FS (build X) + TS (build X) ≤ 20000 := by rw [build_FS, build_TS]; omega
  have Hchk : Hid (∀ W (ax : Option Addr) (cx : Nat), Good W → RdS (· < W.heap.size) W (opOfP X) ax (opOfP X).length cx →
      Calls Tryd.prog 24 #[.slice ax (opOfP X).length cx] W fun e w' => e = .returned (.int .i64 0) ∧ Below W.heap.size W w') := by
    intro W ax cx hg hx
    have := check_go (opOfP X) ax (opOfP X).length cx W hg hx
    rw [opOfP_check l1 (by omega) (by omega)] at this
    exact this
  generalize opP o = la at *
  generalize opP q = lb at *
  clear hNew1 hNew2 hX hI1 hI2 hs1 hs2 hFF l1 l2 l3 htq hto h1 h2 e1 e2 e3
  generalize sumF o = so at *
  generalize sumF q = sq at *
  generalize sumT q = tq at *
  go_enter Tryd.func21, Tryd.ntmps21
  go_wp2_with fail
  refine C1.out.mono ?_
  rintro e v1 ⟨rfl, u1⟩
  have V1 := Lib.hid u1
  clear C1 u1
  go_wp2_with fail
  refine (C2.out _ V1.out).mono ?_
  rintro e v2 ⟨rfl, u2⟩
  have V2 := Lib.hid (up V1.out u2)
  clear C2 u2 V1
  go_wp2_with fail
  refine (L1.out _ V2.out).mono ?_
  rintro e v3 ⟨rfl, u3⟩
  have V3 := Lib.hid (up V2.out u3)
  clear L1 u3 V2
  go_wp2_with fail
  refine (L2.out _ V3.out).mono ?_
  rintro e w1 ⟨rfl, u4⟩
  have V4 := Lib.hid (up V3.out u4)
  clear L2 u4 V3
  go_wp2_with fail
  refine abs_w (fun W => Cst w w1.heap.size la lb (build X) (ZS la + ZS lb) W) (Hst.out w1 V4.out _ ?_ ?_ ?_ ?_) ?_
  · (repeat (first | exact Below.refl _ _ | assumption | (refine Below.drew ?_) | (refine below_drewN ?_ _) | (refine Below.alloc ?_ (by first | (simp; done) | (simp; omega) | omega) _) | (refine Below.setCell ?_ (by first | (simp; done) | (simp; omega) | omega) _) | (refine Below.trans ?_ (Below.mono (by assumption) (by first | (simp; done) | (simp; omega) | omega)))))
  · exact ((Blk.new _ _).alloc _).alloc _
  · exact (Blk.at _ _ _ (by simp)).alloc _
  · exact Blk.at _ _ _ (by simp)
  intro W2 hst
  have HS := Lib.hid hst
  clear hst Hst
  have hgW : Hid (∀ W, Below w.heap.size w W → Good W) := fun W hW => hg.go hW
  go_loopg [] (ZS la + ZS lb) (fun f wr => Cst w w1.heap.size la lb (build X) f wr)
  case atStart => exact HS.out
  case round =>
    obtain ⟨kx, nx, ky, ny, Rp, vp, hx, hy, hp, hsz, hbw, hwb, hz, hF, hP⟩ := hrel
    clear HS
    have oa := hx.rem_ok
    have ob := hy.rem_ok
    have PX := Lib.hid (wpart_any w1.heap.size w1.heap.size la kx nx wr hx)
    have PY := Lib.hid (fun W (hW : Below wr.heap.size wr W) => wpart_any w1.heap.size (w1.heap.size + 1) lb ky ny W (hy.go hW))
    have Start := Lib.hid (fun w2 w3 cs ct u2 u3 => Co.start (w2 := w2) (w3 := w3) hx hy hp hsz hbw hwb cs ct u2 u3)
    rcases two_ways' oa ob hF with ⟨hra, hrb⟩ | ⟨t, r, hra⟩ | ⟨t, r, hrb, hne⟩ | ⟨xx, r, yy, s, hra, hrb, hxi, hyi⟩
    · -- both are at their end
      rw [hra] at PX
      rw [hrb] at PY
      rw [hra, hrb, cf_nil] at hP
      simp only [List.foldl_nil] at hP
      subst hP
      unfold headV at PX PY
      simp only [partV] at PX PY
      have RX := hp.bag.rd (can_fit hp.can (by omega)) (A := fun z => w.heap.size ≤ z ∧ z < wr.heap.size) (fun g hg => ⟨by have := (hp.bag.rowlt g hg).1; omega, by have := (hp.bag.rowlt g hg).2; omega⟩)
      rw [← List.map_reverse] at RX
      obtain ⟨ax, cx, rfl, hrx⟩ := RX
      have bX := hp.bag.blk
      have HRX : Hid (RdS (fun z => w.heap.size ≤ z ∧ z < wr.heap.size) wr (opOfP X) ax (opOfP X).length cx) := hrx
      have BX : Hid (Blk (w1.heap.size + 2) (.cells #[.slice ax (opOfP X).length cx] 73 (0, 0)) wr) := bX
      have Hbw := Lib.hid hbw
      clear hx hy hp hra hrb hF hz oa ob bX hrx hbX hbw Start
      generalize hlx : (opOfP X).length = lx at *
      go_wp2_with fail
      refine PX.out.mono ?_
      rintro e w2 ⟨rfl, u2⟩
      have U2 := Lib.hid u2
      clear u2
      go_wp2_with fail
      refine (PY.out _ (up U2.out ((Below.refl _ _).alloc (Nat.le_refl _) _))).mono ?_
      rintro e w3 ⟨rfl, u3⟩
      have U3 := Lib.hid u3
      clear u3 PX PY
      have u5 := up U2.out (up ((Below.refl _ _).alloc (Nat.le_refl _) (.cells #[.int .i64 0, .int .i64 0, .string noText] 45)) (up U3.out ((Below.refl _ _).alloc (Nat.le_refl _) (.cells #[.int .i64 0, .int .i64 0, .string noText] 45))))
      have c0 := (BX.out.go u5).cell 0
      simp only [List.getElem?_toArray, List.getElem?_cons_zero] at c0
      have U5 := Lib.hid u5
      clear u5
      go_wp2_with fail
      refine (Hchk.out _ ax cx (hgW.out _ (up Hbw.out U5.out)) ((HRX.out.freshB U5.out).wide fun b hb => hb.2)).mono ?_
      rintro e w6 ⟨rfl, u6⟩
      have c1 : w6.cell? ⟨w1.heap.size + 1 + 1, 0, none⟩ = some (.slice ax lx cx) := (BX.out.go (up U5.out u6)).cell 0
      have HPo : Hid (CoPost X w (.returned (.tuple #[.slice ax lx cx, .int .i64 0])) w6) := by
        unfold Hid
        subst hlx
        exact ⟨ax, cx, rfl, HRX.out.freshB (up U5.out u6), up Hbw.out (up U5.out u6)⟩
      clear c0 u6 U5 HRX BX Hbw hlx
      generalize CoPost X w = CP at *
      go_wp2_with fail
      exact HPo.out
    · -- the first one deletes
      obtain ⟨p, hp', hpc, hr⟩ := rem_head hra
      have htok : (P.d t).ok := (allOk_cons.1 (hra ▸ oa)).1
      rw [hra] at hz hF hP PX
      obtain ⟨f, rfl⟩ : ∃ f, gk = f + 1 := ⟨gk - 1, by have := ZS_pos (l := r) htok; omega⟩
      rw [cf_d] at hP
      simp only [List.foldl_cons] at hP
      simp only [ZS, P.z] at hz
      have htz := P.ok_z htok
      have hR1 := foldl_bound hP hbX
      rw [FS_addP, TS_addP] at hR1
      have htl : t ≤ 100000 := by simp only [P.F, P.T] at hR1; omega
      have hsR : FS Rp + TS Rp ≤ 100000 := by omega
      obtain ⟨tk, tn, tt, tb, htv⟩ := headV_form (remOf lb ky ny)
      rw [htv] at PY
      have hpz : p.z - nx = t := by rw [← P.cut_z, hpc]; rfl
      have hrem : pass (.d t :: r) t = r := pass_eq rfl
      have Hpass := Lib.hid (fun W hW => pass_any w1.heap.size w1.heap.size la kx nx t p hp' W hW (by omega))
      rw [hra, hrem] at Hpass
      have Hend : Hid (∀ W S T cs ct kx' nx' vp', remOf la kx' nx' = r → Co w w1.heap.size S T la lb kx' nx' ky ny (addP Rp (.d t)) vp' cs ct W → Cst w w1.heap.size la lb (build X) f W) :=
        fun W S T cs ct kx' nx' vp' he E => E.cst (by rw [he]; simp only [P.z] at htz; omega) (by rw [he]; simpa [TS, P.T] using hF) (by rw [he]; exact hP)
      unfold headV at PX
      simp only [P.part, partV] at PX
      simp only [P.z] at htz
      clear hx hy hp hra hpc hr hP hF hz htok htv hpz hrem hp' oa ob hR1
      go_wp2_with fail
      refine PX.out.mono ?_
      rintro e w2 ⟨rfl, u2⟩
      have U2 := Lib.hid u2
      clear u2
      go_wp2_with fail
      refine (PY.out _ (up U2.out ((Below.refl _ _).alloc (Nat.le_refl _) _))).mono ?_
      rintro e w3 ⟨rfl, u3⟩
      have xs := (Blk.new w2 (.cells #[.int .i64 3, .int .i64 (t : Int), .string (noText)] 45)).go u3
      have s0 : w3.cell? ⟨w2.heap.size, 0, none⟩ = some (.int .i64 3) := xs.cell 0
      have s1 : w3.cell? ⟨w2.heap.size, 1, none⟩ = some (.int .i64 (t : Int)) := xs.cell 1
      have s2 : w3.cell? ⟨w2.heap.size, 2, none⟩ = some (.string (noText)) := xs.cell 2
      have hsl := xs.lt
      have hsl2 : w2.heap.size ≠ w3.heap.size := by omega
      have HE := Lib.hid (Start.out w2 w3 _ (.cells #[.int .i64 tk, .int .i64 tn, .string (tt)] 45) U2.out u3)
      clear xs u3 PX PY
      go_wp2_with fail
      refine abs_run (fun W => Co w w1.heap.size w2.heap.size w3.heap.size la lb kx nx ky ny Rp vp (.cells #[.int .i64 3, .int .i64 (t : Int), .string (noText)] 45) (.cells #[.int .i64 tk, .int .i64 tn, .string (tt)] 45) W) HE.out ?_
      intro w5 E5
      have F5 := Lib.hid E5
      clear E5 s0 s1 s2 HE
      refine (bremove w1.heap.size (w1.heap.size + 3) (w1.heap.size + 2) Rp vp t _ F5.out.p hsR htl (by have := F5.out.sz; omega)).mono ?_
      intro e w6 hadd
      obtain ⟨rfl, vp', E6⟩ := F5.out.putP hadd
      have F6 := Lib.hid E6
      clear hadd E6 F5
      have d0s : w6.cell? ⟨w2.heap.size, 0, none⟩ = some (.int .i64 3) := F6.out.s.cell 0
      have d1s : w6.cell? ⟨w2.heap.size, 1, none⟩ = some (.int .i64 (t : Int)) := F6.out.s.cell 1
      have d2s : w6.cell? ⟨w2.heap.size, 2, none⟩ = some (.string (noText)) := F6.out.s.cell 2
      go_wp2_with fail
      clear d0s d1s d2s
      refine (Hpass.out _ F6.out.x).mono ?_
      intro e w7 h7
      obtain ⟨rfl, hT, kx', nx', hW, hremx⟩ := h7
      have F7 := Lib.hid (F6.out.passX hT hW)
      have Hremx := Lib.hid hremx
      clear hT hW hremx F6
      go_wp2_with fail
      go_roundg f
      case measure => omega
      case rel => exact Hend.out _ _ _ _ _ _ _ _ Hremx.out F7.out
    · -- the second one inserts
      obtain ⟨p, hp', hpc, hr⟩ := rem_head hrb
      have htok : (P.i t).ok := (allOk_cons.1 (hrb ▸ ob)).1
      obtain ⟨sk, sn, ss, sb, hsv, hs2⟩ := headV_nodel hne
      rw [hsv] at PX
      rw [hrb] at hz hF hP PY
      obtain ⟨f, rfl⟩ : ∃ f, gk = f + 1 := ⟨gk - 1, by have := ZS_pos (l := r) htok; omega⟩
      rw [cf_i _ _ _ _ hne] at hP
      simp only [List.foldl_cons] at hP
      simp only [ZS, P.z] at hz
      have htz := P.ok_z htok
      have hR1 := foldl_bound hP hbX
      rw [FS_addP, TS_addP] at hR1
      have htl : t.length ≤ 100000 := by simp only [P.F, P.T] at hR1; omega
      have hsR : FS Rp + TS Rp ≤ 100000 := by omega
      have HSz := Lib.hid (fun W => size_P (.i t) htok (by simp only [P.z]; omega) W)
      have hpz : p.z - ny = t.length := by rw [← P.cut_z, hpc]; rfl
      have hrem : pass (.i t :: r) t.length = r := pass_eq rfl
      have Hpass := Lib.hid (fun W hW => pass_any w1.heap.size (w1.heap.size + 1) lb ky ny t.length p hp' W hW (by omega))
      rw [hrb, hrem] at Hpass
      have Hend : Hid (∀ W S T cs ct ky' ny' vp', remOf lb ky' ny' = r → Co w w1.heap.size S T la lb kx nx ky' ny' (addP Rp (.i t)) vp' cs ct W → Cst w w1.heap.size la lb (build X) f W) :=
        fun W S T cs ct ky' ny' vp' he E => E.cst (by rw [he]; simp only [P.z] at htz; omega) (by rw [he]; simpa [FS, P.F] using hF) (by rw [he]; exact hP)
      unfold headV at PY
      simp only [P.part, partV] at PY HSz
      simp only [P.z] at HSz htz
      have Hvr := Lib.hid htok.2
      clear hx hy hp hrb hpc hr hP hF hz htok hsv hpz hrem hp' oa ob hR1 hne
      cases sb
      all_goals
        go_wp2_with fail
        refine PX.out.mono ?_
        rintro e w2 ⟨rfl, u2⟩
        have U2 := Lib.hid u2
        clear u2
        go_wp2_with fail
        refine (PY.out _ (up U2.out ((Below.refl _ _).alloc (Nat.le_refl _) _))).mono ?_
        rintro e w3 ⟨rfl, u3⟩
        have xs := (Blk.new w2 (.cells #[.int .i64 sk, .int .i64 sn, .string (ss)] 45)).go u3
        have s0 : w3.cell? ⟨w2.heap.size, 0, none⟩ = some (.int .i64 sk) := xs.cell 0
        have s1 : w3.cell? ⟨w2.heap.size, 1, none⟩ = some (.int .i64 sn) := xs.cell 1
        have s2 : w3.cell? ⟨w2.heap.size, 2, none⟩ = some (.string (ss)) := xs.cell 2
        have hsl := xs.lt
        have hsl2 : w2.heap.size ≠ w3.heap.size := by omega
        have HE := Lib.hid (Start.out w2 w3 _ (.cells #[.int .i64 2, .int .i64 0, .string (Uni.enc t)] 45) U2.out u3)
        clear xs u3 PX PY
        go_wp2_with fail
        refine abs_run (fun W => Co w w1.heap.size w2.heap.size w3.heap.size la lb kx nx ky ny Rp vp (.cells #[.int .i64 sk, .int .i64 sn, .string (ss)] 45) (.cells #[.int .i64 2, .int .i64 0, .string (Uni.enc t)] 45) W) HE.out ?_
        intro w5 E5
        have F5 := Lib.hid E5
        clear E5 s0 s1 s2 HE
        refine (binsert w1.heap.size (w1.heap.size + 3) (w1.heap.size + 2) Rp vp t _ F5.out.p hsR htl Hvr.out (by have := F5.out.sz; omega)).mono ?_
        intro e w6 hadd
        obtain ⟨rfl, vp', E6⟩ := F5.out.putP hadd
        have F6 := Lib.hid E6
        clear hadd E6 F5
        have d0t : w6.cell? ⟨w3.heap.size, 0, none⟩ = some (.int .i64 2) := F6.out.t.cell 0
        have d1t : w6.cell? ⟨w3.heap.size, 1, none⟩ = some (.int .i64 0) := F6.out.t.cell 1
        have d2t : w6.cell? ⟨w3.heap.size, 2, none⟩ = some (.string (Uni.enc t)) := F6.out.t.cell 2
        go_wp2_with fail
        clear d0t d1t d2t
        refine (HSz.out _).mono ?_
        intro e w7 h7
        obtain ⟨rfl, u7⟩ := h7
        have F7 := Lib.hid (F6.out.go u7)
        clear u7 F6
        go_wp2_with fail
        refine (Hpass.out _ F7.out.y).mono ?_
        intro e w8 h8
        obtain ⟨rfl, hT, ky', ny', hW, hremy⟩ := h8
        have F8 := Lib.hid (F7.out.passY hT hW)
        have Hremy := Lib.hid hremy
        clear hT hW hremy F7
        go_wp2_with fail
        go_roundg f
        case measure => omega
        case rel => exact Hend.out _ _ _ _ _ _ _ _ Hremy.out F8.out
    · cases xx with
      | d t => cases hxi
      | k m =>
        cases yy with
        | i t => cases hyi
        | k m' =>
          have hnz : 1 ≤ min m m' := by have h1 := P.ok_z (allOk_cons.1 (hra ▸ oa)).1; have h2 := P.ok_z (allOk_cons.1 (hrb ▸ ob)).1; simp only [P.z] at h1 h2; omega
          have htok : (P.k m).ok := (allOk_cons.1 (hra ▸ oa)).1
          obtain ⟨f, rfl⟩ : ∃ f, gk = f + 1 := ⟨gk - 1, by rw [hra] at hz; have := ZS_pos (l := r) (allOk_cons.1 (hra ▸ oa)).1; omega⟩
          rw [hra, hrb] at hz hF hP
          rw [hra] at PX
          rw [hrb] at PY
          rw [cf_2 _ _ _ _ _ rfl rfl] at hP
          simp only [ce, List.cons_append, List.nil_append, List.foldl_cons, P.z] at hP
          obtain ⟨p1, hp1, hpc1, hr1⟩ := rem_head hra
          obtain ⟨p2, hp2, hpc2, hr2⟩ := rem_head hrb
          have hpz1 : p1.z - nx = m := by rw [← P.cut_z, hpc1]; rfl
          have hpz2 : p2.z - ny = m' := by rw [← P.cut_z, hpc2]; rfl
          have Hpx := Lib.hid (fun W hW => pass_any w1.heap.size w1.heap.size la kx nx (min m m') p1 hp1 W hW (by omega))
          have Hpy := Lib.hid (fun W hW => pass_any w1.heap.size (w1.heap.size + 1) lb ky ny (min m m') p2 hp2 W hW (by omega))
          rw [hra] at Hpx
          rw [hrb] at Hpy
          have hZ1 := pass_Z (p := .k m) (l := r) (n := min m m') (by simp only [P.z]; omega)
          have hZ2 := pass_Z (p := .k m') (l := s) (n := min m m') (by simp only [P.z]; omega)
          have hF1 := pass_Tk (m := m) (l := r) (n := min m m') (by omega)
          have hF2 := pass_F (p := .k m') (l := s) (n := min m m') rfl (by simp only [P.z]; omega)
          have hR1 := foldl_bound hP hbX
          rw [FS_addP, TS_addP] at hR1
          have hsR : FS Rp + TS Rp ≤ 100000 := by omega
          have hmm : m ≤ 100000 := by
            have h4 := hx.f
            have h5 := P.one_le (List.mem_of_getElem? hp1)
            have h6 := P.z_le p1
            have h7 := hx.t
            omega
          have HSz := Lib.hid (fun W => size_P (.k m) htok (by simp only [P.z]; omega) W)
          have Hend : Hid (∀ W S T cs ct kx' nx' ky' ny' vp', remOf la kx' nx' = pass (.k m :: r) (min m m') → remOf lb ky' ny' = pass (.k m' :: s) (min m m') → Co w w1.heap.size S T la lb kx' nx' ky' ny' (addP Rp (.k (min m m'))) vp' cs ct W → Cst w w1.heap.size la lb (build X) f W) :=
            fun W S T cs ct kx' nx' ky' ny' vp' he1 he2 E => E.cst (by rw [he1, he2]; omega) (by rw [he1, he2]; omega) (by rw [he1, he2]; exact hP)
          unfold headV at PX PY
          simp only [P.part, partV] at PX PY HSz
          simp only [P.z] at HSz
          have hmin : min ((m : Nat) : Int) (m' : Int) = ((min m m' : Nat) : Int) := by omega
          have Hmin := Lib.hid hmin
          have hm100 : min m m' ≤ 100000 := by omega
          have hmz : min m m' ≤ m := by omega
          clear hx hy hp hra hrb hpc1 hpc2 hr1 hr2 hP hF hz hpz1 hpz2 oa ob hR1 hp1 hp2 hZ1 hZ2 hF1 hF2 hmin htok
          generalize hmg : min m m' = mn at *
          have Hmg := Lib.hid hmg
          clear hmg
          go_wp2_with fail
          refine PX.out.mono ?_
          rintro e w2 ⟨rfl, u2⟩
          have U2 := Lib.hid u2
          clear u2
          go_wp2_with fail
          refine (PY.out _ (up U2.out ((Below.refl _ _).alloc (Nat.le_refl _) _))).mono ?_
          rintro e w3 ⟨rfl, u3⟩
          have xs := (Blk.new w2 (.cells #[.int .i64 1, .int .i64 (m : Int), .string (noText)] 45)).go u3
          have s0 : w3.cell? ⟨w2.heap.size, 0, none⟩ = some (.int .i64 1) := xs.cell 0
          have s1 : w3.cell? ⟨w2.heap.size, 1, none⟩ = some (.int .i64 (m : Int)) := xs.cell 1
          have s2 : w3.cell? ⟨w2.heap.size, 2, none⟩ = some (.string (noText)) := xs.cell 2
          have hsl := xs.lt
          have hsl2 : w2.heap.size ≠ w3.heap.size := by omega
          have HE := Lib.hid (Start.out w2 w3 _ (.cells #[.int .i64 1, .int .i64 (m' : Int), .string (noText)] 45) U2.out u3)
          clear xs u3 PX PY
          go_wp2_with fail
          refine abs_w (fun W => Co w w1.heap.size w2.heap.size w3.heap.size la lb kx nx ky ny Rp vp (.cells #[.int .i64 1, .int .i64 (m : Int), .string (noText)] 45) (.cells #[.int .i64 1, .int .i64 (m' : Int), .string (noText)] 45) W) HE.out ?_
          intro w5 E5
          have F5 := Lib.hid E5
          clear E5 s0 s1 s2 HE
          refine region_lit2 (by kernel_rfl) (by kernel_rfl) (by kernel_rfl) [[], [0], [], [2], [0, 1, 2, 3], [0, 1, 2, 3, 4]] (by kernel_rfl) [some 62, some 63, some 64, some 65, some 66, some 20] (by kernel_rfl) [false, false, false, false, false, true] (by kernel_rfl)
            (fun W => Below w5.heap.size w5 W)
            (fun i v W => match i with
              | 0 => v = .agg #[.int .i64 1, .int .i64 (m : Int), .string (noText)]
              | 1 => v = .int .i64 ((m : Nat) : Int)
              | 2 => v = .pointer (some ⟨w3.heap.size, 1, none⟩)
              | 3 => v = .int .i64 (m' : Int)
              | 4 => v = .int .i64 (mn : Int)
              | _ => v = .int .i64 (mn : Int))
            (fun W W' => Below W.heap.size W W')
            [fun x => ⟨#[undef, undef, undef, undef, undef, undef, undef, undef, undef, undef, undef, undef, undef, undef, undef, .pointer (some ⟨w2.heap.size, 0, none⟩), undef, undef, undef, undef, undef, undef, undef, undef, undef, undef, undef, undef, undef, undef, undef, undef, undef, undef, undef, undef, undef, undef, undef, undef, undef, undef, undef, undef, undef, undef, undef, undef, undef, undef, undef, undef, undef, undef, undef, undef, undef, undef, undef, undef, undef, undef, undef], []⟩,
   fun x => ⟨#[undef, undef, undef, undef, undef, undef, undef, undef, undef, undef, undef, undef, undef, undef, undef, undef, undef, undef, undef, undef, undef, undef, undef, undef, undef, undef, undef, undef, undef, undef, undef, undef, undef, undef, undef, undef, undef, undef, undef, undef, undef, undef, undef, undef, undef, undef, undef, undef, undef, undef, undef, undef, undef, undef, undef, undef, undef, undef, undef, undef, undef, undef, x 0, undef], []⟩,
   fun x => ⟨#[undef, undef, undef, undef, undef, undef, undef, undef, undef, undef, undef, undef, undef, undef, undef, undef, undef, .pointer (some ⟨w3.heap.size, 0, none⟩), undef, undef, undef, undef, undef, undef, undef, undef, undef, undef, undef, undef, undef, undef, undef, undef, undef, undef, undef, undef, undef, undef, undef, undef, undef, undef, undef, undef, undef, undef, undef, undef, undef, undef, undef, undef, undef, undef, undef, undef, undef, undef, undef, undef, undef, undef, undef], []⟩,
   fun x => ⟨#[undef, undef, undef, undef, undef, undef, undef, undef, undef, undef, undef, undef, undef, undef, undef, undef, undef, undef, undef, undef, undef, undef, undef, undef, undef, undef, undef, undef, undef, undef, undef, undef, undef, undef, undef, undef, undef, undef, undef, undef, undef, undef, undef, undef, undef, undef, undef, undef, undef, undef, undef, undef, undef, undef, undef, undef, undef, undef, undef, undef, undef, undef, undef, undef, x 2, undef], []⟩,
   fun x => ⟨#[undef, undef, undef, undef, undef, undef, undef, undef, undef, undef, undef, undef, undef, undef, undef, undef, undef, undef, undef, undef, undef, undef, undef, undef, undef, undef, undef, undef, undef, undef, undef, undef, undef, undef, undef, undef, undef, undef, undef, undef, undef, undef, undef, undef, undef, undef, undef, undef, undef, undef, undef, undef, undef, undef, undef, undef, undef, undef, undef, undef, undef, undef, undef, x 1, undef, x 3, undef], []⟩,
   fun x => ⟨#[undef, undef, undef, undef, undef, undef, undef, undef, undef, undef, undef, undef, undef, undef, undef, undef, undef, undef, undef, undef, undef, undef, undef, undef, undef, undef, undef, undef, undef, undef, undef, undef, undef, undef, undef, undef, undef, undef, undef, undef, undef, undef, undef, undef, undef, undef, undef, undef, undef, undef, undef, undef, undef, undef, undef, undef, undef, undef, undef, undef, undef, undef, undef, undef, undef, undef, x 4], []⟩]
            ?hF ?mono ?h0 ?step ?fin
          case hF =>
            exact ⟨fun x => ⟨by kernel_rfl, by kernel_rfl⟩, fun x => ⟨by kernel_rfl, by kernel_rfl⟩, fun x => ⟨by kernel_rfl, by kernel_rfl⟩, fun x => ⟨by kernel_rfl, by kernel_rfl⟩, fun x => ⟨by kernel_rfl, by kernel_rfl⟩, fun x => ⟨by kernel_rfl, by kernel_rfl⟩, trivial⟩
          case mono =>
            intro i hi v W W' hE hv
            match i, hi with
            | 0, _ | 1, _ | 2, _ | 3, _ | 4, _ => exact hv
            | m + 5, h => exact absurd h (by cases m <;> simp)
          case h0 => first | exact (Below.refl _ _).drew | exact Below.drew (by assumption) | (refine Below.drew ?_; assumption)
          case step =>
            refine ⟨?_, ?_, ?_, ?_, ?_, ?_, trivial⟩
            all_goals
              intro x W hI hV
              simp only [AllV, and_true] at hV
            · clear hV
              (try dsimp only)
              have b5 := F5.out.s.go hI
              have d0 : W.cell? ⟨w2.heap.size, 0, none⟩ = some (.int .i64 1) := b5.cell 0
              have d1 : W.cell? ⟨w2.heap.size, 1, none⟩ = some (.int .i64 (m : Int)) := b5.cell 1
              have d2 : W.cell? ⟨w2.heap.size, 2, none⟩ = some (.string (noText)) := b5.cell 2
              have HI := Lib.hid hI
              clear hI b5
              go_wp2_with fail
              exact step_done rfl HI.out (Below.refl _ _) rfl
            · have u0 := hV
              clear hV
              simp only [u0]
              clear u0
              have HI := Lib.hid hI
              clear hI
              go_wp2_with fail
              refine (HSz.out _).mono ?_
              rintro e W' ⟨rfl, uW⟩
              have HW := Lib.hid (up HI.out uW)
              have HU := Lib.hid uW
              clear uW
              go_wp2_with fail
              exact step_done rfl HW.out HU.out rfl
            · clear hV
              (try dsimp only)
              go_wp2_with fail
              exact step_done rfl hI (Below.refl _ _) rfl
            · have u2 := hV
              clear hV
              simp only [u2]
              clear u2
              have b5 := F5.out.t.go hI
              have d1 : W.cell? ⟨w3.heap.size, 1, none⟩ = some (.int .i64 (m' : Int)) := b5.cell 1
              have HI := Lib.hid hI
              clear hI b5
              go_wp2_with fail
              exact step_done rfl HI.out (Below.refl _ _) rfl
            · obtain ⟨u0, u1, u2, u3⟩ := hV
              simp only [u1, u3]
              clear u0 u1 u2 u3
              have HI := Lib.hid hI
              clear hI
              go_wp2_with fail
              exact step_done (by rw [Hmin.out]; rfl) HI.out (Below.refl _ _) rfl
            · obtain ⟨u0, u1, u2, u3, u4⟩ := hV
              simp only [u4]
              clear u0 u1 u2 u3 u4
              go_wp2_with fail
              exact step_done rfl hI (Below.refl _ _) rfl
          case fin =>
            intro x W hI hV
            simp only [AllV, and_true, List.length_cons, List.length_nil, List.range, List.range.loop] at hV
            obtain ⟨u0, u1, u2, u3, u4, u5⟩ := hV
            simp only [getsD, List.getD_cons_succ, List.getD_cons_zero, List.length_cons, List.length_nil, List.range, List.range.loop, u0, u1, u2, u3, u4, u5, Act.put, List.setIfInBounds_toArray, List.set_cons_succ, List.set_cons_zero]
            clear u0 u1 u2 u3 u4 u5
            have F6 := Lib.hid (F5.out.go hI)
            clear hI F5
            generalize W = w6 at *
            have d0s : w6.cell? ⟨w2.heap.size, 0, none⟩ = some (.int .i64 1) := F6.out.s.cell 0
            have d1s : w6.cell? ⟨w2.heap.size, 1, none⟩ = some (.int .i64 (m : Int)) := F6.out.s.cell 1
            have d2s : w6.cell? ⟨w2.heap.size, 2, none⟩ = some (.string (noText)) := F6.out.s.cell 2
            have d0t : w6.cell? ⟨w3.heap.size, 0, none⟩ = some (.int .i64 1) := F6.out.t.cell 0
            have d1t : w6.cell? ⟨w3.heap.size, 1, none⟩ = some (.int .i64 (m' : Int)) := F6.out.t.cell 1
            have d2t : w6.cell? ⟨w3.heap.size, 2, none⟩ = some (.string (noText)) := F6.out.t.cell 2
            go_wp2_with fail
            clear d0s d1s d2s
            clear d0t d1t d2t
            refine (bkeep w1.heap.size (w1.heap.size + 3) (w1.heap.size + 2) Rp vp mn _ F6.out.p hsR hm100 (by have := F6.out.sz; omega)).mono ?_
            intro e w7 hadd
            obtain ⟨rfl, vp', E7⟩ := F6.out.putP hadd
            have F7 := Lib.hid E7
            clear hadd E7 F6
            go_wp2_with fail
            refine (Hpx.out _ F7.out.x).mono ?_
            intro e w8 h8
            obtain ⟨rfl, hT, kx', nx', hW, hremx⟩ := h8
            have F8 := Lib.hid (F7.out.passX hT hW)
            have Hremx := Lib.hid hremx
            clear hT hW hremx F7
            go_wp2_with fail
            refine (Hpy.out _ F8.out.y).mono ?_
            intro e w9 h9
            obtain ⟨rfl, hT, ky', ny', hW, hremy⟩ := h9
            have F9 := Lib.hid (F8.out.passY hT hW)
            have Hremy := Lib.hid hremy
            clear hT hW hremy F8
            go_wp2_with fail
            go_roundg f
            case measure => omega
            case rel => exact Hend.out _ _ _ _ _ _ _ _ _ _ Hremx.out Hremy.out F9.out
        | d m' =>
          have hnz : 1 ≤ min m m' := by have h1 := P.ok_z (allOk_cons.1 (hra ▸ oa)).1; have h2 := P.ok_z (allOk_cons.1 (hrb ▸ ob)).1; simp only [P.z] at h1 h2; omega
          have htok : (P.k m).ok := (allOk_cons.1 (hra ▸ oa)).1
          obtain ⟨f, rfl⟩ : ∃ f, gk = f + 1 := ⟨gk - 1, by rw [hra] at hz; have := ZS_pos (l := r) (allOk_cons.1 (hra ▸ oa)).1; omega⟩
          rw [hra, hrb] at hz hF hP
          rw [hra] at PX
          rw [hrb] at PY
          rw [cf_2 _ _ _ _ _ rfl rfl] at hP
          simp only [ce, List.cons_append, List.nil_append, List.foldl_cons, P.z] at hP
          obtain ⟨p1, hp1, hpc1, hr1⟩ := rem_head hra
          obtain ⟨p2, hp2, hpc2, hr2⟩ := rem_head hrb
          have hpz1 : p1.z - nx = m := by rw [← P.cut_z, hpc1]; rfl
          have hpz2 : p2.z - ny = m' := by rw [← P.cut_z, hpc2]; rfl
          have Hpx := Lib.hid (fun W hW => pass_any w1.heap.size w1.heap.size la kx nx (min m m') p1 hp1 W hW (by omega))
          have Hpy := Lib.hid (fun W hW => pass_any w1.heap.size (w1.heap.size + 1) lb ky ny (min m m') p2 hp2 W hW (by omega))
          rw [hra] at Hpx
          rw [hrb] at Hpy
          have hZ1 := pass_Z (p := .k m) (l := r) (n := min m m') (by simp only [P.z]; omega)
          have hZ2 := pass_Z (p := .d m') (l := s) (n := min m m') (by simp only [P.z]; omega)
          have hF1 := pass_Tk (m := m) (l := r) (n := min m m') (by omega)
          have hF2 := pass_F (p := .d m') (l := s) (n := min m m') rfl (by simp only [P.z]; omega)
          have hR1 := foldl_bound hP hbX
          rw [FS_addP, TS_addP] at hR1
          have hsR : FS Rp + TS Rp ≤ 100000 := by omega
          have hmm : m ≤ 100000 := by
            have h4 := hx.f
            have h5 := P.one_le (List.mem_of_getElem? hp1)
            have h6 := P.z_le p1
            have h7 := hx.t
            omega
          have HSz := Lib.hid (fun W => size_P (.k m) htok (by simp only [P.z]; omega) W)
          have Hend : Hid (∀ W S T cs ct kx' nx' ky' ny' vp', remOf la kx' nx' = pass (.k m :: r) (min m m') → remOf lb ky' ny' = pass (.d m' :: s) (min m m') → Co w w1.heap.size S T la lb kx' nx' ky' ny' (addP Rp (.d (min m m'))) vp' cs ct W → Cst w w1.heap.size la lb (build X) f W) :=
            fun W S T cs ct kx' nx' ky' ny' vp' he1 he2 E => E.cst (by rw [he1, he2]; omega) (by rw [he1, he2]; omega) (by rw [he1, he2]; exact hP)
          unfold headV at PX PY
          simp only [P.part, partV] at PX PY HSz
          simp only [P.z] at HSz
          have hmin : min ((m : Nat) : Int) (m' : Int) = ((min m m' : Nat) : Int) := by omega
          have Hmin := Lib.hid hmin
          have hm100 : min m m' ≤ 100000 := by omega
          have hmz : min m m' ≤ m := by omega
          clear hx hy hp hra hrb hpc1 hpc2 hr1 hr2 hP hF hz hpz1 hpz2 oa ob hR1 hp1 hp2 hZ1 hZ2 hF1 hF2 hmin htok
          generalize hmg : min m m' = mn at *
          have Hmg := Lib.hid hmg
          clear hmg
          go_wp2_with fail
          refine PX.out.mono ?_
          rintro e w2 ⟨rfl, u2⟩
          have U2 := Lib.hid u2
          clear u2
          go_wp2_with fail
          refine (PY.out _ (up U2.out ((Below.refl _ _).alloc (Nat.le_refl _) _))).mono ?_
          rintro e w3 ⟨rfl, u3⟩
          have xs := (Blk.new w2 (.cells #[.int .i64 1, .int .i64 (m : Int), .string (noText)] 45)).go u3
          have s0 : w3.cell? ⟨w2.heap.size, 0, none⟩ = some (.int .i64 1) := xs.cell 0
          have s1 : w3.cell? ⟨w2.heap.size, 1, none⟩ = some (.int .i64 (m : Int)) := xs.cell 1
          have s2 : w3.cell? ⟨w2.heap.size, 2, none⟩ = some (.string (noText)) := xs.cell 2
          have hsl := xs.lt
          have hsl2 : w2.heap.size ≠ w3.heap.size := by omega
          have HE := Lib.hid (Start.out w2 w3 _ (.cells #[.int .i64 3, .int .i64 (m' : Int), .string (noText)] 45) U2.out u3)
          clear xs u3 PX PY
          go_wp2_with fail
          refine abs_w (fun W => Co w w1.heap.size w2.heap.size w3.heap.size la lb kx nx ky ny Rp vp (.cells #[.int .i64 1, .int .i64 (m : Int), .string (noText)] 45) (.cells #[.int .i64 3, .int .i64 (m' : Int), .string (noText)] 45) W) HE.out ?_
          intro w5 E5
          have F5 := Lib.hid E5
          clear E5 s0 s1 s2 HE
          refine region_lit2 (by kernel_rfl) (by kernel_rfl) (by kernel_rfl) [[], [0], [], [2], [0, 1, 2, 3], [0, 1, 2, 3, 4]] (by kernel_rfl) [some 62, some 63, some 64, some 65, some 66, some 20] (by kernel_rfl) [false, false, false, false, false, true] (by kernel_rfl)
            (fun W => Below w5.heap.size w5 W)
            (fun i v W => match i with
              | 0 => v = .agg #[.int .i64 1, .int .i64 (m : Int), .string (noText)]
              | 1 => v = .int .i64 ((m : Nat) : Int)
              | 2 => v = .pointer (some ⟨w3.heap.size, 1, none⟩)
              | 3 => v = .int .i64 (m' : Int)
              | 4 => v = .int .i64 (mn : Int)
              | _ => v = .int .i64 (mn : Int))
            (fun W W' => Below W.heap.size W W')
            [fun x => ⟨#[undef, undef, undef, undef, undef, undef, undef, undef, undef, undef, undef, undef, undef, undef, undef, .pointer (some ⟨w2.heap.size, 0, none⟩), undef, undef, undef, undef, undef, undef, undef, undef, undef, undef, undef, undef, undef, undef, undef, undef, undef, undef, undef, undef, undef, undef, undef, undef, undef, undef, undef, undef, undef, undef, undef, undef, undef, undef, undef, undef, undef, undef, undef, undef, undef, undef, undef, undef, undef, undef, undef], []⟩,
   fun x => ⟨#[undef, undef, undef, undef, undef, undef, undef, undef, undef, undef, undef, undef, undef, undef, undef, undef, undef, undef, undef, undef, undef, undef, undef, undef, undef, undef, undef, undef, undef, undef, undef, undef, undef, undef, undef, undef, undef, undef, undef, undef, undef, undef, undef, undef, undef, undef, undef, undef, undef, undef, undef, undef, undef, undef, undef, undef, undef, undef, undef, undef, undef, undef, x 0, undef], []⟩,
   fun x => ⟨#[undef, undef, undef, undef, undef, undef, undef, undef, undef, undef, undef, undef, undef, undef, undef, undef, undef, .pointer (some ⟨w3.heap.size, 0, none⟩), undef, undef, undef, undef, undef, undef, undef, undef, undef, undef, undef, undef, undef, undef, undef, undef, undef, undef, undef, undef, undef, undef, undef, undef, undef, undef, undef, undef, undef, undef, undef, undef, undef, undef, undef, undef, undef, undef, undef, undef, undef, undef, undef, undef, undef, undef, undef], []⟩,
   fun x => ⟨#[undef, undef, undef, undef, undef, undef, undef, undef, undef, undef, undef, undef, undef, undef, undef, undef, undef, undef, undef, undef, undef, undef, undef, undef, undef, undef, undef, undef, undef, undef, undef, undef, undef, undef, undef, undef, undef, undef, undef, undef, undef, undef, undef, undef, undef, undef, undef, undef, undef, undef, undef, undef, undef, undef, undef, undef, undef, undef, undef, undef, undef, undef, undef, undef, x 2, undef], []⟩,
   fun x => ⟨#[undef, undef, undef, undef, undef, undef, undef, undef, undef, undef, undef, undef, undef, undef, undef, undef, undef, undef, undef, undef, undef, undef, undef, undef, undef, undef, undef, undef, undef, undef, undef, undef, undef, undef, undef, undef, undef, undef, undef, undef, undef, undef, undef, undef, undef, undef, undef, undef, undef, undef, undef, undef, undef, undef, undef, undef, undef, undef, undef, undef, undef, undef, undef, x 1, undef, x 3, undef], []⟩,
   fun x => ⟨#[undef, undef, undef, undef, undef, undef, undef, undef, undef, undef, undef, undef, undef, undef, undef, undef, undef, undef, undef, undef, undef, undef, undef, undef, undef, undef, undef, undef, undef, undef, undef, undef, undef, undef, undef, undef, undef, undef, undef, undef, undef, undef, undef, undef, undef, undef, undef, undef, undef, undef, undef, undef, undef, undef, undef, undef, undef, undef, undef, undef, undef, undef, undef, undef, undef, undef, x 4], []⟩]
            ?hF ?mono ?h0 ?step ?fin
          case hF =>
            exact ⟨fun x => ⟨by kernel_rfl, by kernel_rfl⟩, fun x => ⟨by kernel_rfl, by kernel_rfl⟩, fun x => ⟨by kernel_rfl, by kernel_rfl⟩, fun x => ⟨by kernel_rfl, by kernel_rfl⟩, fun x => ⟨by kernel_rfl, by kernel_rfl⟩, fun x => ⟨by kernel_rfl, by kernel_rfl⟩, trivial⟩
          case mono =>
            intro i hi v W W' hE hv
            match i, hi with
            | 0, _ | 1, _ | 2, _ | 3, _ | 4, _ => exact hv
            | m + 5, h => exact absurd h (by cases m <;> simp)
          case h0 => first | exact (Below.refl _ _).drew | exact Below.drew (by assumption) | (refine Below.drew ?_; assumption)
          case step =>
            refine ⟨?_, ?_, ?_, ?_, ?_, ?_, trivial⟩
            all_goals
              intro x W hI hV
              simp only [AllV, and_true] at hV
            · clear hV
              (try dsimp only)
              have b5 := F5.out.s.go hI
              have d0 : W.cell? ⟨w2.heap.size, 0, none⟩ = some (.int .i64 1) := b5.cell 0
              have d1 : W.cell? ⟨w2.heap.size, 1, none⟩ = some (.int .i64 (m : Int)) := b5.cell 1
              have d2 : W.cell? ⟨w2.heap.size, 2, none⟩ = some (.string (noText)) := b5.cell 2
              have HI := Lib.hid hI
              clear hI b5
              go_wp2_with fail
              exact step_done rfl HI.out (Below.refl _ _) rfl
            · have u0 := hV
              clear hV
              simp only [u0]
              clear u0
              have HI := Lib.hid hI
              clear hI
              go_wp2_with fail
              refine (HSz.out _).mono ?_
              rintro e W' ⟨rfl, uW⟩
              have HW := Lib.hid (up HI.out uW)
              have HU := Lib.hid uW
              clear uW
              go_wp2_with fail
              exact step_done rfl HW.out HU.out rfl
            · clear hV
              (try dsimp only)
              go_wp2_with fail
              exact step_done rfl hI (Below.refl _ _) rfl
            · have u2 := hV
              clear hV
              simp only [u2]
              clear u2
              have b5 := F5.out.t.go hI
              have d1 : W.cell? ⟨w3.heap.size, 1, none⟩ = some (.int .i64 (m' : Int)) := b5.cell 1
              have HI := Lib.hid hI
              clear hI b5
              go_wp2_with fail
              exact step_done rfl HI.out (Below.refl _ _) rfl
            · obtain ⟨u0, u1, u2, u3⟩ := hV
              simp only [u1, u3]
              clear u0 u1 u2 u3
              have HI := Lib.hid hI
              clear hI
              go_wp2_with fail
              exact step_done (by rw [Hmin.out]; rfl) HI.out (Below.refl _ _) rfl
            · obtain ⟨u0, u1, u2, u3, u4⟩ := hV
              simp only [u4]
              clear u0 u1 u2 u3 u4
              go_wp2_with fail
              exact step_done rfl hI (Below.refl _ _) rfl
          case fin =>
            intro x W hI hV
            simp only [AllV, and_true, List.length_cons, List.length_nil, List.range, List.range.loop] at hV
            obtain ⟨u0, u1, u2, u3, u4, u5⟩ := hV
            simp only [getsD, List.getD_cons_succ, List.getD_cons_zero, List.length_cons, List.length_nil, List.range, List.range.loop, u0, u1, u2, u3, u4, u5, Act.put, List.setIfInBounds_toArray, List.set_cons_succ, List.set_cons_zero]
            clear u0 u1 u2 u3 u4 u5
            have F6 := Lib.hid (F5.out.go hI)
            clear hI F5
            generalize W = w6 at *
            have d0s : w6.cell? ⟨w2.heap.size, 0, none⟩ = some (.int .i64 1) := F6.out.s.cell 0
            have d1s : w6.cell? ⟨w2.heap.size, 1, none⟩ = some (.int .i64 (m : Int)) := F6.out.s.cell 1
            have d2s : w6.cell? ⟨w2.heap.size, 2, none⟩ = some (.string (noText)) := F6.out.s.cell 2
            have d0t : w6.cell? ⟨w3.heap.size, 0, none⟩ = some (.int .i64 3) := F6.out.t.cell 0
            have d1t : w6.cell? ⟨w3.heap.size, 1, none⟩ = some (.int .i64 (m' : Int)) := F6.out.t.cell 1
            have d2t : w6.cell? ⟨w3.heap.size, 2, none⟩ = some (.string (noText)) := F6.out.t.cell 2
            go_wp2_with fail
            clear d0s d1s d2s
            clear d0t d1t d2t
            refine (bremove w1.heap.size (w1.heap.size + 3) (w1.heap.size + 2) Rp vp mn _ F6.out.p hsR hm100 (by have := F6.out.sz; omega)).mono ?_
            intro e w7 hadd
            obtain ⟨rfl, vp', E7⟩ := F6.out.putP hadd
            have F7 := Lib.hid E7
            clear hadd E7 F6
            go_wp2_with fail
            refine (Hpx.out _ F7.out.x).mono ?_
            intro e w8 h8
            obtain ⟨rfl, hT, kx', nx', hW, hremx⟩ := h8
            have F8 := Lib.hid (F7.out.passX hT hW)
            have Hremx := Lib.hid hremx
            clear hT hW hremx F7
            go_wp2_with fail
            refine (Hpy.out _ F8.out.y).mono ?_
            intro e w9 h9
            obtain ⟨rfl, hT, ky', ny', hW, hremy⟩ := h9
            have F9 := Lib.hid (F8.out.passY hT hW)
            have Hremy := Lib.hid hremy
            clear hT hW hremy F8
            go_wp2_with fail
            go_roundg f
            case measure => omega
            case rel => exact Hend.out _ _ _ _ _ _ _ _ _ _ Hremx.out Hremy.out F9.out
      | i m =>
        cases yy with
        | i t => cases hyi
        | k m' =>
          have hnz : 1 ≤ min m.length m' := by have h1 := P.ok_z (allOk_cons.1 (hra ▸ oa)).1; have h2 := P.ok_z (allOk_cons.1 (hrb ▸ ob)).1; simp only [P.z] at h1 h2; omega
          have htok : (P.i m).ok := (allOk_cons.1 (hra ▸ oa)).1
          obtain ⟨f, rfl⟩ : ∃ f, gk = f + 1 := ⟨gk - 1, by rw [hra] at hz; have := ZS_pos (l := r) (allOk_cons.1 (hra ▸ oa)).1; omega⟩
          rw [hra, hrb] at hz hF hP
          rw [hra] at PX
          rw [hrb] at PY
          rw [cf_2 _ _ _ _ _ rfl rfl] at hP
          simp only [ce, List.cons_append, List.nil_append, List.foldl_cons, P.z] at hP
          obtain ⟨p1, hp1, hpc1, hr1⟩ := rem_head hra
          obtain ⟨p2, hp2, hpc2, hr2⟩ := rem_head hrb
          have hpz1 : p1.z - nx = m.length := by rw [← P.cut_z, hpc1]; rfl
          have hpz2 : p2.z - ny = m' := by rw [← P.cut_z, hpc2]; rfl
          have Hpx := Lib.hid (fun W hW => pass_any w1.heap.size w1.heap.size la kx nx (min m.length m') p1 hp1 W hW (by omega))
          have Hpy := Lib.hid (fun W hW => pass_any w1.heap.size (w1.heap.size + 1) lb ky ny (min m.length m') p2 hp2 W hW (by omega))
          rw [hra] at Hpx
          rw [hrb] at Hpy
          have hZ1 := pass_Z (p := .i m) (l := r) (n := min m.length m') (by simp only [P.z]; omega)
          have hZ2 := pass_Z (p := .k m') (l := s) (n := min m.length m') (by simp only [P.z]; omega)
          have hF1 := pass_Ti (t := m) (l := r) (n := min m.length m') (by omega)
          have hF2 := pass_F (p := .k m') (l := s) (n := min m.length m') rfl (by simp only [P.z]; omega)
          have hR1 := foldl_bound hP hbX
          rw [FS_addP, TS_addP] at hR1
          have hsR : FS Rp + TS Rp ≤ 100000 := by omega
          have hmm : m.length ≤ 100000 := by
            have h4 := hx.f
            have h5 := P.one_le (List.mem_of_getElem? hp1)
            have h6 := P.z_le p1
            have h7 := hx.t
            omega
          have HSz := Lib.hid (fun W => size_P (.i m) htok (by simp only [P.z]; omega) W)
          have Hend : Hid (∀ W S T cs ct kx' nx' ky' ny' vp', remOf la kx' nx' = pass (.i m :: r) (min m.length m') → remOf lb ky' ny' = pass (.k m' :: s) (min m.length m') → Co w w1.heap.size S T la lb kx' nx' ky' ny' (addP Rp (.i (m.take (min m.length m')))) vp' cs ct W → Cst w w1.heap.size la lb (build X) f W) :=
            fun W S T cs ct kx' nx' ky' ny' vp' he1 he2 E => E.cst (by rw [he1, he2]; omega) (by rw [he1, he2]; omega) (by rw [he1, he2]; exact hP)
          unfold headV at PX PY
          simp only [P.part, partV] at PX PY HSz
          simp only [P.z] at HSz
          have hmin : min ((m.length : Nat) : Int) (m' : Int) = ((min m.length m' : Nat) : Int) := by omega
          have Hmin := Lib.hid hmin
          have hm100 : min m.length m' ≤ 100000 := by omega
          have hmz : min m.length m' ≤ m.length := by omega
          have Hvr := Lib.hid htok.2
          have hrt : rns (Uni.enc m) = m := rns_enc htok.2
          have hez := enc_size m htok.2
          have hm70 : (Uni.enc m).size ≤ 70368744177664 := by omega
          obtain ⟨RR, hRRz, hRR, hconv⟩ := runes_of (Uni.enc m) hm70
          rw [hrt] at hconv hRR
          have HRR := Lib.hid hRR
          have Hconv := Lib.hid hconv
          clear hrt hez hm70 hRRz hRR hconv
          clear hx hy hp hra hrb hpc1 hpc2 hr1 hr2 hP hF hz hpz1 hpz2 oa ob hR1 hp1 hp2 hZ1 hZ2 hF1 hF2 hmin htok
          generalize hmg : min m.length m' = mn at *
          have Hmg := Lib.hid hmg
          clear hmg
          go_wp2_with fail
          refine PX.out.mono ?_
          rintro e w2 ⟨rfl, u2⟩
          have U2 := Lib.hid u2
          clear u2
          go_wp2_with fail
          refine (PY.out _ (up U2.out ((Below.refl _ _).alloc (Nat.le_refl _) _))).mono ?_
          rintro e w3 ⟨rfl, u3⟩
          have xs := (Blk.new w2 (.cells #[.int .i64 2, .int .i64 0, .string (Uni.enc m)] 45)).go u3
          have s0 : w3.cell? ⟨w2.heap.size, 0, none⟩ = some (.int .i64 2) := xs.cell 0
          have s1 : w3.cell? ⟨w2.heap.size, 1, none⟩ = some (.int .i64 0) := xs.cell 1
          have s2 : w3.cell? ⟨w2.heap.size, 2, none⟩ = some (.string (Uni.enc m)) := xs.cell 2
          have hsl := xs.lt
          have hsl2 : w2.heap.size ≠ w3.heap.size := by omega
          have HE := Lib.hid (Start.out w2 w3 _ (.cells #[.int .i64 1, .int .i64 (m' : Int), .string (noText)] 45) U2.out u3)
          clear xs u3 PX PY
          go_wp2_with fail
          refine abs_w (fun W => Co w w1.heap.size w2.heap.size w3.heap.size la lb kx nx ky ny Rp vp (.cells #[.int .i64 2, .int .i64 0, .string (Uni.enc m)] 45) (.cells #[.int .i64 1, .int .i64 (m' : Int), .string (noText)] 45) W) HE.out ?_
          intro w5 E5
          have F5 := Lib.hid E5
          clear E5 s0 s1 s2 HE
          refine region_lit2 (by kernel_rfl) (by kernel_rfl) (by kernel_rfl) [[], [0], [], [2], [0, 1, 2, 3], [0, 1, 2, 3, 4]] (by kernel_rfl) [some 62, some 63, some 64, some 65, some 66, some 20] (by kernel_rfl) [false, false, false, false, false, true] (by kernel_rfl)
            (fun W => Below w5.heap.size w5 W)
            (fun i v W => match i with
              | 0 => v = .agg #[.int .i64 2, .int .i64 0, .string (Uni.enc m)]
              | 1 => v = .int .i64 ((m.length : Nat) : Int)
              | 2 => v = .pointer (some ⟨w3.heap.size, 1, none⟩)
              | 3 => v = .int .i64 (m' : Int)
              | 4 => v = .int .i64 (mn : Int)
              | _ => v = .int .i64 (mn : Int))
            (fun W W' => Below W.heap.size W W')
            [fun x => ⟨#[undef, undef, undef, undef, undef, undef, undef, undef, undef, undef, undef, undef, undef, undef, undef, .pointer (some ⟨w2.heap.size, 0, none⟩), undef, undef, undef, undef, undef, undef, undef, undef, undef, undef, undef, undef, undef, undef, undef, undef, undef, undef, undef, undef, undef, undef, undef, undef, undef, undef, undef, undef, undef, undef, undef, undef, undef, undef, undef, undef, undef, undef, undef, undef, undef, undef, undef, undef, undef, undef, undef], []⟩,
   fun x => ⟨#[undef, undef, undef, undef, undef, undef, undef, undef, undef, undef, undef, undef, undef, undef, undef, undef, undef, undef, undef, undef, undef, undef, undef, undef, undef, undef, undef, undef, undef, undef, undef, undef, undef, undef, undef, undef, undef, undef, undef, undef, undef, undef, undef, undef, undef, undef, undef, undef, undef, undef, undef, undef, undef, undef, undef, undef, undef, undef, undef, undef, undef, undef, x 0, undef], []⟩,
   fun x => ⟨#[undef, undef, undef, undef, undef, undef, undef, undef, undef, undef, undef, undef, undef, undef, undef, undef, undef, .pointer (some ⟨w3.heap.size, 0, none⟩), undef, undef, undef, undef, undef, undef, undef, undef, undef, undef, undef, undef, undef, undef, undef, undef, undef, undef, undef, undef, undef, undef, undef, undef, undef, undef, undef, undef, undef, undef, undef, undef, undef, undef, undef, undef, undef, undef, undef, undef, undef, undef, undef, undef, undef, undef, undef], []⟩,
   fun x => ⟨#[undef, undef, undef, undef, undef, undef, undef, undef, undef, undef, undef, undef, undef, undef, undef, undef, undef, undef, undef, undef, undef, undef, undef, undef, undef, undef, undef, undef, undef, undef, undef, undef, undef, undef, undef, undef, undef, undef, undef, undef, undef, undef, undef, undef, undef, undef, undef, undef, undef, undef, undef, undef, undef, undef, undef, undef, undef, undef, undef, undef, undef, undef, undef, undef, x 2, undef], []⟩,
   fun x => ⟨#[undef, undef, undef, undef, undef, undef, undef, undef, undef, undef, undef, undef, undef, undef, undef, undef, undef, undef, undef, undef, undef, undef, undef, undef, undef, undef, undef, undef, undef, undef, undef, undef, undef, undef, undef, undef, undef, undef, undef, undef, undef, undef, undef, undef, undef, undef, undef, undef, undef, undef, undef, undef, undef, undef, undef, undef, undef, undef, undef, undef, undef, undef, undef, x 1, undef, x 3, undef], []⟩,
   fun x => ⟨#[undef, undef, undef, undef, undef, undef, undef, undef, undef, undef, undef, undef, undef, undef, undef, undef, undef, undef, undef, undef, undef, undef, undef, undef, undef, undef, undef, undef, undef, undef, undef, undef, undef, undef, undef, undef, undef, undef, undef, undef, undef, undef, undef, undef, undef, undef, undef, undef, undef, undef, undef, undef, undef, undef, undef, undef, undef, undef, undef, undef, undef, undef, undef, undef, undef, undef, x 4], []⟩]
            ?hF ?mono ?h0 ?step ?fin
          case hF =>
            exact ⟨fun x => ⟨by kernel_rfl, by kernel_rfl⟩, fun x => ⟨by kernel_rfl, by kernel_rfl⟩, fun x => ⟨by kernel_rfl, by kernel_rfl⟩, fun x => ⟨by kernel_rfl, by kernel_rfl⟩, fun x => ⟨by kernel_rfl, by kernel_rfl⟩, fun x => ⟨by kernel_rfl, by kernel_rfl⟩, trivial⟩
          case mono =>
            intro i hi v W W' hE hv
            match i, hi with
            | 0, _ | 1, _ | 2, _ | 3, _ | 4, _ => exact hv
            | m + 5, h => exact absurd h (by cases m <;> simp)
          case h0 => first | exact (Below.refl _ _).drew | exact Below.drew (by assumption) | (refine Below.drew ?_; assumption)
          case step =>
            refine ⟨?_, ?_, ?_, ?_, ?_, ?_, trivial⟩
            all_goals
              intro x W hI hV
              simp only [AllV, and_true] at hV
            · clear hV
              (try dsimp only)
              have b5 := F5.out.s.go hI
              have d0 : W.cell? ⟨w2.heap.size, 0, none⟩ = some (.int .i64 2) := b5.cell 0
              have d1 : W.cell? ⟨w2.heap.size, 1, none⟩ = some (.int .i64 0) := b5.cell 1
              have d2 : W.cell? ⟨w2.heap.size, 2, none⟩ = some (.string (Uni.enc m)) := b5.cell 2
              have HI := Lib.hid hI
              clear hI b5
              go_wp2_with fail
              exact step_done rfl HI.out (Below.refl _ _) rfl
            · have u0 := hV
              clear hV
              simp only [u0]
              clear u0
              have HI := Lib.hid hI
              clear hI
              go_wp2_with fail
              refine (HSz.out _).mono ?_
              rintro e W' ⟨rfl, uW⟩
              have HW := Lib.hid (up HI.out uW)
              have HU := Lib.hid uW
              clear uW
              go_wp2_with fail
              exact step_done rfl HW.out HU.out rfl
            · clear hV
              (try dsimp only)
              go_wp2_with fail
              exact step_done rfl hI (Below.refl _ _) rfl
            · have u2 := hV
              clear hV
              simp only [u2]
              clear u2
              have b5 := F5.out.t.go hI
              have d1 : W.cell? ⟨w3.heap.size, 1, none⟩ = some (.int .i64 (m' : Int)) := b5.cell 1
              have HI := Lib.hid hI
              clear hI b5
              go_wp2_with fail
              exact step_done rfl HI.out (Below.refl _ _) rfl
            · obtain ⟨u0, u1, u2, u3⟩ := hV
              simp only [u1, u3]
              clear u0 u1 u2 u3
              have HI := Lib.hid hI
              clear hI
              go_wp2_with fail
              exact step_done (by rw [Hmin.out]; rfl) HI.out (Below.refl _ _) rfl
            · obtain ⟨u0, u1, u2, u3, u4⟩ := hV
              simp only [u4]
              clear u0 u1 u2 u3 u4
              go_wp2_with fail
              exact step_done rfl hI (Below.refl _ _) rfl
          case fin =>
            intro x W hI hV
            simp only [AllV, and_true, List.length_cons, List.length_nil, List.range, List.range.loop] at hV
            obtain ⟨u0, u1, u2, u3, u4, u5⟩ := hV
            simp only [getsD, List.getD_cons_succ, List.getD_cons_zero, List.length_cons, List.length_nil, List.range, List.range.loop, u0, u1, u2, u3, u4, u5, Act.put, List.setIfInBounds_toArray, List.set_cons_succ, List.set_cons_zero]
            clear u0 u1 u2 u3 u4 u5
            have F6 := Lib.hid (F5.out.go hI)
            clear hI F5
            generalize W = w6 at *
            have d0s : w6.cell? ⟨w2.heap.size, 0, none⟩ = some (.int .i64 2) := F6.out.s.cell 0
            have d1s : w6.cell? ⟨w2.heap.size, 1, none⟩ = some (.int .i64 0) := F6.out.s.cell 1
            have d2s : w6.cell? ⟨w2.heap.size, 2, none⟩ = some (.string (Uni.enc m)) := F6.out.s.cell 2
            have d0t : w6.cell? ⟨w3.heap.size, 0, none⟩ = some (.int .i64 1) := F6.out.t.cell 0
            have d1t : w6.cell? ⟨w3.heap.size, 1, none⟩ = some (.int .i64 (m' : Int)) := F6.out.t.cell 1
            have d2t : w6.cell? ⟨w3.heap.size, 2, none⟩ = some (.string (noText)) := F6.out.t.cell 2
            have hcv := Hconv.out w6
            have hgc1 := grownCap_ge w6 m.length 0 21
            have hgc2 : grownCap w6 m.length 0 21 ≤ maxLen := grownCap_le_maxLen w6 m.length 0 21 (by unfold maxLen; omega)
            unfold maxLen at hgc2
            have q1 := runesAt_new w6 RR (Array.replicate (grownCap w6 m.length 0 21 - m.length) (.int .i32 0)) m HRR.out 21
            have hcv2 := q1.conv 0 mn (grownCap w6 m.length 0 21) (by omega)
            rw [List.drop_zero] at hcv2
            have F7 := Lib.hid (F6.out.go (show Below w6.heap.size w6 (w6.alloc (.cells (RR ++ Array.replicate (grownCap w6 m.length 0 21 - m.length) (.int .i32 0)) 21)).drew from ((Below.refl _ _).alloc (Nat.le_refl _) _).drew))
            clear q1 F6
            go_wp2_with fail
            clear d0s d1s d2s
            clear d0t d1t d2t
            refine (binsert w1.heap.size (w1.heap.size + 3) (w1.heap.size + 2) Rp vp (m.take mn) _ F7.out.p hsR (by rw [List.length_take]; omega) (fun r h => Hvr.out r (List.mem_of_mem_take h)) (by have := F7.out.sz; omega)).mono ?_
            intro e w8 hadd
            obtain ⟨rfl, vp', E8⟩ := F7.out.putP hadd
            have F8 := Lib.hid E8
            clear hadd E8 F7
            go_wp2_with fail
            refine (Hpx.out _ F8.out.x).mono ?_
            intro e w9 h9
            obtain ⟨rfl, hT, kx', nx', hW, hremx⟩ := h9
            have F9 := Lib.hid (F8.out.passX hT hW)
            have Hremx := Lib.hid hremx
            clear hT hW hremx F8
            go_wp2_with fail
            refine (Hpy.out _ F9.out.y).mono ?_
            intro e w10 h10
            obtain ⟨rfl, hT, ky', ny', hW, hremy⟩ := h10
            have F10 := Lib.hid (F9.out.passY hT hW)
            have Hremy := Lib.hid hremy
            clear hT hW hremy F9
            go_wp2_with fail
            go_roundg f
            case measure => omega
            case rel => exact Hend.out _ _ _ _ _ _ _ _ _ _ Hremx.out Hremy.out F10.out
        | d m' =>
          have hnz : 1 ≤ min m.length m' := by have h1 := P.ok_z (allOk_cons.1 (hra ▸ oa)).1; have h2 := P.ok_z (allOk_cons.1 (hrb ▸ ob)).1; simp only [P.z] at h1 h2; omega
          have htok : (P.i m).ok := (allOk_cons.1 (hra ▸ oa)).1
          obtain ⟨f, rfl⟩ : ∃ f, gk = f + 1 := ⟨gk - 1, by rw [hra] at hz; have := ZS_pos (l := r) (allOk_cons.1 (hra ▸ oa)).1; omega⟩
          rw [hra, hrb] at hz hF hP
          rw [hra] at PX
          rw [hrb] at PY
          rw [cf_2 _ _ _ _ _ rfl rfl] at hP
          simp only [ce, List.cons_append, List.nil_append, List.foldl_cons, P.z] at hP
          obtain ⟨p1, hp1, hpc1, hr1⟩ := rem_head hra
          obtain ⟨p2, hp2, hpc2, hr2⟩ := rem_head hrb
          have hpz1 : p1.z - nx = m.length := by rw [← P.cut_z, hpc1]; rfl
          have hpz2 : p2.z - ny = m' := by rw [← P.cut_z, hpc2]; rfl
          have Hpx := Lib.hid (fun W hW => pass_any w1.heap.size w1.heap.size la kx nx (min m.length m') p1 hp1 W hW (by omega))
          have Hpy := Lib.hid (fun W hW => pass_any w1.heap.size (w1.heap.size + 1) lb ky ny (min m.length m') p2 hp2 W hW (by omega))
          rw [hra] at Hpx
          rw [hrb] at Hpy
          have hZ1 := pass_Z (p := .i m) (l := r) (n := min m.length m') (by simp only [P.z]; omega)
          have hZ2 := pass_Z (p := .d m') (l := s) (n := min m.length m') (by simp only [P.z]; omega)
          have hF1 := pass_Ti (t := m) (l := r) (n := min m.length m') (by omega)
          have hF2 := pass_F (p := .d m') (l := s) (n := min m.length m') rfl (by simp only [P.z]; omega)
          have hR1 := foldl_bound hP hbX
          have hsR : FS Rp + TS Rp ≤ 100000 := by omega
          have hmm : m.length ≤ 100000 := by
            have h4 := hx.f
            have h5 := P.one_le (List.mem_of_getElem? hp1)
            have h6 := P.z_le p1
            have h7 := hx.t
            omega
          have HSz := Lib.hid (fun W => size_P (.i m) htok (by simp only [P.z]; omega) W)
          have Hend : Hid (∀ W S T cs ct kx' nx' ky' ny' vp', remOf la kx' nx' = pass (.i m :: r) (min m.length m') → remOf lb ky' ny' = pass (.d m' :: s) (min m.length m') → Co w w1.heap.size S T la lb kx' nx' ky' ny' (Rp) vp' cs ct W → Cst w w1.heap.size la lb (build X) f W) :=
            fun W S T cs ct kx' nx' ky' ny' vp' he1 he2 E => E.cst (by rw [he1, he2]; omega) (by rw [he1, he2]; omega) (by rw [he1, he2]; exact hP)
          unfold headV at PX PY
          simp only [P.part, partV] at PX PY HSz
          simp only [P.z] at HSz
          have hmin : min ((m.length : Nat) : Int) (m' : Int) = ((min m.length m' : Nat) : Int) := by omega
          have Hmin := Lib.hid hmin
          have hm100 : min m.length m' ≤ 100000 := by omega
          have hmz : min m.length m' ≤ m.length := by omega
          have Hvr := Lib.hid htok.2
          have hrt : rns (Uni.enc m) = m := rns_enc htok.2
          have hez := enc_size m htok.2
          have hm70 : (Uni.enc m).size ≤ 70368744177664 := by omega
          obtain ⟨RR, hRRz, hRR, hconv⟩ := runes_of (Uni.enc m) hm70
          rw [hrt] at hconv hRR
          have HRR := Lib.hid hRR
          have Hconv := Lib.hid hconv
          clear hrt hez hm70 hRRz hRR hconv
          clear hx hy hp hra hrb hpc1 hpc2 hr1 hr2 hP hF hz hpz1 hpz2 oa ob hR1 hp1 hp2 hZ1 hZ2 hF1 hF2 hmin htok
          generalize hmg : min m.length m' = mn at *
          have Hmg := Lib.hid hmg
          clear hmg
          go_wp2_with fail
          refine PX.out.mono ?_
          rintro e w2 ⟨rfl, u2⟩
          have U2 := Lib.hid u2
          clear u2
          go_wp2_with fail
          refine (PY.out _ (up U2.out ((Below.refl _ _).alloc (Nat.le_refl _) _))).mono ?_
          rintro e w3 ⟨rfl, u3⟩
          have xs := (Blk.new w2 (.cells #[.int .i64 2, .int .i64 0, .string (Uni.enc m)] 45)).go u3
          have s0 : w3.cell? ⟨w2.heap.size, 0, none⟩ = some (.int .i64 2) := xs.cell 0
          have s1 : w3.cell? ⟨w2.heap.size, 1, none⟩ = some (.int .i64 0) := xs.cell 1
          have s2 : w3.cell? ⟨w2.heap.size, 2, none⟩ = some (.string (Uni.enc m)) := xs.cell 2
          have hsl := xs.lt
          have hsl2 : w2.heap.size ≠ w3.heap.size := by omega
          have HE := Lib.hid (Start.out w2 w3 _ (.cells #[.int .i64 3, .int .i64 (m' : Int), .string (noText)] 45) U2.out u3)
          clear xs u3 PX PY
          go_wp2_with fail
          refine abs_w (fun W => Co w w1.heap.size w2.heap.size w3.heap.size la lb kx nx ky ny Rp vp (.cells #[.int .i64 2, .int .i64 0, .string (Uni.enc m)] 45) (.cells #[.int .i64 3, .int .i64 (m' : Int), .string (noText)] 45) W) HE.out ?_
          intro w5 E5
          have F5 := Lib.hid E5
          clear E5 s0 s1 s2 HE
          refine region_lit2 (by kernel_rfl) (by kernel_rfl) (by kernel_rfl) [[], [0], [], [2], [0, 1, 2, 3], [0, 1, 2, 3, 4]] (by kernel_rfl) [some 62, some 63, some 64, some 65, some 66, some 20] (by kernel_rfl) [false, false, false, false, false, true] (by kernel_rfl)
            (fun W => Below w5.heap.size w5 W)
            (fun i v W => match i with
              | 0 => v = .agg #[.int .i64 2, .int .i64 0, .string (Uni.enc m)]
              | 1 => v = .int .i64 ((m.length : Nat) : Int)
              | 2 => v = .pointer (some ⟨w3.heap.size, 1, none⟩)
              | 3 => v = .int .i64 (m' : Int)
              | 4 => v = .int .i64 (mn : Int)
              | _ => v = .int .i64 (mn : Int))
            (fun W W' => Below W.heap.size W W')
            [fun x => ⟨#[undef, undef, undef, undef, undef, undef, undef, undef, undef, undef, undef, undef, undef, undef, undef, .pointer (some ⟨w2.heap.size, 0, none⟩), undef, undef, undef, undef, undef, undef, undef, undef, undef, undef, undef, undef, undef, undef, undef, undef, undef, undef, undef, undef, undef, undef, undef, undef, undef, undef, undef, undef, undef, undef, undef, undef, undef, undef, undef, undef, undef, undef, undef, undef, undef, undef, undef, undef, undef, undef, undef], []⟩,
   fun x => ⟨#[undef, undef, undef, undef, undef, undef, undef, undef, undef, undef, undef, undef, undef, undef, undef, undef, undef, undef, undef, undef, undef, undef, undef, undef, undef, undef, undef, undef, undef, undef, undef, undef, undef, undef, undef, undef, undef, undef, undef, undef, undef, undef, undef, undef, undef, undef, undef, undef, undef, undef, undef, undef, undef, undef, undef, undef, undef, undef, undef, undef, undef, undef, x 0, undef], []⟩,
   fun x => ⟨#[undef, undef, undef, undef, undef, undef, undef, undef, undef, undef, undef, undef, undef, undef, undef, undef, undef, .pointer (some ⟨w3.heap.size, 0, none⟩), undef, undef, undef, undef, undef, undef, undef, undef, undef, undef, undef, undef, undef, undef, undef, undef, undef, undef, undef, undef, undef, undef, undef, undef, undef, undef, undef, undef, undef, undef, undef, undef, undef, undef, undef, undef, undef, undef, undef, undef, undef, undef, undef, undef, undef, undef, undef], []⟩,
   fun x => ⟨#[undef, undef, undef, undef, undef, undef, undef, undef, undef, undef, undef, undef, undef, undef, undef, undef, undef, undef, undef, undef, undef, undef, undef, undef, undef, undef, undef, undef, undef, undef, undef, undef, undef, undef, undef, undef, undef, undef, undef, undef, undef, undef, undef, undef, undef, undef, undef, undef, undef, undef, undef, undef, undef, undef, undef, undef, undef, undef, undef, undef, undef, undef, undef, undef, x 2, undef], []⟩,
   fun x => ⟨#[undef, undef, undef, undef, undef, undef, undef, undef, undef, undef, undef, undef, undef, undef, undef, undef, undef, undef, undef, undef, undef, undef, undef, undef, undef, undef, undef, undef, undef, undef, undef, undef, undef, undef, undef, undef, undef, undef, undef, undef, undef, undef, undef, undef, undef, undef, undef, undef, undef, undef, undef, undef, undef, undef, undef, undef, undef, undef, undef, undef, undef, undef, undef, x 1, undef, x 3, undef], []⟩,
   fun x => ⟨#[undef, undef, undef, undef, undef, undef, undef, undef, undef, undef, undef, undef, undef, undef, undef, undef, undef, undef, undef, undef, undef, undef, undef, undef, undef, undef, undef, undef, undef, undef, undef, undef, undef, undef, undef, undef, undef, undef, undef, undef, undef, undef, undef, undef, undef, undef, undef, undef, undef, undef, undef, undef, undef, undef, undef, undef, undef, undef, undef, undef, undef, undef, undef, undef, undef, undef, x 4], []⟩]
            ?hF ?mono ?h0 ?step ?fin
          case hF =>
            exact ⟨fun x => ⟨by kernel_rfl, by kernel_rfl⟩, fun x => ⟨by kernel_rfl, by kernel_rfl⟩, fun x => ⟨by kernel_rfl, by kernel_rfl⟩, fun x => ⟨by kernel_rfl, by kernel_rfl⟩, fun x => ⟨by kernel_rfl, by kernel_rfl⟩, fun x => ⟨by kernel_rfl, by kernel_rfl⟩, trivial⟩
          case mono =>
            intro i hi v W W' hE hv
            match i, hi with
            | 0, _ | 1, _ | 2, _ | 3, _ | 4, _ => exact hv
            | m + 5, h => exact absurd h (by cases m <;> simp)
          case h0 => first | exact (Below.refl _ _).drew | exact Below.drew (by assumption) | (refine Below.drew ?_; assumption)
          case step =>
            refine ⟨?_, ?_, ?_, ?_, ?_, ?_, trivial⟩
            all_goals
              intro x W hI hV
              simp only [AllV, and_true] at hV
            · clear hV
              (try dsimp only)
              have b5 := F5.out.s.go hI
              have d0 : W.cell? ⟨w2.heap.size, 0, none⟩ = some (.int .i64 2) := b5.cell 0
              have d1 : W.cell? ⟨w2.heap.size, 1, none⟩ = some (.int .i64 0) := b5.cell 1
              have d2 : W.cell? ⟨w2.heap.size, 2, none⟩ = some (.string (Uni.enc m)) := b5.cell 2
              have HI := Lib.hid hI
              clear hI b5
              go_wp2_with fail
              exact step_done rfl HI.out (Below.refl _ _) rfl
            · have u0 := hV
              clear hV
              simp only [u0]
              clear u0
              have HI := Lib.hid hI
              clear hI
              go_wp2_with fail
              refine (HSz.out _).mono ?_
              rintro e W' ⟨rfl, uW⟩
              have HW := Lib.hid (up HI.out uW)
              have HU := Lib.hid uW
              clear uW
              go_wp2_with fail
              exact step_done rfl HW.out HU.out rfl
            · clear hV
              (try dsimp only)
              go_wp2_with fail
              exact step_done rfl hI (Below.refl _ _) rfl
            · have u2 := hV
              clear hV
              simp only [u2]
              clear u2
              have b5 := F5.out.t.go hI
              have d1 : W.cell? ⟨w3.heap.size, 1, none⟩ = some (.int .i64 (m' : Int)) := b5.cell 1
              have HI := Lib.hid hI
              clear hI b5
              go_wp2_with fail
              exact step_done rfl HI.out (Below.refl _ _) rfl
            · obtain ⟨u0, u1, u2, u3⟩ := hV
              simp only [u1, u3]
              clear u0 u1 u2 u3
              have HI := Lib.hid hI
              clear hI
              go_wp2_with fail
              exact step_done (by rw [Hmin.out]; rfl) HI.out (Below.refl _ _) rfl
            · obtain ⟨u0, u1, u2, u3, u4⟩ := hV
              simp only [u4]
              clear u0 u1 u2 u3 u4
              go_wp2_with fail
              exact step_done rfl hI (Below.refl _ _) rfl
          case fin =>
            intro x W hI hV
            simp only [AllV, and_true, List.length_cons, List.length_nil, List.range, List.range.loop] at hV
            obtain ⟨u0, u1, u2, u3, u4, u5⟩ := hV
            simp only [getsD, List.getD_cons_succ, List.getD_cons_zero, List.length_cons, List.length_nil, List.range, List.range.loop, u0, u1, u2, u3, u4, u5, Act.put, List.setIfInBounds_toArray, List.set_cons_succ, List.set_cons_zero]
            clear u0 u1 u2 u3 u4 u5
            have F6 := Lib.hid (F5.out.go hI)
            clear hI F5
            generalize W = w6 at *
            have d0s : w6.cell? ⟨w2.heap.size, 0, none⟩ = some (.int .i64 2) := F6.out.s.cell 0
            have d1s : w6.cell? ⟨w2.heap.size, 1, none⟩ = some (.int .i64 0) := F6.out.s.cell 1
            have d2s : w6.cell? ⟨w2.heap.size, 2, none⟩ = some (.string (Uni.enc m)) := F6.out.s.cell 2
            have d0t : w6.cell? ⟨w3.heap.size, 0, none⟩ = some (.int .i64 3) := F6.out.t.cell 0
            have d1t : w6.cell? ⟨w3.heap.size, 1, none⟩ = some (.int .i64 (m' : Int)) := F6.out.t.cell 1
            have d2t : w6.cell? ⟨w3.heap.size, 2, none⟩ = some (.string (noText)) := F6.out.t.cell 2
            go_wp2_with fail
            clear d0s d1s d2s
            clear d0t d1t d2t
            refine (Hpx.out _ F6.out.x).mono ?_
            intro e w7 h7
            obtain ⟨rfl, hT, kx', nx', hW, hremx⟩ := h7
            have F7 := Lib.hid (F6.out.passX hT hW)
            have Hremx := Lib.hid hremx
            clear hT hW hremx F6
            go_wp2_with fail
            refine (Hpy.out _ F7.out.y).mono ?_
            intro e w8 h8
            obtain ⟨rfl, hT, ky', ny', hW, hremy⟩ := h8
            have F8 := Lib.hid (F7.out.passY hT hW)
            have Hremy := Lib.hid hremy
            clear hT hW hremy F7
            go_wp2_with fail
            go_roundg f
            case measure => omega
            case rel => exact Hend.out _ _ _ _ _ _ _ _ _ _ Hremx.out Hremy.out F8.out
end Go.Proofs.YtajijhnnnekhmaaDoor
