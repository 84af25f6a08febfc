/- The walk of link.Check at a link of which all but the last thing may be; link.Check whole. -/
import Derived.Test.YtkbfhgcjimfgkaaDoorPartA5
import Derived.Test.YtkbfhgcjimfgkaaDoorPartA3
import Derived.Test.YtkbfhgcjimfgkaaDoorPartA4
import Derived.Deep.RegionWith
import Derived.Deep.RegionHeld3
set_option linter.unusedVariables false
set_option linter.unusedSimpArgs false
set_option linter.unusedSimpArgs false
namespace Go.Proofs.YtkbfhgcjimfgkaaDoor
open Go.RowKit
/-- what text.Apply refuses -/
def applyE (s : Str) (o : Op) : Int := if checkText s ≠ 0 then checkText s else if check o ≠ 0 then check o else if sumF o ≠ rc s then 10 else 0
/-- .. and what it makes -/
def applyS (s : Str) (o : Op) : Str := if applyE s o = 0 then Uni.enc (app (rns s) (opP o)) else noText
/-- runes lie in block g -/
def RunesAt (w : World) (g : Nat) (rs : List Nat) : Prop := g < w.heap.size ∧ ∀ j r, rs[j]? = some r → w.cell? ⟨g, j, none⟩ = some (.int .i32 ((r : Nat) : Int))
theorem RunesAt.below {w w' : World} {B g : Nat} {rs : List Nat} (h : RunesAt w g rs) (hb : Below B w w') (hB : g < B) : RunesAt w' g rs :=
  ⟨Nat.lt_of_lt_of_le h.1 hb.size, fun j r hj => (hb.cell (p := ⟨g, j, none⟩) hB).trans (h.2 j r hj)⟩
/-- some of them as a string -/
theorem RunesAt.conv {w : World} {g : Nat} {rs : List Nat} (h : RunesAt w g rs) (off m c : Nat) (hm : off + m ≤ rs.length) :
    (convert 86 9 (.slice (some ⟨g, off, none⟩) m c)).run Tryd.prog w = .ok (.string (Uni.enc ((rs.drop off).take m))) w := by
  have hz : ∀ j, j < (((rs.drop off).take m).map fun r : Nat => (r : Int)).length → w.cell? ((⟨g, off, none⟩ : Addr).add j) = some (.int .i32 ((((rs.drop off).take m).map fun r : Nat => (r : Int)).getD j 0)) := by
    intro j hj
    simp only [List.length_map, List.length_take, List.length_drop] at hj
    have e : (⟨g, off, none⟩ : Addr).add j = ⟨g, off + j, none⟩ := by
      unfold Addr.add
      split
      · rename_i h0; rw [h0]; rfl
      · rfl
    have h1 : off + j < rs.length := by omega
    rw [e, h.2 (off + j) rs[off + j] (List.getElem?_eq_getElem h1)]
    simp only [List.getD, List.getElem?_map]
    rw [List.getElem?_take_of_lt (by omega), List.getElem?_drop, List.getElem?_eq_getElem h1]
    rfl
  have hr := run_convert_runes (P := Tryd.prog) w 86 9 21 ⟨g, off, none⟩ m c (((rs.drop off).take m).map fun r : Nat => (r : Int)) (by simp; omega) Tryd.underlying86 Tryd.underlying21 Tryd.underlying9 hz
  rw [List.take_of_length_le (by simp; omega), runesBytes_enc] at hr
  exact hr
/-- a string as runes: where they lie then -/
theorem runes_of (s : Str) (hs : s.size ≤ 70368744177664) : ∃ R : Array Value, R.size = (rns s).length ∧ R = ((rns s).map fun r : Nat => Value.int .i32 ((r : Nat) : Int)).toArray ∧ (∀ W : World, (convert 9 86 (.string s)).run Tryd.prog W =
    .ok (.slice (some ⟨W.heap.size, 0, none⟩) (rns s).length (grownCap W (rns s).length 0 21)) (W.drew.alloc (.cells (R ++ Array.replicate (grownCap W (rns s).length 0 21 - (rns s).length) (.int .i32 0)) 21))) := by
  have hR : Conv.runesFrom s s.size 0 #[] = ((rns s).map fun r : Nat => Value.int .i32 ((r : Nat) : Int)).toArray := by
    rw [Uni.runesFrom_dec]; simp [rns, Uni.dec]
  have hz : (Conv.runesFrom s s.size 0 #[]).size = (rns s).length := by rw [hR]; simp
  refine ⟨Conv.runesFrom s s.size 0 #[], hz, hR, fun W => ?_⟩
  have h := run_runes_of_string (P := Tryd.prog) W 9 86 21 s Tryd.underlying9 Tryd.underlying86 Tryd.underlying21
    (by rw [hz]; have h2 := rc_rns s; have h3 := rc_le s; omega)
  rw [hz] at h
  exact h
theorem runesAt_new (W : World) (R : Array Value) (J : Array Value) (rs : List Nat) (hR : R = (rs.map fun r : Nat => Value.int .i32 ((r : Nat) : Int)).toArray) (t : TypeId) : RunesAt (W.alloc (.cells (R ++ J) t)).drew W.heap.size rs := by
  subst hR
  refine ⟨by simp, fun j r hj => ?_⟩
  show (W.alloc (.cells _ t)).cell? _ = _
  rw [cell_of_row _ W.heap.size j _ t (0, 0) (heap_new_at _ _ _ (by simp))]
  have hlt := (List.getElem?_eq_some_iff.1 hj).1
  rw [Array.getElem?_append_left (by simpa using hlt)]
  simp [hj]
/-- the cells of parts over runes -/
theorem OpIs.cells {o : Op} {l : List P} (h : OpIs o l) {A : Nat → Prop} {w : World} {a : Option Addr} {n c : Nat} (hr : RdS A w o a n c) (hn : 0 < n) :
    ∃ b off, a = some ⟨b, off, none⟩ ∧ A b ∧ b < w.heap.size ∧ ∀ i p, l[i]? = some p →
      w.cell? ⟨b, off + i * 3, none⟩ = some (.int .i64 p.part.kind) ∧ w.cell? ⟨b, off + i * 3 + 1, none⟩ = some (.int .i64 p.part.n) ∧ w.cell? ⟨b, off + i * 3 + 2, none⟩ = some (.string p.part.text) := by
  obtain ⟨b, off, e, hA, hb, hc⟩ := hr.part hn
  refine ⟨b, off, e, hA, hb, fun i p hi => ?_⟩
  have hil : i < o.length := by rw [h.eq]; simpa using (List.getElem?_eq_some_iff.1 hi).1
  have hoi : o[i] = p.part := by
    have h1 : o[i]? = some p.part := by rw [h.eq, List.getElem?_map, hi]; rfl
    rw [List.getElem?_eq_getElem hil] at h1
    exact Option.some.inj h1
  have := hc i hil
  rw [hoi] at this
  exact this.2.2.2
theorem FS_take (l : List P) (k : Nat) : FS (l.take k) ≤ FS l := by
  have := FS_app (l.take k) (l.drop k)
  rw [List.take_append_drop] at this; omega
theorem TS_take (l : List P) (k : Nat) : TS (l.take k) ≤ TS l := by
  have := TS_app (l.take k) (l.drop k)
  rw [List.take_append_drop] at this; omega
theorem FS_next (l : List P) (k : Nat) (h : k < l.length) : FS (l.take (k + 1)) = FS (l.take k) + l[k].F := by
  rw [take_next l k h, FS_app]; simp [FS]
theorem TS_next (l : List P) (k : Nat) (h : k < l.length) : TS (l.take (k + 1)) = TS (l.take k) + l[k].T := by
  rw [take_next l k h, TS_app]; simp [TS]
theorem app_next (l : List P) (k : Nat) (h : k < l.length) (t : List Nat) : app t (l.take (k + 1)) = app t (l.take k) ++ app (t.drop (FS (l.take k))) [l[k]] := by
  rw [take_next l k h, app_app]
theorem enc_bytes (l : List Nat) : (Uni.enc l).data.toList = Uni.encL l := rfl
set_option maxRecDepth 100000 in
set_option maxHeartbeats 4000000 in
theorem apply_ok (s : Str) (o : Op) (a : Option Addr) (n c : Nat) (w : World) (hg : Good w) (hr : RdS (· < w.heap.size) w o a n c) (hs : s.size ≤ 70368744177664) (h0 : checkText s = 0) (h1 : check o = 0) (h2 : sumF o = rc s) :
    Calls Tryd.prog 22 #[.string s, .slice a n c] w fun e w' => e = .returned (.tuple #[.string (Uni.enc (app (rns s) (opP o))), .int .i64 0]) ∧ Below w.heap.size w w' := by
  have hss : s.size ≤ strMax := by unfold strMax; omega
  have HT := Lib.hid (by have := checkText_any s w hg hss; rw [h0] at this; exact this)
  have HC := Lib.hid (fun W (hb : Below w.heap.size w W) => by
    have := check_any (· < w.heap.size) o a n c W (hg.below' hb) (fun b h => Nat.lt_of_lt_of_le h hb.size) (hr.below (fun _ h => h) hb)
    rw [h1] at this; exact this)
  have HL := Lib.hid (fun W (hb : Below w.heap.size w W) => lengths_any (· < w.heap.size) o a n c W (hr.below (fun _ h => h) hb) (check_small h1))
  have hv : valid s = true := by
    unfold checkText at h0
    cases hv : valid s with
    | true => rfl
    | false => rw [hv] at h0; simp at h0
  have hvr := rns_vr hv
  have hrc := rc_rns s
  obtain ⟨R, hRz, hR, hconv⟩ := runes_of s hs
  have hcl := rc_le s
  have hO := opIs h1
  have hnl : n = (opP o).length := by have h := hr.1; rw [h]; unfold opP; simp
  have hn2 : n ≤ 8001 := by rw [hnl]; exact hO.len
  have hcells := fun h => hO.cells hr h
  have hFl := hO.fl
  have hTl := hO.tl
  have hF : FS (opP o) = (rns s).length := by have := hO.f; omega
  rw [h2, hrc] at HL
  have hok := hO.ok
  have htn := sumT o
  clear hr hO h0 h1 h2 hss hv hg htn hrc hcl
  generalize sumT o = tn at *
  generalize opP o = l at *
  generalize rns s = rs at *
  have Hcells := Lib.hid hcells
  have Hl := Lib.hid hnl
  have HF := Lib.hid hF
  have HRz := Lib.hid hRz
  have HR := Lib.hid hR
  have Hvr := Lib.hid hvr
  have Hok := Lib.hid hok
  clear hcells hnl hF hRz hR hvr hok
  -- what the parts up to k make is short
  have Hout : Hid (∀ k, k ≤ l.length → (Uni.encL (app rs (l.take k))).length ≤ 16000) := by
    unfold Hid
    intro k hk
    have h1 := Uni.encL_append
    have h2 := encL_size (app rs (l.take k)) (app_vr _ _ Hvr.out (fun p hp => Hok.out p (List.mem_of_mem_take hp)))
    have h3 := app_len (l.take k) rs (by have := FS_take l k; have := HF.out; omega)
    have h4 := TS_take l k
    omega
  go_enter Tryd.func22, Tryd.ntmps22
  go_wp2_with fail
  refine HT.out.mono ?_
  rintro e w1 ⟨rfl, hb1⟩
  clear HT
  go_wp2_with fail
  refine (HC.out _ hb1).mono ?_
  rintro e w2 ⟨rfl, hb2⟩
  clear HC
  have hb2 := hb1.trans (hb2.mono hb1.size)
  clear hb1
  go_wp2_with fail
  have hz2 := hb2.size
  have hg2 : RunesAt (w2.alloc (.cells (R ++ Array.replicate (grownCap w2 rs.length 0 21 - rs.length) (.int .i32 0)) 21)).drew w2.heap.size rs := runesAt_new w2 R _ rs HR.out _
  have hcap := grownCap_ge w2 rs.length 0 21
  have hcapm : grownCap w2 rs.length 0 21 ≤ maxLen := grownCap_le_maxLen w2 rs.length 0 21 (by have := HF.out; unfold maxLen; omega)
  have hbW : Below w.heap.size w (w2.alloc (.cells (R ++ Array.replicate (grownCap w2 rs.length 0 21 - rs.length) (.int .i32 0)) 21)).drew := by (repeat (first | exact Below.refl _ _ | assumption | (refine Below.drew ?_) | (refine below_drewN ?_ _) | (refine Below.alloc ?_ (by first | (simp; done) | (simp; omega) | omega) _) | (refine Below.setCell ?_ (by first | (simp; done) | (simp; omega) | omega) _) | (refine Below.trans ?_ (Below.mono (by assumption) (by first | (simp; done) | (simp; omega) | omega)))))
  have hz3 : w2.heap.size < (w2.alloc (.cells (R ++ Array.replicate (grownCap w2 rs.length 0 21 - rs.length) (.int .i32 0)) 21)).drew.heap.size := hg2.1
  generalize (w2.alloc (.cells (R ++ Array.replicate (grownCap w2 rs.length 0 21 - rs.length) (.int .i32 0)) 21)).drew = w3 at *
  generalize grownCap w2 rs.length 0 21 = cap at *
  generalize w2.heap.size = g at *
  clear hb2 hconv HRz HR
  refine (HL.out _ hbW).mono ?_
  rintro e w4 ⟨rfl, hb4⟩
  have hbW := hbW.trans (hb4.mono hbW.size)
  have hg4 := hg2.below hb4 hz3
  have hz4 := hb4.size
  clear hb4 HL hg2
  unfold maxLen at hcapm
  go_wp2_with fail
  have hBw : w.heap.size ≤ w4.heap.size := hbW.size
  have hgB : g < w4.heap.size := by omega
  have h0 : Bld w4.heap.size w4.heap.size (Uni.encL (app rs (l.take 0))) (w4.alloc (.cells #[.pointer none, .slice none 0 0] 113)) := Lib.fresh_isBuilder _ _ w4
  have h1 : RunesAt (w4.alloc (.cells #[.pointer none, .slice none 0 0] 113)) g rs := hg4.below ((Below.refl _ _).alloc (Nat.le_refl _) _) hgB
  have H0 := Lib.hid h0
  have H1 := Lib.hid h1
  have H2 := Lib.hid (hbW.alloc hBw (.cells #[.pointer none, .slice none 0 0] 113))
  have H3 : Hid (w4.heap.size ≤ (w4.alloc (.cells #[.pointer none, .slice none 0 0] 113)).heap.size) := by unfold Hid; simp
  clear h0 h1 hbW hg4
  generalize (w4.alloc (.cells #[.pointer none, .slice none 0 0] 113)) = w5 at *
  generalize w4.heap.size = B at *
  go_loopw [12, 38] (fun t i wr => ∃ k : Nat, k ≤ n ∧ i = .int .i64 k ∧ t = .int .i64 ((FS (l.take k) : Nat) : Int) ∧ Bld B B (Uni.encL (app rs (l.take k))) wr ∧ RunesAt wr g rs ∧ B ≤ wr.heap.size ∧ Below w.heap.size w wr) (fun _ i _ => n - (intOf i).toNat)
  case atStart => exact ⟨0, by omega, rfl, rfl, H0.out, H1.out, H3.out, H2.out⟩
  case round =>
    obtain ⟨k, hk, rfl, rfl, hbld, hrun, hBr, hb⟩ := hrel
    clear H0 H1 H2 H3
    by_cases hlt : k < n
    · obtain ⟨b, off, rfl, _, hbs, hcs⟩ := Hcells.out (by omega)
      have hkl : k < l.length := by have := Hl.out; omega
      obtain ⟨c0, c1, c2⟩ := hcs k l[k] (List.getElem?_eq_getElem hkl)
      clear hcs
      obtain ⟨hcb, hfb⟩ := bcell hb
      have HFn := Lib.hid (FS_next l k hkl)
      have Hap := Lib.hid (app_next l k hkl rs)
      have hFk := FS_take l (k + 1)
      have hFl2 := HF.out
      have hok := Hok.out l[k] (List.getElem_mem hkl)
      have hlen := Hout.out k (by omega)
      have hTn := TS_next l k hkl
      have hTt := TS_take l (k + 1)
      rw [hTn] at hTt
      clear hTn
      have hx : FS (l.take (k + 1)) = FS (l.take k) + l[k].F := FS_next l k hkl
      rw [hx] at hFk
      clear hx
      have hBlt := hbld.lt
      have Hbld := Lib.hid hbld
      have Hrun := Lib.hid hrun
      clear hbld hrun
      generalize FS (l.take k) = F at *
      generalize l[k] = p at *
      generalize TS (l.take k) = tt at *
      cases p with
      | k m =>
        clear hTt
        simp only [P.part, P.F, P.ok] at c0 c1 c2 hFk hok HFn
        have hrl : F + m ≤ rs.length := by omega
        have hm4 : m ≤ 4000 := by omega
        clear hFl2 hFl
        have Hcv : Hid (∀ W C, Below B wr W → (convert 86 9 (.slice (some ⟨g, F, none⟩) m C)).run Tryd.prog W = .ok (.string (Uni.enc ((rs.drop F).take m))) W) := fun W C hW => (Hrun.out.below hW hgB).conv F m C hrl
        have hcv := Hcv.out (wr.alloc (.cells #[.int .i64 1, .int .i64 ((m : Nat) : Int), .string noText] 53)) (cap - F) ((Below.refl _ _).alloc hBr _)
        have Hal := Lib.hid (Hbld.out.below ((Below.refl _ _).alloc (Nat.le_refl _) (.cells #[.int .i64 1, .int .i64 ((m : Nat) : Int), .string noText] 53)))
        have hsz := enc_size ((rs.drop F).take m) (fun r h => Hvr.out r (List.mem_of_mem_drop (List.mem_of_mem_take h)))
        have hsz2 : ((rs.drop F).take m).length ≤ 4000 := by rw [List.length_take]; omega
        have Hpc : Hid (Uni.encL (app rs (l.take k)) ++ (Uni.enc ((rs.drop F).take m)).data.toList = Uni.encL (app rs (l.take (k + 1)))) := by
          unfold Hid; rw [Hap.out, Uni.encL_append]; simp [app, enc_bytes]
        generalize Uni.enc ((rs.drop F).take m) = T at *
        clear Hap
        go_wp2_with fail
        refine (wstr_any B B _ T _ Hal.out (by omega) (by simp; omega)).mono ?_
        rintro e w6 ⟨rfl, hbld6, hb6, hot⟩
        have hpb := hot wr.heap.size _ _ _ (heap_new_at wr _ _ rfl) (by decide) (by omega)
        have d1 : w6.cell? ⟨wr.heap.size, 1, none⟩ = some (.int .i64 ((m : Nat) : Int)) := (cell_keep hpb).trans (by rw [cell_of_row _ _ _ _ _ _ (heap_new_at _ _ _ rfl)]; rfl)
        rw [Hpc.out] at hbld6
        have Hb6 := Lib.hid hbld6
        have hbz := hb.size
        have Hbelow : Hid (Below w.heap.size w w6) := by unfold Hid; exact (hb.alloc hbz _).trans (hb6.mono (by omega))
        have Hrun6 : Hid (RunesAt w6 g rs) := Hrun.out.below (((Below.refl _ _).alloc hBr _).trans hb6) hgB
        have hB6 : B ≤ w6.heap.size := by have := hb6.size; simp at this; omega
        clear hbld6 hb6 hot hpb Hal Hpc hcv Hcv hcb hfb
        go_wp2_with fail
        go_roundw
        case rel => exact ⟨k + 1, by omega, by go_num, by rw [HFn.out]; go_num, Hb6.out, Hrun6.out, hB6, Hbelow.out⟩
        case measure => simp [intOf]; omega
      | i t =>
        simp only [P.part, P.F, P.ok, P.T] at c0 c1 c2 hFk hok HFn hTt
        have Hal := Lib.hid (Hbld.out.below ((Below.refl _ _).alloc (Nat.le_refl _) (.cells #[.int .i64 2, .int .i64 0, .string (Uni.enc t)] 53)))
        have hsz := enc_size t hok.2
        have Hpc : Hid (Uni.encL (app rs (l.take k)) ++ (Uni.enc t).data.toList = Uni.encL (app rs (l.take (k + 1)))) := by
          unfold Hid; rw [Hap.out, Uni.encL_append]; simp [app, enc_bytes]
        have hsz2 : t.length ≤ 4000 := by
          omega
        generalize Uni.enc t = T at *
        clear Hap hok
        go_wp2_with fail
        refine (wstr_any B B _ T _ Hal.out (by omega) (by simp; omega)).mono ?_
        rintro e w6 ⟨rfl, hbld6, hb6, hot⟩
        rw [Hpc.out] at hbld6
        have Hb6 := Lib.hid hbld6
        have hbz := hb.size
        have Hbelow : Hid (Below w.heap.size w w6) := by unfold Hid; exact (hb.alloc hbz _).trans (hb6.mono (by omega))
        have Hrun6 : Hid (RunesAt w6 g rs) := Hrun.out.below (((Below.refl _ _).alloc hBr _).trans hb6) hgB
        have hB6 : B ≤ w6.heap.size := by have := hb6.size; simp at this; omega
        clear hbld6 hb6 hot Hal Hpc hcb hfb
        go_wp2_with fail
        go_roundw
        case rel => exact ⟨k + 1, by omega, by go_num, by rw [HFn.out]; go_num, Hb6.out, Hrun6.out, hB6, Hbelow.out⟩
        case measure => simp [intOf]; omega
      | d m =>
        clear hTt
        simp only [P.part, P.F, P.ok] at c0 c1 c2 hFk hok HFn
        have Hpc : Hid (app rs (l.take k) = app rs (l.take (k + 1))) := by
          unfold Hid; rw [Hap.out]; simp [app]
        have hbz := hb.size
        have hrl : F + m ≤ rs.length := by omega
        have Hfin : Hid (∀ W, Below wr.heap.size wr W → Bld B B (Uni.encL (app rs (l.take (k + 1)))) W ∧ RunesAt W g rs ∧ B ≤ W.heap.size ∧ Below w.heap.size w W) := by
          unfold Hid
          intro W hW
          rw [← Hpc.out]
          exact ⟨Hbld.out.below hW, Hrun.out.below hW (by omega), by have := hW.size; omega, hb.trans (hW.mono hbz)⟩
        clear Hap Hpc Hbld Hrun hFl2 hFl
        go_wp2_with fail
        go_roundw
        case rel => exact ⟨k + 1, by omega, by go_num, by rw [HFn.out]; go_num, Hfin.out _ (by (repeat (first | exact Below.refl _ _ | assumption | (refine Below.drew ?_) | (refine below_drewN ?_ _) | (refine Below.alloc ?_ (by first | (simp; done) | (simp; omega) | omega) _) | (refine Below.setCell ?_ (by first | (simp; done) | (simp; omega) | omega) _) | (refine Below.trans ?_ (Below.mono (by assumption) (by first | (simp; done) | (simp; omega) | omega))))))⟩
        case measure => simp [intOf]; omega
    · have hkn : k = l.length := by have := Hl.out; omega
      have hbz := hb.size
      have Hb := Lib.hid hb
      rw [hkn, List.take_length] at hbld
      have Hbld := Lib.hid hbld
      clear hb hbld
      go_wp2_with fail
      refine (Tryd.Builder_String_any B B _ wr Hbld.out hBr).mono ?_
      rintro e w6 ⟨rfl, hb6⟩
      have Hb6 := Lib.hid (Hb.out.trans (hb6.mono hBw))
      clear hb6
      go_wp2_with fail
      go_ret2
      exact ⟨rfl, Hb6.out⟩
set_option maxRecDepth 100000 in
set_option maxHeartbeats 2000000 in
theorem apply_any (s : Str) (o : Op) (a : Option Addr) (n c : Nat) (w : World) (hg : Good w) (hr : RdS (· < w.heap.size) w o a n c) (hs : s.size ≤ 70368744177664) :
    Calls Tryd.prog 22 #[.string s, .slice a n c] w fun e w' => e = .returned (.tuple #[.string (applyS s o), .int .i64 (applyE s o)]) ∧ Below w.heap.size w w' := by
  have hss : s.size ≤ strMax := by unfold strMax; omega
  have HT := Lib.hid (checkText_any s w hg hss)
  have HC := Lib.hid (fun W (hb : Below w.heap.size w W) => check_any (· < w.heap.size) o a n c W (hg.below' hb) (fun b h => Nat.lt_of_lt_of_le h hb.size) (hr.below (fun _ h => h) hb))
  by_cases h0 : checkText s = 0
  · by_cases h1 : check o = 0
    · by_cases h2 : sumF o = rc s
      · have hE : applyE s o = 0 := by unfold applyE; rw [if_neg (by simpa using h0), if_neg (by simpa using h1), if_neg (by simpa using h2)]
        unfold applyS
        rw [hE, if_pos rfl]
        exact apply_ok s o a n c w hg hr hs h0 h1 h2
      · have hE : applyE s o = 10 := by unfold applyE; rw [if_neg (by simpa using h0), if_neg (by simpa using h1), if_pos (by simpa using h2)]
        unfold applyS
        rw [hE, if_neg (by decide)]
        have HL := Lib.hid (fun W (hb : Below w.heap.size w W) => lengths_any (· < w.heap.size) o a n c W (hr.below (fun _ h => h) hb) (check_small h1))
        obtain ⟨R, hRz, hR, hconv⟩ := runes_of s hs
        have hcl := rc_le s
        have hne : ((sumF o != rc s)) = true := by simpa using h2
        rw [rc_rns s] at hne
        have hlim : ((rns s).length : Int) ≤ 70368744177664 := by have := rc_rns s; omega
        rw [h0] at HT; rw [h1] at HC
        clear hR hRz hr h0 h1 h2 hE hcl hss hg
        generalize sumF o = x at *
        generalize sumT o = y at *
        generalize rns s = rs at *
        go_enter Tryd.func22, Tryd.ntmps22
        go_wp2_with fail
        refine HT.out.mono ?_
        rintro e w1 ⟨rfl, hb1⟩
        clear HT
        go_wp2_with fail
        refine (HC.out _ hb1).mono ?_
        rintro e w2 ⟨rfl, hb2⟩
        clear HC
        have hb2 := hb1.trans (hb2.mono hb1.size)
        clear hb1
        go_wp2_with fail
        have hz2 := hb2.size
        have hbW : Below w.heap.size w (w2.alloc (.cells (R ++ Array.replicate (grownCap w2 rs.length 0 21 - rs.length) (.int .i32 0)) 21)).drew := by (repeat (first | exact Below.refl _ _ | assumption | (refine Below.drew ?_) | (refine below_drewN ?_ _) | (refine Below.alloc ?_ (by first | (simp; done) | (simp; omega) | omega) _) | (refine Below.setCell ?_ (by first | (simp; done) | (simp; omega) | omega) _) | (refine Below.trans ?_ (Below.mono (by assumption) (by first | (simp; done) | (simp; omega) | omega)))))
        refine (HL.out _ hbW).mono ?_
        rintro e w4 ⟨rfl, hb4⟩
        have hbW := hbW.trans (hb4.mono hbW.size)
        go_wp2_with fail
        go_ret2
        exact ⟨rfl, hbW⟩
    · have hE : applyE s o = check o := by unfold applyE; rw [if_neg (by simpa using h0), if_pos h1]
      unfold applyS
      rw [hE, if_neg h1]
      rw [h0] at HT
      have hne : (check o != 0) = true := by simpa using h1
      clear hr h0 h1 hE hss hg
      generalize check o = x at *
      go_enter Tryd.func22, Tryd.ntmps22
      go_wp2_with fail
      refine HT.out.mono ?_
      rintro e w1 ⟨rfl, hb1⟩
      clear HT
      go_wp2_with fail
      refine (HC.out _ hb1).mono ?_
      rintro e w2 ⟨rfl, hb2⟩
      clear HC
      have hb2 := hb1.trans (hb2.mono hb1.size)
      clear hb1
      go_wp2_with fail
      go_ret2
      exact ⟨rfl, hb2⟩
  · have hE : applyE s o = checkText s := by unfold applyE; rw [if_pos h0]
    unfold applyS
    rw [hE, if_neg h0]
    have hne : (checkText s != 0) = true := by simpa using h0
    clear hr h0 hE hss hg HC
    generalize checkText s = x at *
    go_enter Tryd.func22, Tryd.ntmps22
    go_wp2_with fail
    refine HT.out.mono ?_
    rintro e w1 ⟨rfl, hb1⟩
    clear HT
    go_wp2_with fail
    go_ret2
    exact ⟨rfl, hb1⟩
end Go.Proofs.YtkbfhgcjimfgkaaDoor
namespace Go.Proofs.YtkbfhgcjimfgkaaDoor
open Go.RowKit
theorem RdS.go {α : Type} [Rep α] {w w' : World} {l : List α} {a : Option Addr} {n c : Nat} (hr : RdS (· < w.heap.size) w l a n c) (hb : Below w.heap.size w w') : RdS (· < w'.heap.size) w' l a n c :=
  hr.mono fun b h => ⟨Nat.lt_of_lt_of_le h hb.size, hb.block b h⟩
theorem valid_of {s : Str} (h : checkText s = 0) : valid s = true ∧ rc s ≤ 4000 := by
  unfold checkText at h
  cases hv : valid s with
  | false => rw [hv] at h; simp at h
  | true =>
    rw [hv] at h
    by_cases h4 : 4000 < rc s
    · simp [h4] at h
    · exact ⟨rfl, by omega⟩
theorem checkText_of {s : Str} (hv : valid s = true) (h4 : rc s ≤ 4000) : checkText s = 0 := by
  unfold checkText; rw [if_neg (by simp [hv]), if_neg (by omega)]
theorem apply_good {s : Str} {o : Op} (h0 : checkText s = 0) (h1 : check o = 0) (h2 : sumF o = rc s) :
    applyE s o = 0 ∧ applyS s o = Uni.enc (app (rns s) (opP o)) ∧ (∀ r ∈ app (rns s) (opP o), Uni.vr r) ∧ rc (applyS s o) = sumT o ∧ checkText (applyS s o) = 0 ∧ (applyS s o).size ≤ 16000 := by
  have hE : applyE s o = 0 := by unfold applyE; rw [if_neg (by simpa using h0), if_neg (by simpa using h1), if_neg (by simpa using h2)]
  have hO := opIs h1
  have hS : applyS s o = Uni.enc (app (rns s) (opP o)) := by unfold applyS; rw [if_pos hE]
  have hv := rns_vr (valid_of h0).1
  have hvr := app_vr (opP o) (rns s) hv hO.ok
  have hl : (app (rns s) (opP o)).length = TS (opP o) := app_len _ _ (by have := hO.f; have := rc_rns s; omega)
  have hrc : rc (applyS s o) = sumT o := by rw [hS, rc_enc _ hvr, hl, hO.t]
  have htl := hO.tl
  have ht := hO.t
  refine ⟨hE, hS, hvr, hrc, checkText_of (by rw [hS]; exact valid_enc _ hvr) (by rw [hrc]; omega), ?_⟩
  have := enc_size _ hvr
  rw [hS]; omega
theorem rns_apply {s : Str} {o : Op} (h0 : checkText s = 0) (h1 : check o = 0) (h2 : sumF o = rc s) : rns (applyS s o) = app (rns s) (opP o) := by
  obtain ⟨_, hS, hvr, _⟩ := apply_good h0 h1 h2
  rw [hS, rns_enc hvr]
/-- the text of raw things -/
theorem letters_ok (s : Str) (m : Nat) (hm : m ≤ 4000) : checkText (letters s m) = 0 ∧ 0 ≤ rc (letters s m) ∧ rc (letters s m) ≤ m ∧ (letters s m).size ≤ m * 4 := by
  have h1 := letters_rc s m
  exact ⟨checkText_of (letters_valid s m) (by omega), by omega, by omega, letters_size s m⟩
/-- what Op makes of raw things -/
theorem mkOp_ok (n : Int) (l : List Raw) (h0 : 0 ≤ n) (h1 : n ≤ 3976) : check (mkOp n l) = 0 ∧ sumF (mkOp n l) = n ∧ 0 ≤ sumT (mkOp n l) ∧ sumT (mkOp n l) ≤ n + 24 := opOf_good texts_letters n h0 h1 l
/-- Op's call, as the walks of laws take it -/
theorem mkOp_go (n : Int) (l : List Raw) (a : Option Addr) (m c : Nat) (w : World) (hr : RdS (· < w.heap.size) w l a m c) (hn : 0 ≤ n) (hn' : n ≤ 1000000000) :
    Calls Tryd.prog 19 #[.int .i64 n, .slice a m c] w fun e w' => ∃ a' c', e = .returned (.slice a' (mkOp n l).length c') ∧ RdS (· < w'.heap.size) w' (mkOp n l) a' (mkOp n l).length c' ∧ Below w.heap.size w w' := by
  refine (mkOp_any (· < w.heap.size) n l a m c w (fun b h => h) hr hn hn').mono ?_
  rintro e w' ⟨a', c', rfl, hr', hb⟩
  refine ⟨a', c', rfl, ?_, hb⟩
  obtain ⟨h1, h2, h3, h4, h6⟩ := hr'
  refine ⟨h1, h2, h3, h4, fun hn => ?_⟩
  obtain ⟨b, off, e, _, hlt, h⟩ := h6 hn
  exact ⟨b, off, e, hlt, hlt, fun i x hx => h i x hx⟩
theorem check_go (o : Op) (a : Option Addr) (n c : Nat) (w : World) (hg : Good w) (hr : RdS (· < w.heap.size) w o a n c) :
    Calls Tryd.prog 44 #[.slice a n c] w fun e w' => e = .returned (.int .i64 (check o)) ∧ Below w.heap.size w w' := check_any _ o a n c w hg (fun _ h => h) hr
theorem lengths_go (o : Op) (a : Option Addr) (n c : Nat) (w : World) (hr : RdS (· < w.heap.size) w o a n c) (h : check o = 0) :
    Calls Tryd.prog 45 #[.slice a n c] w fun e w' => e = .returned (.tuple #[.int .i64 (sumF o), .int .i64 (sumT o)]) ∧ Below w.heap.size w w' := lengths_any _ o a n c w hr (check_small h)
end Go.Proofs.YtkbfhgcjimfgkaaDoor
set_option linter.unusedSimpArgs false
namespace Go.Proofs.YtkbfhgcjimfgkaaDoor
open Go.RowKit
theorem RdS.nil {α : Type} [Rep α] (A : Nat → Prop) (w : World) : RdS (α := α) A w [] none 0 0 := ⟨rfl, Nat.le_refl _, by unfold maxLen; omega, fun _ => rfl, fun h => absurd h (by omega)⟩
theorem check_nil : check [] = 0 := rfl
theorem abs_w {P : Program} {c : Code} {K : _} {fr : _} {W0 : World} (Q : World → Prop) (hQ : Q W0) (k : ∀ W, Q W → Code.wp P c K fr W) : Code.wp P c K fr W0 := k _ hQ
theorem alloc_sz (w : World) (o : Obj) : (w.alloc o).heap.size = w.heap.size + 1 := by
  show (w.heap.push o).size = _
  rw [Array.size_push]
end Go.Proofs.YtkbfhgcjimfgkaaDoor
namespace Go.Proofs.YtkbfhgcjimfgkaaDoor
open Go.RowKit
/-- block b is this -/
def Blk (b : Nat) (o : Obj) (W : World) : Prop := W.heap[b]? = some o
theorem Blk.lt {b : Nat} {o : Obj} {W : World} (h : Blk b o W) : b < W.heap.size := (Array.getElem?_eq_some_iff.1 h).1
theorem Blk.go {b : Nat} {o : Obj} {W W' : World} (h : Blk b o W) (hb : Below W.heap.size W W') : Blk b o W' := (hb.block b h.lt).trans h
theorem Blk.new (W : World) (o : Obj) : Blk W.heap.size o (W.alloc o) := heap_alloc_new W o
theorem Blk.at (W : World) (o : Obj) (b : Nat) (h : W.heap.size = b) : Blk b o (W.alloc o) := heap_new_at W o b h
theorem Blk.alloc {b : Nat} {o : Obj} {W : World} (h : Blk b o W) (o' : Obj) : Blk b o (W.alloc o') := h.go ((Below.refl _ _).alloc (Nat.le_refl _) _)
theorem Blk.cell {b : Nat} {cs : Array Value} {t : Nat} {W : World} (h : Blk b (.cells cs t (0, 0)) W) (i : Nat) : W.cell? ⟨b, i, none⟩ = cs[i]? := cell_of_row _ _ _ _ _ _ h
theorem Good.go {W W' : World} (h : Good W) (hb : Below W.heap.size W W') : Good W' := h.below' hb
theorem up {a b c : World} (h : Below a.heap.size a b) (k : Below b.heap.size b c) : Below a.heap.size a c := h.trans (k.mono h.size)
theorem upper {B : Nat} {a b c : World} (h : Below B a b) (k : Below b.heap.size b c) (hB : B ≤ b.heap.size) : Below B a c := h.trans (k.mono hB)
theorem abs_run {P : Program} {f : Nat} {vs : Array Value} {F : Ending → World → Prop} {W0 : World} (Q : World → Prop) (hQ : Q W0) (k : ∀ W, Q W → Calls P f vs W F) : Calls P f vs W0 F := k _ hQ
end Go.Proofs.YtkbfhgcjimfgkaaDoor
set_option linter.unusedSimpArgs false
namespace Go.Proofs.YtkbfhgcjimfgkaaDoor
open Go.RowKit
theorem isBad_any (f : Fr) (a : Option Addr) (n c : Nat) (w : World) (hg : Good w) (hr : RdS (· < w.heap.size) w f.op a n c) (hf : f.fits) :
    Calls Tryd.prog 91 #[.agg #[.int .i64 f.kind, .int .i64 f.heard, .int .i64 f.epoch, .slice a n c, .string f.text]] w fun e w' => e = .returned (.bool (f.check != 0)) ∧ Below w.heap.size w w' := by
  have HC := Lib.hid (fun W (hW : Below w.heap.size w W) => checkFrame_any (· < W.heap.size) f.kind f.heard f.epoch f.op f.text a n c W (hg.go hW) (fun _ h => h) (hr.go hW) hf.1 hf.2.1 hf.2.2.1 hf.2.2.2)
  rw [show checkFrame f.kind f.heard f.epoch f.op f.text = f.check from rfl] at HC
  generalize f.check = F at *
  clear hr hg hf
  obtain ⟨k, h, e, o, t⟩ := f
  simp only at *
  obtain ⟨q, hq⟩ : ∃ q, (F != 0) = q := ⟨_, rfl⟩
  rw [hq]
  go_enter Tryd.func91, Tryd.ntmps91
  go_wp2_with fail
  refine abs_run (fun W => Below w.heap.size w W) (by (repeat (first | exact Below.refl _ _ | assumption | (refine Below.drew ?_) | (refine below_drewN ?_ _) | (refine Below.alloc ?_ (by first | (simp; done) | (simp; omega) | omega) _) | (refine Below.setCell ?_ (by first | (simp; done) | (simp; omega) | omega) _) | (refine Below.trans ?_ (Below.mono (by assumption) (by first | (simp; done) | (simp; omega) | omega)))))) ?_
  intro W hW
  refine (HC.out W hW).mono ?_
  rintro e w2 ⟨rfl, u2⟩
  have U2 := Lib.hid (up hW u2)
  clear hW u2 HC
  cases q
  · go_wp2_with fail
    go_ret
    exact ⟨rfl, U2.out⟩
  · go_wp2_with fail
    go_ret
    exact ⟨rfl, U2.out⟩
def frsOk (l : List Fr) : Bool := l.all fun f => f.check == 0
/-- the first that may not be -/
def firstBad : List Fr → Option Nat
  | [] => none
  | f :: l => if f.check = 0 then (firstBad l).map (· + 1) else some 0
theorem firstBad_ok : ∀ l, (firstBad l).isNone = frsOk l
  | [] => rfl
  | f :: l => by
    unfold firstBad frsOk
    by_cases h : f.check = 0
    · rw [if_pos h, List.all_cons, h]
      have := firstBad_ok l
      unfold frsOk at this
      rw [← this]
      cases firstBad l <;> rfl
    · rw [if_neg h, List.all_cons]
      simp [h]
theorem firstBad_drop : ∀ (l : List Fr) (k : Nat), (∀ f ∈ l.take k, f.check = 0) → firstBad l = (firstBad (l.drop k)).map (· + k)
  | l, 0, _ => by simp
  | [], k + 1, _ => by simp [firstBad]
  | f :: l, k + 1, h => by
    have h1 := firstBad_drop l k (fun g hg => h g (by rw [List.take_succ_cons]; exact List.mem_cons_of_mem _ hg))
    have h0 : f.check = 0 := h f (by rw [List.take_succ_cons]; exact List.mem_cons_self ..)
    rw [List.drop_succ_cons, show firstBad (f :: l) = (firstBad l).map (· + 1) from by rw [firstBad, if_pos h0], h1, Option.map_map]
    congr 1
def badIx (l : List Fr) : Int := match firstBad l with | some i => i | none => -1
set_option maxRecDepth 100000 in
set_option maxHeartbeats 2000000 in
theorem indexBad_any (l : List Fr) (a : Option Addr) (n c : Nat) (w : World) (hg : Good w) (hr : RdS (· < w.heap.size) w l a n c) :
    Calls Tryd.prog 98 #[.slice a n c, .func (.func 91) #[] #[]] w fun e w' => e = .returned (.int .i64 (badIx l)) ∧ Below w.heap.size w w' := by
  have hnl := hr.1
  have hnm : n ≤ maxLen := Nat.le_trans hr.2.1 hr.2.2.1
  unfold maxLen at hnm
  obtain ⟨R, hR⟩ : ∃ R, R = badIx l := ⟨_, rfl⟩
  rw [← hR]
  have HR := Lib.hid hR
  have Hg := Lib.hid hg
  have Hr := Lib.hid hr
  have Hl := Lib.hid hnl
  clear hR hg hr hnl
  go_enter Tryd.func98, Tryd.ntmps98
  go_wp2_with fail
  go_loopw [8] (fun i wr => ∃ k : Nat, k ≤ n ∧ i = .int .i64 k ∧ (∀ f ∈ l.take k, f.check = 0) ∧ Below w.heap.size w wr) (fun i _ => n - (intOf i).toNat)
  case atStart => exact ⟨0, by omega, rfl, by simp, Below.refl _ _⟩
  case round =>
    obtain ⟨k, hk, rfl, hok, hb⟩ := hrel
    have Hok := Lib.hid hok
    have HB := Lib.hid hb
    clear hok hb
    by_cases hlt : k < n
    · obtain ⟨b, off, rfl, hAb, hbs, hcs⟩ := Hr.out.frame (by omega)
      have hkl : k < l.length := by have := Hl.out; omega
      obtain ⟨ak, nk, ck, hrk, hfk, d0, d1, d2, d3, d4⟩ := hcs k hkl
      have e0 := (HB.out.cell (p := ⟨b, off + k * 5, none⟩) hbs).trans d0
      have e1 := (HB.out.cell (p := ⟨b, off + k * 5 + 1, none⟩) hbs).trans d1
      have e2 := (HB.out.cell (p := ⟨b, off + k * 5 + 1 + 1, none⟩) hbs).trans d2
      have e3 := (HB.out.cell (p := ⟨b, off + k * 5 + 1 + 1 + 1, none⟩) hbs).trans d3
      have e4 := (HB.out.cell (p := ⟨b, off + k * 5 + 1 + 1 + 1 + 1, none⟩) hbs).trans d4
      have HC := Lib.hid (isBad_any l[k] ak nk ck wr (Hg.out.go HB.out) (hrk.go HB.out) hfk)
      have Htk := Lib.hid (take_next l k hkl)
      have Hdr := Lib.hid (List.drop_eq_getElem_cons hkl)
      generalize hfk' : l[k] = f at *
      clear d0 d1 d2 d3 d4 hrk hcs hfk hfk'
      obtain ⟨fk, fh, fe, fo, ft⟩ := f
      simp only at *
      by_cases hc : (Fr.mk fk fh fe fo ft).check = 0
      · have hb0 : ((Fr.mk fk fh fe fo ft).check != 0) = false := by simpa using hc
        rw [hb0] at HC
        have Hc := Lib.hid hc
        clear hc hb0
        go_wp2_with fail
        refine HC.out.mono ?_
        rintro e w2 ⟨rfl, u2⟩
        have HB2 := Lib.hid (HB.out.trans (u2.mono HB.out.size))
        clear u2
        go_wp2_with fail
        go_roundw
        case rel => exact ⟨k + 1, by omega, by go_num, fun f hf => by
          rw [Htk.out] at hf
          rcases List.mem_append.1 hf with hf | hf
          · exact Hok.out f hf
          · simp at hf; subst hf; exact Hc.out, HB2.out⟩
        case measure => simp [intOf]; omega
      · have hb0 : ((Fr.mk fk fh fe fo ft).check != 0) = true := by simpa using hc
        rw [hb0] at HC
        have hRk : R = (k : Int) := by
          rw [HR.out]
          unfold badIx
          rw [firstBad_drop l k Hok.out, Hdr.out]
          unfold firstBad
          rw [if_neg hc]
          simp
        subst hRk
        clear hc hb0 HR
        go_wp2_with fail
        refine HC.out.mono ?_
        rintro e w2 ⟨rfl, u2⟩
        have HB2 := Lib.hid (HB.out.trans (u2.mono HB.out.size))
        clear u2
        go_wp2_with fail
        go_ret
        exact ⟨rfl, HB2.out⟩
    · have hkn : k = n := by omega
      have hRk : R = -1 := by
        rw [HR.out]
        unfold badIx
        rw [firstBad_drop l k Hok.out, List.drop_of_length_le (by have := Hl.out; omega)]
        rfl
      subst hRk
      clear HR hkn
      go_wp2_with fail
      go_ret
      exact ⟨rfl, HB.out⟩
theorem badIx_ok (l : List Fr) : (decide (0 ≤ badIx l)) = !frsOk l := by
  rw [← firstBad_ok]
  unfold badIx
  cases firstBad l <;> simp
theorem containsBad_any (l : List Fr) (a : Option Addr) (n c : Nat) (w : World) (hg : Good w) (hr : RdS (· < w.heap.size) w l a n c) :
    Calls Tryd.prog 90 #[.slice a n c, .func (.func 91) #[] #[]] w fun e w' => e = .returned (.bool (!frsOk l)) ∧ Below w.heap.size w w' := by
  have HC := Lib.hid (indexBad_any l a n c w hg hr)
  have hb := badIx_ok l
  generalize badIx l = z at *
  generalize (!frsOk l) = q at *
  clear hg hr
  cases q
  · go_enter Tryd.func90, Tryd.ntmps90
    go_wp2_with fail
    refine HC.out.mono ?_
    rintro e w2 ⟨rfl, u2⟩
    have U2 := Lib.hid u2
    clear u2
    go_wp2_with fail
    go_ret
    exact ⟨rfl, U2.out⟩
  · go_enter Tryd.func90, Tryd.ntmps90
    go_wp2_with fail
    refine HC.out.mono ?_
    rintro e w2 ⟨rfl, u2⟩
    have U2 := Lib.hid u2
    clear u2
    go_wp2_with fail
    go_ret
    exact ⟨rfl, U2.out⟩
theorem frames_any (l : List Fr) (a : Option Addr) (n c : Nat) (w : World) (hg : Good w) (hr : RdS (· < w.heap.size) w l a n c) :
    Calls Tryd.prog 73 #[.slice a n c] w fun e w' => e = .returned (.bool (frsOk l)) ∧ Below w.heap.size w w' := by
  have HC := Lib.hid (containsBad_any l a n c w hg hr)
  generalize frsOk l = q at *
  clear hg hr
  cases q
  · go_enter Tryd.func73, Tryd.ntmps73
    go_wp2_with fail
    refine HC.out.mono ?_
    rintro e w2 ⟨rfl, u2⟩
    have U2 := Lib.hid u2
    clear u2
    go_wp2_with fail
    go_ret
    exact ⟨rfl, U2.out⟩
  · go_enter Tryd.func73, Tryd.ntmps73
    go_wp2_with fail
    refine HC.out.mono ?_
    rintro e w2 ⟨rfl, u2⟩
    have U2 := Lib.hid u2
    clear u2
    go_wp2_with fail
    go_ret
    exact ⟨rfl, U2.out⟩
def Lk.odd1 (l : Lk) : Prop := l.epoch < 0 ∨ 1048576 < l.epoch ∨ l.next < 1 ∨ 1048576 < l.next ∨ l.heard < 0 ∨ 1048576 < l.heard
instance (l : Lk) : Decidable l.odd1 := by unfold Lk.odd1; infer_instance
def Lk.odd2 (l : Lk) : Prop := 8 < l.sent.length ∨ l.next ≤ (l.sent.length : Int) ∨ (0 < l.queue.length ∧ l.sent.length < 8) ∨ frsOk l.sent = false ∨ frsOk l.queue = false
instance (l : Lk) : Decidable l.odd2 := by unfold Lk.odd2; infer_instance
/-- what link.Check answers -/
def Lk.check (l : Lk) : Int := if l.odd1 then 9 else if l.odd2 then 9 else if l.epoch = 0 ∧ 0 < (l.sent.length : Int) + l.heard then 9 else 0
def Lk.fits (l : Lk) : Prop := I64 l.epoch ∧ I64 l.next ∧ I64 l.heard
/-- a link as a value -/
def lkV (l : Lk) (s q : Value) : Value := .agg #[.int .i64 l.epoch, .int .i64 l.next, s, q, .int .i64 l.heard]
theorem lk_odd1 (l : Lk) (a b : Option Addr) (n c m d : Nat) (w : World) (hf : l.fits) (ho : l.odd1) :
    Calls Tryd.prog 54 #[lkV l (.slice a n c) (.slice b m d)] w fun e w' => e = .returned (.int .i64 9) ∧ Below w.heap.size w w' := by
  unfold lkV
  obtain ⟨h1, h2, h3⟩ := hf
  unfold I64 at h1 h2 h3
  unfold Lk.odd1 at ho
  obtain ⟨ep, nx, se, qu, he⟩ := l
  simp only at *
  by_cases k1 : ep < 0
  · clear ho
    go_enter Tryd.func54, Tryd.ntmps54
    go_wp2_with fail
    go_ret
    exact ⟨rfl, by (repeat (first | exact Below.refl _ _ | assumption | (refine Below.drew ?_) | (refine below_drewN ?_ _) | (refine Below.alloc ?_ (by first | (simp; done) | (simp; omega) | omega) _) | (refine Below.setCell ?_ (by first | (simp; done) | (simp; omega) | omega) _) | (refine Below.trans ?_ (Below.mono (by assumption) (by first | (simp; done) | (simp; omega) | omega)))))⟩
  by_cases k2 : 1048576 < ep
  · clear ho
    go_enter Tryd.func54, Tryd.ntmps54
    go_wp2_with fail
    go_ret
    exact ⟨rfl, by (repeat (first | exact Below.refl _ _ | assumption | (refine Below.drew ?_) | (refine below_drewN ?_ _) | (refine Below.alloc ?_ (by first | (simp; done) | (simp; omega) | omega) _) | (refine Below.setCell ?_ (by first | (simp; done) | (simp; omega) | omega) _) | (refine Below.trans ?_ (Below.mono (by assumption) (by first | (simp; done) | (simp; omega) | omega)))))⟩
  by_cases k3 : nx < 1
  · clear ho
    go_enter Tryd.func54, Tryd.ntmps54
    go_wp2_with fail
    go_ret
    exact ⟨rfl, by (repeat (first | exact Below.refl _ _ | assumption | (refine Below.drew ?_) | (refine below_drewN ?_ _) | (refine Below.alloc ?_ (by first | (simp; done) | (simp; omega) | omega) _) | (refine Below.setCell ?_ (by first | (simp; done) | (simp; omega) | omega) _) | (refine Below.trans ?_ (Below.mono (by assumption) (by first | (simp; done) | (simp; omega) | omega)))))⟩
  by_cases k4 : 1048576 < nx
  · clear ho
    go_enter Tryd.func54, Tryd.ntmps54
    go_wp2_with fail
    go_ret
    exact ⟨rfl, by (repeat (first | exact Below.refl _ _ | assumption | (refine Below.drew ?_) | (refine below_drewN ?_ _) | (refine Below.alloc ?_ (by first | (simp; done) | (simp; omega) | omega) _) | (refine Below.setCell ?_ (by first | (simp; done) | (simp; omega) | omega) _) | (refine Below.trans ?_ (Below.mono (by assumption) (by first | (simp; done) | (simp; omega) | omega)))))⟩
  by_cases k5 : he < 0
  · clear ho
    go_enter Tryd.func54, Tryd.ntmps54
    go_wp2_with fail
    go_ret
    exact ⟨rfl, by (repeat (first | exact Below.refl _ _ | assumption | (refine Below.drew ?_) | (refine below_drewN ?_ _) | (refine Below.alloc ?_ (by first | (simp; done) | (simp; omega) | omega) _) | (refine Below.setCell ?_ (by first | (simp; done) | (simp; omega) | omega) _) | (refine Below.trans ?_ (Below.mono (by assumption) (by first | (simp; done) | (simp; omega) | omega)))))⟩
  · have k6 : 1048576 < he := by omega
    clear ho
    go_enter Tryd.func54, Tryd.ntmps54
    go_wp2_with fail
    go_ret
    exact ⟨rfl, by (repeat (first | exact Below.refl _ _ | assumption | (refine Below.drew ?_) | (refine below_drewN ?_ _) | (refine Below.alloc ?_ (by first | (simp; done) | (simp; omega) | omega) _) | (refine Below.setCell ?_ (by first | (simp; done) | (simp; omega) | omega) _) | (refine Below.trans ?_ (Below.mono (by assumption) (by first | (simp; done) | (simp; omega) | omega)))))⟩
set_option maxRecDepth 100000 in
set_option maxHeartbeats 2000000 in
theorem lk_odd2 (l : Lk) (a b : Option Addr) (n c m d : Nat) (w : World) (hg : Good w) (hr : RdS (· < w.heap.size) w l.sent a n c) (hq : RdS (· < w.heap.size) w l.queue b m d) (hf : l.fits) (h1 : ¬ l.odd1) (ho : l.odd2) :
    Calls Tryd.prog 54 #[lkV l (.slice a n c) (.slice b m d)] w fun e w' => e = .returned (.int .i64 9) ∧ Below w.heap.size w w' := by
  unfold lkV
  have HS := Lib.hid (fun W (hW : Below w.heap.size w W) => frames_any l.sent a n c W (hg.go hW) (hr.go hW))
  have HQ := Lib.hid (fun W (hW : Below w.heap.size w W) => frames_any l.queue b m d W (hg.go hW) (hq.go hW))
  have hn := hr.1
  have hm := hq.1
  have hn2 : n ≤ maxLen := Nat.le_trans hr.2.1 hr.2.2.1
  have hm2 : m ≤ maxLen := Nat.le_trans hq.2.1 hq.2.2.1
  unfold maxLen at hn2 hm2
  unfold Lk.odd1 at h1
  unfold Lk.odd2 at ho
  rw [← hn, ← hm] at ho
  obtain ⟨ep, nx, se, qu, he⟩ := l
  simp only at *
  generalize frsOk se = bs at *
  generalize frsOk qu = bq at *
  have k1 : 0 ≤ ep := by omega
  have k2 : ep ≤ 1048576 := by omega
  have k3 : 1 ≤ nx := by omega
  have k4 : nx ≤ 1048576 := by omega
  have k5 : 0 ≤ he := by omega
  have k6 : he ≤ 1048576 := by omega
  clear hf h1 hg hr hq hn hm
  by_cases j1 : 8 < n
  · have d1 : decide ((8 : Int) < (n : Int)) = true := by simp; omega
    clear ho
    go_enter Tryd.func54, Tryd.ntmps54
    go_wp2_with fail
    go_ret
    exact ⟨rfl, by (repeat (first | exact Below.refl _ _ | assumption | (refine Below.drew ?_) | (refine below_drewN ?_ _) | (refine Below.alloc ?_ (by first | (simp; done) | (simp; omega) | omega) _) | (refine Below.setCell ?_ (by first | (simp; done) | (simp; omega) | omega) _) | (refine Below.trans ?_ (Below.mono (by assumption) (by first | (simp; done) | (simp; omega) | omega)))))⟩
  have d1 : decide ((8 : Int) < (n : Int)) = false := by simp; omega
  by_cases j2 : nx ≤ (n : Int)
  · clear ho
    go_enter Tryd.func54, Tryd.ntmps54
    go_wp2_with fail
    go_ret
    exact ⟨rfl, by (repeat (first | exact Below.refl _ _ | assumption | (refine Below.drew ?_) | (refine below_drewN ?_ _) | (refine Below.alloc ?_ (by first | (simp; done) | (simp; omega) | omega) _) | (refine Below.setCell ?_ (by first | (simp; done) | (simp; omega) | omega) _) | (refine Below.trans ?_ (Below.mono (by assumption) (by first | (simp; done) | (simp; omega) | omega)))))⟩
  by_cases j3 : 0 < m
  · have d3 : decide ((0 : Int) < (m : Int)) = true := by simp; omega
    by_cases j4 : n < 8
    · have d4 : decide ((n : Int) < 8) = true := by simp; omega
      clear ho
      go_enter Tryd.func54, Tryd.ntmps54
      go_wp2_with fail
      go_ret
      exact ⟨rfl, by (repeat (first | exact Below.refl _ _ | assumption | (refine Below.drew ?_) | (refine below_drewN ?_ _) | (refine Below.alloc ?_ (by first | (simp; done) | (simp; omega) | omega) _) | (refine Below.setCell ?_ (by first | (simp; done) | (simp; omega) | omega) _) | (refine Below.trans ?_ (Below.mono (by assumption) (by first | (simp; done) | (simp; omega) | omega)))))⟩
    · have d4 : decide ((n : Int) < 8) = false := by simp; omega
      have ho2 : bs = false ∨ bq = false := by
        rcases ho with h | h | h | h | h
        · omega
        · omega
        · omega
        · exact .inl h
        · exact .inr h
      clear ho
      cases bs with
      | false =>
        clear ho2
        go_enter Tryd.func54, Tryd.ntmps54
        go_wp2_with fail
        refine (HS.out _ ((Below.refl _ _).alloc (Nat.le_refl _) _)).mono ?_
        rintro e w2 ⟨rfl, u2⟩
        have U2 := Lib.hid (up ((Below.refl _ _).alloc (Nat.le_refl _) _) u2)
        clear u2 HS HQ
        go_wp2_with fail
        go_ret
        exact ⟨rfl, U2.out⟩
      | true =>
        have hbq : bq = false := by simpa using ho2
        subst hbq
        clear ho2
        go_enter Tryd.func54, Tryd.ntmps54
        go_wp2_with fail
        refine (HS.out _ ((Below.refl _ _).alloc (Nat.le_refl _) _)).mono ?_
        rintro e w2 ⟨rfl, u2⟩
        have x2 := (Blk.new w _).go u2
        have c3 : w2.cell? ⟨w.heap.size, 3, none⟩ = some (.slice b m d) := x2.cell 3
        have U2 := Lib.hid (up ((Below.refl _ _).alloc (Nat.le_refl _) _) u2)
        clear u2 HS x2
        go_wp2_with fail
        refine (HQ.out _ U2.out).mono ?_
        rintro e w3 ⟨rfl, u3⟩
        have U3 := Lib.hid (up U2.out u3)
        clear u3 HQ
        go_wp2_with fail
        go_ret
        exact ⟨rfl, U3.out⟩
  · have hm0 : m = 0 := by omega
    subst hm0
    have ho2 : bs = false ∨ bq = false := by
      rcases ho with h | h | h | h | h
      · omega
      · omega
      · omega
      · exact .inl h
      · exact .inr h
    clear ho j3
    cases bs with
    | false =>
      clear ho2
      go_enter Tryd.func54, Tryd.ntmps54
      go_wp2_with fail
      refine (HS.out _ ((Below.refl _ _).alloc (Nat.le_refl _) _)).mono ?_
      rintro e w2 ⟨rfl, u2⟩
      have U2 := Lib.hid (up ((Below.refl _ _).alloc (Nat.le_refl _) _) u2)
      clear u2 HS HQ
      go_wp2_with fail
      go_ret
      exact ⟨rfl, U2.out⟩
    | true =>
      have hbq : bq = false := by simpa using ho2
      subst hbq
      clear ho2
      go_enter Tryd.func54, Tryd.ntmps54
      go_wp2_with fail
      refine (HS.out _ ((Below.refl _ _).alloc (Nat.le_refl _) _)).mono ?_
      rintro e w2 ⟨rfl, u2⟩
      have x2 := (Blk.new w _).go u2
      have c3 : w2.cell? ⟨w.heap.size, 3, none⟩ = some (.slice b 0 d) := x2.cell 3
      have U2 := Lib.hid (up ((Below.refl _ _).alloc (Nat.le_refl _) _) u2)
      clear u2 HS x2
      go_wp2_with fail
      refine (HQ.out _ U2.out).mono ?_
      rintro e w3 ⟨rfl, u3⟩
      have U3 := Lib.hid (up U2.out u3)
      clear u3 HQ
      go_wp2_with fail
      go_ret
      exact ⟨rfl, U3.out⟩
end Go.Proofs.YtkbfhgcjimfgkaaDoor
set_option linter.unusedSimpArgs false
namespace Go.Proofs.YtkbfhgcjimfgkaaDoor
open Go.RowKit
set_option maxRecDepth 100000 in
set_option maxHeartbeats 2000000 in
theorem lk_end (l : Lk) (a b : Option Addr) (n c m d : Nat) (w : World) (hg : Good w) (hr : RdS (· < w.heap.size) w l.sent a n c) (hq : RdS (· < w.heap.size) w l.queue b m d) (hf : l.fits) (h1 : ¬ l.odd1) (ho : ¬ l.odd2) :
    Calls Tryd.prog 54 #[lkV l (.slice a n c) (.slice b m d)] w fun e w' => e = .returned (.int .i64 l.check) ∧ Below w.heap.size w w' := by
  unfold lkV
  have HS := Lib.hid (fun W (hW : Below w.heap.size w W) => frames_any l.sent a n c W (hg.go hW) (hr.go hW))
  have HQ := Lib.hid (fun W (hW : Below w.heap.size w W) => frames_any l.queue b m d W (hg.go hW) (hq.go hW))
  have hn := hr.1
  have hm := hq.1
  have hn2 : n ≤ maxLen := Nat.le_trans hr.2.1 hr.2.2.1
  have hm2 : m ≤ maxLen := Nat.le_trans hq.2.1 hq.2.2.1
  unfold maxLen at hn2 hm2
  obtain ⟨R, hR⟩ : ∃ R, R = l.check := ⟨_, rfl⟩
  rw [← hR]
  unfold Lk.check at hR
  rw [if_neg h1, if_neg ho, ← hn] at hR
  unfold Lk.odd1 at h1
  unfold Lk.odd2 at ho
  rw [← hn, ← hm] at ho
  obtain ⟨ep, nx, se, qu, he⟩ := l
  simp only at *
  have hbs : frsOk se = true := by
    cases hh : frsOk se with
    | true => rfl
    | false => exact absurd (.inr (.inr (.inr (.inl hh)))) ho
  have hbq : frsOk qu = true := by
    cases hh : frsOk qu with
    | true => rfl
    | false => exact absurd (.inr (.inr (.inr (.inr hh)))) ho
  rw [hbs] at HS
  rw [hbq] at HQ
  have k1 : 0 ≤ ep := by omega
  have k2 : ep ≤ 1048576 := by omega
  have k3 : 1 ≤ nx := by omega
  have k4 : nx ≤ 1048576 := by omega
  have k5 : 0 ≤ he := by omega
  have k6 : he ≤ 1048576 := by omega
  have j1 : n ≤ 8 := by omega
  have d1 : decide ((8 : Int) < (n : Int)) = false := by simp; omega
  have j2 : (n : Int) < nx := by omega
  have HR := Lib.hid hR
  clear hf h1 hg hr hq hn hm hbs hbq hR
  by_cases j3 : 0 < m
  · have d3 : decide ((0 : Int) < (m : Int)) = true := by simp; omega
    have d4 : decide ((n : Int) < 8) = false := by simp; omega
    have hn8 : n = 8 := by omega
    clear ho
    have hsum : decide (0 < (n : Int) + he) = true := by simp; omega
    by_cases he0 : ep = 0
    · have b0 : (ep == 0) = true := by simpa using he0
      have hR2 : R = 9 := HR.out.trans (if_pos ⟨he0, by omega⟩)
      subst hR2
      clear HR he0 hn8
      go_enter Tryd.func54, Tryd.ntmps54
      go_wp2_with fail
      refine (HS.out _ ((Below.refl _ _).alloc (Nat.le_refl _) _)).mono ?_
      rintro e w2 ⟨rfl, u2⟩
      have x2 := Lib.hid ((Blk.new w _).go u2)
      have c3 : w2.cell? ⟨w.heap.size, 3, none⟩ = some (.slice b m d) := x2.out.cell 3
      have U2 := Lib.hid (up ((Below.refl _ _).alloc (Nat.le_refl _) _) u2)
      clear u2 HS
      go_wp2_with fail
      refine (HQ.out _ U2.out).mono ?_
      rintro e w3 ⟨rfl, u3⟩
      have x3 := x2.out.go u3
      have e0 : w3.cell? ⟨w.heap.size, 0, none⟩ = some (.int .i64 ep) := x3.cell 0
      have e2 : w3.cell? ⟨w.heap.size, 2, none⟩ = some (.slice a n c) := x3.cell 2
      have e4 : w3.cell? ⟨w.heap.size, 4, none⟩ = some (.int .i64 he) := x3.cell 4
      have U3 := Lib.hid (up U2.out u3)
      clear u3 HQ x2 x3 c3
      go_wp2_with fail
      go_ret
      exact ⟨rfl, U3.out⟩
    · have b0 : (ep == 0) = false := by simpa using he0
      have hR2 : R = 0 := HR.out.trans (if_neg (fun h => he0 h.1))
      subst hR2
      clear HR he0 hn8
      go_enter Tryd.func54, Tryd.ntmps54
      go_wp2_with fail
      refine (HS.out _ ((Below.refl _ _).alloc (Nat.le_refl _) _)).mono ?_
      rintro e w2 ⟨rfl, u2⟩
      have x2 := Lib.hid ((Blk.new w _).go u2)
      have c3 : w2.cell? ⟨w.heap.size, 3, none⟩ = some (.slice b m d) := x2.out.cell 3
      have U2 := Lib.hid (up ((Below.refl _ _).alloc (Nat.le_refl _) _) u2)
      clear u2 HS
      go_wp2_with fail
      refine (HQ.out _ U2.out).mono ?_
      rintro e w3 ⟨rfl, u3⟩
      have x3 := x2.out.go u3
      have e0 : w3.cell? ⟨w.heap.size, 0, none⟩ = some (.int .i64 ep) := x3.cell 0
      have U3 := Lib.hid (up U2.out u3)
      clear u3 HQ x2 x3 c3
      go_wp2_with fail
      go_ret
      exact ⟨rfl, U3.out⟩
  · have hm0 : m = 0 := by omega
    subst hm0
    clear ho j3
    by_cases he0 : ep = 0
    · have b0 : (ep == 0) = true := by simpa using he0
      by_cases hs0 : 0 < (n : Int) + he
      · have hsum : decide (0 < (n : Int) + he) = true := by simpa using hs0
        have hR2 : R = 9 := HR.out.trans (if_pos ⟨he0, hs0⟩)
        subst hR2
        clear HR he0
        go_enter Tryd.func54, Tryd.ntmps54
        go_wp2_with fail
        refine (HS.out _ ((Below.refl _ _).alloc (Nat.le_refl _) _)).mono ?_
        rintro e w2 ⟨rfl, u2⟩
        have x2 := Lib.hid ((Blk.new w _).go u2)
        have c3 : w2.cell? ⟨w.heap.size, 3, none⟩ = some (.slice b 0 d) := x2.out.cell 3
        have U2 := Lib.hid (up ((Below.refl _ _).alloc (Nat.le_refl _) _) u2)
        clear u2 HS
        go_wp2_with fail
        refine (HQ.out _ U2.out).mono ?_
        rintro e w3 ⟨rfl, u3⟩
        have x3 := x2.out.go u3
        have e0 : w3.cell? ⟨w.heap.size, 0, none⟩ = some (.int .i64 ep) := x3.cell 0
        have e2 : w3.cell? ⟨w.heap.size, 2, none⟩ = some (.slice a n c) := x3.cell 2
        have e4 : w3.cell? ⟨w.heap.size, 4, none⟩ = some (.int .i64 he) := x3.cell 4
        have U3 := Lib.hid (up U2.out u3)
        clear u3 HQ x2 x3 c3
        go_wp2_with fail
        go_ret
        exact ⟨rfl, U3.out⟩
      · have hR2 : R = 0 := HR.out.trans (if_neg (fun h => hs0 h.2))
        obtain rfl : n = 0 := by omega
        obtain rfl : he = 0 := by omega
        subst hR2
        clear HR he0 hs0
        go_enter Tryd.func54, Tryd.ntmps54
        go_wp2_with fail
        refine (HS.out _ ((Below.refl _ _).alloc (Nat.le_refl _) _)).mono ?_
        rintro e w2 ⟨rfl, u2⟩
        have x2 := Lib.hid ((Blk.new w _).go u2)
        have c3 : w2.cell? ⟨w.heap.size, 3, none⟩ = some (.slice b 0 d) := x2.out.cell 3
        have U2 := Lib.hid (up ((Below.refl _ _).alloc (Nat.le_refl _) _) u2)
        clear u2 HS
        go_wp2_with fail
        refine (HQ.out _ U2.out).mono ?_
        rintro e w3 ⟨rfl, u3⟩
        have x3 := x2.out.go u3
        have e0 : w3.cell? ⟨w.heap.size, 0, none⟩ = some (.int .i64 ep) := x3.cell 0
        have e2 : w3.cell? ⟨w.heap.size, 2, none⟩ = some (.slice a 0 c) := x3.cell 2
        have e4 : w3.cell? ⟨w.heap.size, 4, none⟩ = some (.int .i64 0) := x3.cell 4
        have U3 := Lib.hid (up U2.out u3)
        clear u3 HQ x2 x3 c3
        go_wp2_with fail
        go_ret
        exact ⟨rfl, U3.out⟩
    · have b0 : (ep == 0) = false := by simpa using he0
      have hR2 : R = 0 := HR.out.trans (if_neg (fun h => he0 h.1))
      subst hR2
      clear HR he0
      go_enter Tryd.func54, Tryd.ntmps54
      go_wp2_with fail
      refine (HS.out _ ((Below.refl _ _).alloc (Nat.le_refl _) _)).mono ?_
      rintro e w2 ⟨rfl, u2⟩
      have x2 := Lib.hid ((Blk.new w _).go u2)
      have c3 : w2.cell? ⟨w.heap.size, 3, none⟩ = some (.slice b 0 d) := x2.out.cell 3
      have U2 := Lib.hid (up ((Below.refl _ _).alloc (Nat.le_refl _) _) u2)
      clear u2 HS
      go_wp2_with fail
      refine (HQ.out _ U2.out).mono ?_
      rintro e w3 ⟨rfl, u3⟩
      have x3 := x2.out.go u3
      have e0 : w3.cell? ⟨w.heap.size, 0, none⟩ = some (.int .i64 ep) := x3.cell 0
      have U3 := Lib.hid (up U2.out u3)
      clear u3 HQ x2 x3 c3
      go_wp2_with fail
      go_ret
      exact ⟨rfl, U3.out⟩
theorem lkCheck_any (l : Lk) (a b : Option Addr) (n c m d : Nat) (w : World) (hg : Good w) (hr : RdS (· < w.heap.size) w l.sent a n c) (hq : RdS (· < w.heap.size) w l.queue b m d) (hf : l.fits) :
    Calls Tryd.prog 54 #[lkV l (.slice a n c) (.slice b m d)] w fun e w' => e = .returned (.int .i64 l.check) ∧ Below w.heap.size w w' := by
  by_cases h1 : l.odd1
  · have : l.check = 9 := if_pos h1
    rw [this]
    exact lk_odd1 l a b n c m d w hf h1
  · by_cases h2 : l.odd2
    · have : l.check = 9 := by unfold Lk.check; rw [if_neg h1, if_pos h2]
      rw [this]
      exact lk_odd2 l a b n c m d w hg hr hq hf h1 h2
    · exact lk_end l a b n c m d w hg hr hq hf h1 h2
/-- a link that may be -/
theorem lk_zero {l : Lk} (h : l.check = 0) : 0 ≤ l.epoch ∧ l.epoch ≤ 1048576 ∧ 1 ≤ l.next ∧ l.next ≤ 1048576 ∧ 0 ≤ l.heard ∧ l.heard ≤ 1048576 ∧ l.sent.length ≤ 8 ∧ (l.sent.length : Int) < l.next ∧ (0 < l.queue.length → l.sent.length = 8) ∧
    frsOk l.sent = true ∧ frsOk l.queue = true ∧ (l.epoch = 0 → l.sent = [] ∧ l.heard = 0) := by
  unfold Lk.check at h
  by_cases h1 : l.odd1
  · rw [if_pos h1] at h; exact absurd h (by decide)
  · rw [if_neg h1] at h
    by_cases h2 : l.odd2
    · rw [if_pos h2] at h; exact absurd h (by decide)
    · rw [if_neg h2] at h
      by_cases h3 : l.epoch = 0 ∧ 0 < (l.sent.length : Int) + l.heard
      · rw [if_pos h3] at h; exact absurd h (by decide)
      · unfold Lk.odd1 at h1
        unfold Lk.odd2 at h2
        have hbs : frsOk l.sent = true := by
          cases hh : frsOk l.sent with
          | true => rfl
          | false => exact absurd (.inr (.inr (.inr (.inl hh)))) h2
        have hbq : frsOk l.queue = true := by
          cases hh : frsOk l.queue with
          | true => rfl
          | false => exact absurd (.inr (.inr (.inr (.inr hh)))) h2
        exact ⟨by omega, by omega, by omega, by omega, by omega, by omega, by omega, by omega, fun hq => by omega, hbs, hbq, fun he => ⟨List.eq_nil_of_length_eq_zero (by omega), by omega⟩⟩
theorem lk_make {l : Lk} (h1 : 0 ≤ l.epoch) (h2 : l.epoch ≤ 1048576) (h3 : 1 ≤ l.next) (h4 : l.next ≤ 1048576) (h5 : 0 ≤ l.heard) (h6 : l.heard ≤ 1048576) (h7 : l.sent.length ≤ 8) (h8 : (l.sent.length : Int) < l.next) (h9 : 0 < l.queue.length → l.sent.length = 8)
    (h10 : frsOk l.sent = true) (h11 : frsOk l.queue = true) (h12 : l.epoch = 0 → l.sent = [] ∧ l.heard = 0) : l.check = 0 := by
  unfold Lk.check
  rw [if_neg (by unfold Lk.odd1; omega), if_neg, if_neg]
  · rintro ⟨he, hs⟩
    obtain ⟨h13, h14⟩ := h12 he
    rw [h13, h14] at hs
    simp at hs
  · unfold Lk.odd2
    rw [h10, h11]
    simp
    omega
end Go.Proofs.YtkbfhgcjimfgkaaDoor
