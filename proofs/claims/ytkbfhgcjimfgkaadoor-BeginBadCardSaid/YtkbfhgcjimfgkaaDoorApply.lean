/- The walk of text.Apply. -/
import Derived.Test.YtkbfhgcjimfgkaaDoorLink
import Derived.Test.YtkbfhgcjimfgkaaDoorBld
import Derived.Test.YtkbfhgcjimfgkaaDoorKeep
set_option linter.unusedVariables false
set_option linter.unusedSimpArgs false
namespace Go.Proofs.YtkbfhgcjimfgkaaDoor
open Go.RowKit

/-- what text.Apply refuses -/
def applyE (s : Str) (o : Op) : Int := if checkText s ≠ 0 then checkText s else if check o ≠ 0 then check o else if sumF o ≠ rc s then 10 else 0
/-- .. and what it makes -/
def applyS (s : Str) (o : Op) : Str := if applyE s o = 0 then Uni.enc (app (rns s) (opP o)) else noText

/-- runes lie in block g -/
def RunesAt (w : World) (g : Nat) (rs : List Nat) : Prop := g < w.heap.size ∧ ∀ j r, rs[j]? = some r → w.cell? ⟨g, j, none⟩ = some (.int .i32 ((r : Nat) : Int))
theorem RunesAt.below {w w' : World} {B g : Nat} {rs : List Nat} (h : RunesAt w g rs) (hb : Below B w w') (hB : g < B) : RunesAt w' g rs :=
  ⟨Nat.lt_of_lt_of_le h.1 hb.size, fun j r hj => (hb.cell (p := ⟨g, j, none⟩) hB).trans (h.2 j r hj)⟩
/-- some of them as a string -/
theorem RunesAt.conv {w : World} {g : Nat} {rs : List Nat} (h : RunesAt w g rs) (off m c : Nat) (hm : off + m ≤ rs.length) :
    (convert 86 9 (.slice (some ⟨g, off, none⟩) m c)).run Tryd.prog w = .ok (.string (Uni.enc ((rs.drop off).take m))) w := by
  have hz : ∀ j, j < (((rs.drop off).take m).map fun r : Nat => (r : Int)).length → w.cell? ((⟨g, off, none⟩ : Addr).add j) = some (.int .i32 ((((rs.drop off).take m).map fun r : Nat => (r : Int)).getD j 0)) := by
    intro j hj
    simp only [List.length_map, List.length_take, List.length_drop] at hj
    have e : (⟨g, off, none⟩ : Addr).add j = ⟨g, off + j, none⟩ := by
      unfold Addr.add
      split
      · rename_i h0; rw [h0]; rfl
      · rfl
    have h1 : off + j < rs.length := by omega
    rw [e, h.2 (off + j) rs[off + j] (List.getElem?_eq_getElem h1)]
    simp only [List.getD, List.getElem?_map]
    rw [List.getElem?_take_of_lt (by omega), List.getElem?_drop, List.getElem?_eq_getElem h1]
    rfl
  have hr := run_convert_runes (P := Tryd.prog) w 86 9 21 ⟨g, off, none⟩ m c (((rs.drop off).take m).map fun r : Nat => (r : Int)) (by simp; omega) Tryd.underlying86 Tryd.underlying21 Tryd.underlying9 hz
  rw [List.take_of_length_le (by simp; omega), runesBytes_enc] at hr
  exact hr
/-- a string as runes: where they lie then -/
theorem runes_of (s : Str) (hs : s.size ≤ 70368744177664) : ∃ R : Array Value, R.size = (rns s).length ∧ R = ((rns s).map fun r : Nat => Value.int .i32 ((r : Nat) : Int)).toArray ∧ (∀ W : World, (convert 9 86 (.string s)).run Tryd.prog W =
    .ok (.slice (some ⟨W.heap.size, 0, none⟩) (rns s).length (grownCap W (rns s).length 0 21)) (W.drew.alloc (.cells (R ++ Array.replicate (grownCap W (rns s).length 0 21 - (rns s).length) (.int .i32 0)) 21))) := by
  have hR : Conv.runesFrom s s.size 0 #[] = ((rns s).map fun r : Nat => Value.int .i32 ((r : Nat) : Int)).toArray := by
    rw [Uni.runesFrom_dec]; simp [rns, Uni.dec]
  have hz : (Conv.runesFrom s s.size 0 #[]).size = (rns s).length := by rw [hR]; simp
  refine ⟨Conv.runesFrom s s.size 0 #[], hz, hR, fun W => ?_⟩
  have h := run_runes_of_string (P := Tryd.prog) W 9 86 21 s Tryd.underlying9 Tryd.underlying86 Tryd.underlying21
    (by rw [hz]; have h2 := rc_rns s; have h3 := rc_le s; omega)
  rw [hz] at h
  exact h
theorem runesAt_new (W : World) (R : Array Value) (J : Array Value) (rs : List Nat) (hR : R = (rs.map fun r : Nat => Value.int .i32 ((r : Nat) : Int)).toArray) (t : TypeId) : RunesAt (W.alloc (.cells (R ++ J) t)).drew W.heap.size rs := by
  subst hR
  refine ⟨by simp, fun j r hj => ?_⟩
  show (W.alloc (.cells _ t)).cell? _ = _
  rw [cell_of_row _ W.heap.size j _ t (0, 0) (heap_new_at _ _ _ (by simp))]
  have hlt := (List.getElem?_eq_some_iff.1 hj).1
  rw [Array.getElem?_append_left (by simpa using hlt)]
  simp [hj]
/-- the cells of parts over runes -/
theorem OpIs.cells {o : Op} {l : List P} (h : OpIs o l) {A : Nat → Prop} {w : World} {a : Option Addr} {n c : Nat} (hr : RdS A w o a n c) (hn : 0 < n) :
    ∃ b off, a = some ⟨b, off, none⟩ ∧ A b ∧ b < w.heap.size ∧ ∀ i p, l[i]? = some p →
      w.cell? ⟨b, off + i * 3, none⟩ = some (.int .i64 p.part.kind) ∧ w.cell? ⟨b, off + i * 3 + 1, none⟩ = some (.int .i64 p.part.n) ∧ w.cell? ⟨b, off + i * 3 + 2, none⟩ = some (.string p.part.text) := by
  obtain ⟨b, off, e, hA, hb, hc⟩ := hr.part hn
  refine ⟨b, off, e, hA, hb, fun i p hi => ?_⟩
  have hil : i < o.length := by rw [h.eq]; simpa using (List.getElem?_eq_some_iff.1 hi).1
  have hoi : o[i] = p.part := by
    have h1 : o[i]? = some p.part := by rw [h.eq, List.getElem?_map, hi]; rfl
    rw [List.getElem?_eq_getElem hil] at h1
    exact Option.some.inj h1
  have := hc i hil
  rw [hoi] at this
  exact this.2.2.2
theorem FS_take (l : List P) (k : Nat) : FS (l.take k) ≤ FS l := by
  have := FS_app (l.take k) (l.drop k)
  rw [List.take_append_drop] at this; omega
theorem TS_take (l : List P) (k : Nat) : TS (l.take k) ≤ TS l := by
  have := TS_app (l.take k) (l.drop k)
  rw [List.take_append_drop] at this; omega
theorem FS_next (l : List P) (k : Nat) (h : k < l.length) : FS (l.take (k + 1)) = FS (l.take k) + l[k].F := by
  rw [take_next l k h, FS_app]; simp [FS]
theorem TS_next (l : List P) (k : Nat) (h : k < l.length) : TS (l.take (k + 1)) = TS (l.take k) + l[k].T := by
  rw [take_next l k h, TS_app]; simp [TS]
theorem app_next (l : List P) (k : Nat) (h : k < l.length) (t : List Nat) : app t (l.take (k + 1)) = app t (l.take k) ++ app (t.drop (FS (l.take k))) [l[k]] := by
  rw [take_next l k h, app_app]
theorem enc_bytes (l : List Nat) : (Uni.enc l).data.toList = Uni.encL l := rfl

set_option maxRecDepth 100000 in
set_option maxHeartbeats 4000000 in
theorem apply_ok (s : Str) (o : Op) (a : Option Addr) (n c : Nat) (w : World) (hg : Good w) (hr : RdS (· < w.heap.size) w o a n c) (hs : s.size ≤ 70368744177664) (h0 : checkText s = 0) (h1 : check o = 0) (h2 : sumF o = rc s) :
    Calls Tryd.prog 22 #[.string s, .slice a n c] w fun e w' => e = .returned (.tuple #[.string (Uni.enc (app (rns s) (opP o))), .int .i64 0]) ∧ Below w.heap.size w w' := by
  have hss : s.size ≤ strMax := by unfold strMax; omega
  have HT := Lib.hid (by have := checkText_any s w hg hss; rw [h0] at this; exact this)
  have HC := Lib.hid (fun W (hb : Below w.heap.size w W) => by
    have := check_any (· < w.heap.size) o a n c W (hg.below' hb) (fun b h => Nat.lt_of_lt_of_le h hb.size) (hr.below (fun _ h => h) hb)
    rw [h1] at this; exact this)
  have HL := Lib.hid (fun W (hb : Below w.heap.size w W) => lengths_any (· < w.heap.size) o a n c W (hr.below (fun _ h => h) hb) (check_small h1))
  have hv : valid s = true := by
    unfold checkText at h0
    cases hv : valid s with
    | true => rfl
    | false => rw [hv] at h0; simp at h0
  have hvr := rns_vr hv
  have hrc := rc_rns s
  obtain ⟨R, hRz, hR, hconv⟩ := runes_of s hs
  have hcl := rc_le s
  have hO := opIs h1
  have hnl : n = (opP o).length := by have h := hr.1; rw [h]; unfold opP; simp
  have hn2 : n ≤ 8001 := by rw [hnl]; exact hO.len
  have hcells := fun h => hO.cells hr h
  have hFl := hO.fl
  have hTl := hO.tl
  have hF : FS (opP o) = (rns s).length := by have := hO.f; omega
  rw [h2, hrc] at HL
  have hok := hO.ok
  have htn := sumT o
  clear hr hO h0 h1 h2 hss hv hg htn hrc hcl
  generalize sumT o = tn at *
  generalize opP o = l at *
  generalize rns s = rs at *
  have Hcells := Lib.hid hcells
  have Hl := Lib.hid hnl
  have HF := Lib.hid hF
  have HRz := Lib.hid hRz
  have HR := Lib.hid hR
  have Hvr := Lib.hid hvr
  have Hok := Lib.hid hok
  clear hcells hnl hF hRz hR hvr hok
  -- what the parts up to k make is short
  have Hout : Hid (∀ k, k ≤ l.length → (Uni.encL (app rs (l.take k))).length ≤ 16000) := by
    unfold Hid
    intro k hk
    have h1 := Uni.encL_append
    have h2 := encL_size (app rs (l.take k)) (app_vr _ _ Hvr.out (fun p hp => Hok.out p (List.mem_of_mem_take hp)))
    have h3 := app_len (l.take k) rs (by have := FS_take l k; have := HF.out; omega)
    have h4 := TS_take l k
    omega
  go_enter Tryd.func22, Tryd.ntmps22
  go_wp2_with fail
  refine HT.out.mono ?_
  rintro e w1 ⟨rfl, hb1⟩
  clear HT
  go_wp2_with fail
  refine (HC.out _ hb1).mono ?_
  rintro e w2 ⟨rfl, hb2⟩
  clear HC
  have hb2 := hb1.trans (hb2.mono hb1.size)
  clear hb1
  go_wp2_with fail
  have hz2 := hb2.size
  have hg2 : RunesAt (w2.alloc (.cells (R ++ Array.replicate (grownCap w2 rs.length 0 21 - rs.length) (.int .i32 0)) 21)).drew w2.heap.size rs := runesAt_new w2 R _ rs HR.out _
  have hcap := grownCap_ge w2 rs.length 0 21
  have hcapm : grownCap w2 rs.length 0 21 ≤ maxLen := grownCap_le_maxLen w2 rs.length 0 21 (by have := HF.out; unfold maxLen; omega)
  have hbW : Below w.heap.size w (w2.alloc (.cells (R ++ Array.replicate (grownCap w2 rs.length 0 21 - rs.length) (.int .i32 0)) 21)).drew := by (repeat (first | exact Below.refl _ _ | assumption | (refine Below.drew ?_) | (refine below_drewN ?_ _) | (refine Below.alloc ?_ (by first | (simp; done) | (simp; omega) | omega) _) | (refine Below.setCell ?_ (by first | (simp; done) | (simp; omega) | omega) _) | (refine Below.trans ?_ (Below.mono (by assumption) (by first | (simp; done) | (simp; omega) | omega)))))
  have hz3 : w2.heap.size < (w2.alloc (.cells (R ++ Array.replicate (grownCap w2 rs.length 0 21 - rs.length) (.int .i32 0)) 21)).drew.heap.size := hg2.1
  generalize (w2.alloc (.cells (R ++ Array.replicate (grownCap w2 rs.length 0 21 - rs.length) (.int .i32 0)) 21)).drew = w3 at *
  generalize grownCap w2 rs.length 0 21 = cap at *
  generalize w2.heap.size = g at *
  clear hb2 hconv HRz HR
  refine (HL.out _ hbW).mono ?_
  rintro e w4 ⟨rfl, hb4⟩
  have hbW := hbW.trans (hb4.mono hbW.size)
  have hg4 := hg2.below hb4 hz3
  have hz4 := hb4.size
  clear hb4 HL hg2
  unfold maxLen at hcapm
  go_wp2_with fail
  have hBw : w.heap.size ≤ w4.heap.size := hbW.size
  have hgB : g < w4.heap.size := by omega
  have h0 : Bld w4.heap.size w4.heap.size (Uni.encL (app rs (l.take 0))) (w4.alloc (.cells #[.pointer none, .slice none 0 0] 113)) := Lib.fresh_isBuilder _ _ w4
  have h1 : RunesAt (w4.alloc (.cells #[.pointer none, .slice none 0 0] 113)) g rs := hg4.below ((Below.refl _ _).alloc (Nat.le_refl _) _) hgB
  have H0 := Lib.hid h0
  have H1 := Lib.hid h1
  have H2 := Lib.hid (hbW.alloc hBw (.cells #[.pointer none, .slice none 0 0] 113))
  have H3 : Hid (w4.heap.size ≤ (w4.alloc (.cells #[.pointer none, .slice none 0 0] 113)).heap.size) := by unfold Hid; simp
  clear h0 h1 hbW hg4
  generalize (w4.alloc (.cells #[.pointer none, .slice none 0 0] 113)) = w5 at *
  generalize w4.heap.size = B at *
  go_loopw [12, 38] (fun t i wr => ∃ k : Nat, k ≤ n ∧ i = .int .i64 k ∧ t = .int .i64 ((FS (l.take k) : Nat) : Int) ∧ Bld B B (Uni.encL (app rs (l.take k))) wr ∧ RunesAt wr g rs ∧ B ≤ wr.heap.size ∧ Below w.heap.size w wr) (fun _ i _ => n - (intOf i).toNat)
  case atStart => exact ⟨0, by omega, rfl, rfl, H0.out, H1.out, H3.out, H2.out⟩
  case round =>
    obtain ⟨k, hk, rfl, rfl, hbld, hrun, hBr, hb⟩ := hrel
    clear H0 H1 H2 H3
    by_cases hlt : k < n
    · obtain ⟨b, off, rfl, _, hbs, hcs⟩ := Hcells.out (by omega)
      have hkl : k < l.length := by have := Hl.out; omega
      obtain ⟨c0, c1, c2⟩ := hcs k l[k] (List.getElem?_eq_getElem hkl)
      clear hcs
      obtain ⟨hcb, hfb⟩ := bcell hb
      have HFn := Lib.hid (FS_next l k hkl)
      have Hap := Lib.hid (app_next l k hkl rs)
      have hFk := FS_take l (k + 1)
      have hFl2 := HF.out
      have hok := Hok.out l[k] (List.getElem_mem hkl)
      have hlen := Hout.out k (by omega)
      have hTn := TS_next l k hkl
      have hTt := TS_take l (k + 1)
      rw [hTn] at hTt
      clear hTn
      have hx : FS (l.take (k + 1)) = FS (l.take k) + l[k].F := FS_next l k hkl
      rw [hx] at hFk
      clear hx
      have hBlt := hbld.lt
      have Hbld := Lib.hid hbld
      have Hrun := Lib.hid hrun
      clear hbld hrun
      generalize FS (l.take k) = F at *
      generalize l[k] = p at *
      generalize TS (l.take k) = tt at *
      cases p with
      | k m =>
        clear hTt
        simp only [P.part, P.F, P.ok] at c0 c1 c2 hFk hok HFn
        have hrl : F + m ≤ rs.length := by omega
        have hm4 : m ≤ 4000 := by omega
        clear hFl2 hFl
        have Hcv : Hid (∀ W C, Below B wr W → (convert 86 9 (.slice (some ⟨g, F, none⟩) m C)).run Tryd.prog W = .ok (.string (Uni.enc ((rs.drop F).take m))) W) := fun W C hW => (Hrun.out.below hW hgB).conv F m C hrl
        have hcv := Hcv.out (wr.alloc (.cells #[.int .i64 1, .int .i64 ((m : Nat) : Int), .string noText] 53)) (cap - F) ((Below.refl _ _).alloc hBr _)
        have Hal := Lib.hid (Hbld.out.below ((Below.refl _ _).alloc (Nat.le_refl _) (.cells #[.int .i64 1, .int .i64 ((m : Nat) : Int), .string noText] 53)))
        have hsz := enc_size ((rs.drop F).take m) (fun r h => Hvr.out r (List.mem_of_mem_drop (List.mem_of_mem_take h)))
        have hsz2 : ((rs.drop F).take m).length ≤ 4000 := by rw [List.length_take]; omega
        have Hpc : Hid (Uni.encL (app rs (l.take k)) ++ (Uni.enc ((rs.drop F).take m)).data.toList = Uni.encL (app rs (l.take (k + 1)))) := by
          unfold Hid; rw [Hap.out, Uni.encL_append]; simp [app, enc_bytes]
        generalize Uni.enc ((rs.drop F).take m) = T at *
        clear Hap
        go_wp2_with fail
        refine (wstr_any B B _ T _ Hal.out (by omega) (by simp; omega)).mono ?_
        rintro e w6 ⟨rfl, hbld6, hb6, hot⟩
        have hpb := hot wr.heap.size _ _ _ (heap_new_at wr _ _ rfl) (by decide) (by omega)
        have d1 : w6.cell? ⟨wr.heap.size, 1, none⟩ = some (.int .i64 ((m : Nat) : Int)) := (cell_keep hpb).trans (by rw [cell_of_row _ _ _ _ _ _ (heap_new_at _ _ _ rfl)]; rfl)
        rw [Hpc.out] at hbld6
        have Hb6 := Lib.hid hbld6
        have hbz := hb.size
        have Hbelow : Hid (Below w.heap.size w w6) := by unfold Hid; exact (hb.alloc hbz _).trans (hb6.mono (by omega))
        have Hrun6 : Hid (RunesAt w6 g rs) := Hrun.out.below (((Below.refl _ _).alloc hBr _).trans hb6) hgB
        have hB6 : B ≤ w6.heap.size := by have := hb6.size; simp at this; omega
        clear hbld6 hb6 hot hpb Hal Hpc hcv Hcv hcb hfb
        go_wp2_with fail
        go_roundw
        case rel => exact ⟨k + 1, by omega, by go_num, by rw [HFn.out]; go_num, Hb6.out, Hrun6.out, hB6, Hbelow.out⟩
        case measure => simp [intOf]; omega
      | i t =>
        simp only [P.part, P.F, P.ok, P.T] at c0 c1 c2 hFk hok HFn hTt
        have Hal := Lib.hid (Hbld.out.below ((Below.refl _ _).alloc (Nat.le_refl _) (.cells #[.int .i64 2, .int .i64 0, .string (Uni.enc t)] 53)))
        have hsz := enc_size t hok.2
        have Hpc : Hid (Uni.encL (app rs (l.take k)) ++ (Uni.enc t).data.toList = Uni.encL (app rs (l.take (k + 1)))) := by
          unfold Hid; rw [Hap.out, Uni.encL_append]; simp [app, enc_bytes]
        have hsz2 : t.length ≤ 4000 := by
          omega
        generalize Uni.enc t = T at *
        clear Hap hok
        go_wp2_with fail
        refine (wstr_any B B _ T _ Hal.out (by omega) (by simp; omega)).mono ?_
        rintro e w6 ⟨rfl, hbld6, hb6, hot⟩
        rw [Hpc.out] at hbld6
        have Hb6 := Lib.hid hbld6
        have hbz := hb.size
        have Hbelow : Hid (Below w.heap.size w w6) := by unfold Hid; exact (hb.alloc hbz _).trans (hb6.mono (by omega))
        have Hrun6 : Hid (RunesAt w6 g rs) := Hrun.out.below (((Below.refl _ _).alloc hBr _).trans hb6) hgB
        have hB6 : B ≤ w6.heap.size := by have := hb6.size; simp at this; omega
        clear hbld6 hb6 hot Hal Hpc hcb hfb
        go_wp2_with fail
        go_roundw
        case rel => exact ⟨k + 1, by omega, by go_num, by rw [HFn.out]; go_num, Hb6.out, Hrun6.out, hB6, Hbelow.out⟩
        case measure => simp [intOf]; omega
      | d m =>
        clear hTt
        simp only [P.part, P.F, P.ok] at c0 c1 c2 hFk hok HFn
        have Hpc : Hid (app rs (l.take k) = app rs (l.take (k + 1))) := by
          unfold Hid; rw [Hap.out]; simp [app]
        have hbz := hb.size
        have hrl : F + m ≤ rs.length := by omega
        have Hfin : Hid (∀ W, Below wr.heap.size wr W → Bld B B (Uni.encL (app rs (l.take (k + 1)))) W ∧ RunesAt W g rs ∧ B ≤ W.heap.size ∧ Below w.heap.size w W) := by
          unfold Hid
          intro W hW
          rw [← Hpc.out]
          exact ⟨Hbld.out.below hW, Hrun.out.below hW (by omega), by have := hW.size; omega, hb.trans (hW.mono hbz)⟩
        clear Hap Hpc Hbld Hrun hFl2 hFl
        go_wp2_with fail
        go_roundw
        case rel => exact ⟨k + 1, by omega, by go_num, by rw [HFn.out]; go_num, Hfin.out _ (by (repeat (first | exact Below.refl _ _ | assumption | (refine Below.drew ?_) | (refine below_drewN ?_ _) | (refine Below.alloc ?_ (by first | (simp; done) | (simp; omega) | omega) _) | (refine Below.setCell ?_ (by first | (simp; done) | (simp; omega) | omega) _) | (refine Below.trans ?_ (Below.mono (by assumption) (by first | (simp; done) | (simp; omega) | omega))))))⟩
        case measure => simp [intOf]; omega
    · have hkn : k = l.length := by have := Hl.out; omega
      have hbz := hb.size
      have Hb := Lib.hid hb
      rw [hkn, List.take_length] at hbld
      have Hbld := Lib.hid hbld
      clear hb hbld
      go_wp2_with fail
      refine (Tryd.Builder_String_any B B _ wr Hbld.out hBr).mono ?_
      rintro e w6 ⟨rfl, hb6⟩
      have Hb6 := Lib.hid (Hb.out.trans (hb6.mono hBw))
      clear hb6
      go_wp2_with fail
      go_ret2
      exact ⟨rfl, Hb6.out⟩

set_option maxRecDepth 100000 in
set_option maxHeartbeats 2000000 in
theorem apply_any (s : Str) (o : Op) (a : Option Addr) (n c : Nat) (w : World) (hg : Good w) (hr : RdS (· < w.heap.size) w o a n c) (hs : s.size ≤ 70368744177664) :
    Calls Tryd.prog 22 #[.string s, .slice a n c] w fun e w' => e = .returned (.tuple #[.string (applyS s o), .int .i64 (applyE s o)]) ∧ Below w.heap.size w w' := by
  have hss : s.size ≤ strMax := by unfold strMax; omega
  have HT := Lib.hid (checkText_any s w hg hss)
  have HC := Lib.hid (fun W (hb : Below w.heap.size w W) => check_any (· < w.heap.size) o a n c W (hg.below' hb) (fun b h => Nat.lt_of_lt_of_le h hb.size) (hr.below (fun _ h => h) hb))
  by_cases h0 : checkText s = 0
  · by_cases h1 : check o = 0
    · by_cases h2 : sumF o = rc s
      · have hE : applyE s o = 0 := by unfold applyE; rw [if_neg (by simpa using h0), if_neg (by simpa using h1), if_neg (by simpa using h2)]
        unfold applyS
        rw [hE, if_pos rfl]
        exact apply_ok s o a n c w hg hr hs h0 h1 h2
      · have hE : applyE s o = 10 := by unfold applyE; rw [if_neg (by simpa using h0), if_neg (by simpa using h1), if_pos (by simpa using h2)]
        unfold applyS
        rw [hE, if_neg (by decide)]
        have HL := Lib.hid (fun W (hb : Below w.heap.size w W) => lengths_any (· < w.heap.size) o a n c W (hr.below (fun _ h => h) hb) (check_small h1))
        obtain ⟨R, hRz, hR, hconv⟩ := runes_of s hs
        have hcl := rc_le s
        have hne : ((sumF o != rc s)) = true := by simpa using h2
        rw [rc_rns s] at hne
        have hlim : ((rns s).length : Int) ≤ 70368744177664 := by have := rc_rns s; omega
        rw [h0] at HT; rw [h1] at HC
        clear hR hRz hr h0 h1 h2 hE hcl hss hg
        generalize sumF o = x at *
        generalize sumT o = y at *
        generalize rns s = rs at *
        go_enter Tryd.func22, Tryd.ntmps22
        go_wp2_with fail
        refine HT.out.mono ?_
        rintro e w1 ⟨rfl, hb1⟩
        clear HT
        go_wp2_with fail
        refine (HC.out _ hb1).mono ?_
        rintro e w2 ⟨rfl, hb2⟩
        clear HC
        have hb2 := hb1.trans (hb2.mono hb1.size)
        clear hb1
        go_wp2_with fail
        have hz2 := hb2.size
        have hbW : Below w.heap.size w (w2.alloc (.cells (R ++ Array.replicate (grownCap w2 rs.length 0 21 - rs.length) (.int .i32 0)) 21)).drew := by (repeat (first | exact Below.refl _ _ | assumption | (refine Below.drew ?_) | (refine below_drewN ?_ _) | (refine Below.alloc ?_ (by first | (simp; done) | (simp; omega) | omega) _) | (refine Below.setCell ?_ (by first | (simp; done) | (simp; omega) | omega) _) | (refine Below.trans ?_ (Below.mono (by assumption) (by first | (simp; done) | (simp; omega) | omega)))))
        refine (HL.out _ hbW).mono ?_
        rintro e w4 ⟨rfl, hb4⟩
        have hbW := hbW.trans (hb4.mono hbW.size)
        go_wp2_with fail
        go_ret2
        exact ⟨rfl, hbW⟩
    · have hE : applyE s o = check o := by unfold applyE; rw [if_neg (by simpa using h0), if_pos h1]
      unfold applyS
      rw [hE, if_neg h1]
      rw [h0] at HT
      have hne : (check o != 0) = true := by simpa using h1
      clear hr h0 h1 hE hss hg
      generalize check o = x at *
      go_enter Tryd.func22, Tryd.ntmps22
      go_wp2_with fail
      refine HT.out.mono ?_
      rintro e w1 ⟨rfl, hb1⟩
      clear HT
      go_wp2_with fail
      refine (HC.out _ hb1).mono ?_
      rintro e w2 ⟨rfl, hb2⟩
      clear HC
      have hb2 := hb1.trans (hb2.mono hb1.size)
      clear hb1
      go_wp2_with fail
      go_ret2
      exact ⟨rfl, hb2⟩
  · have hE : applyE s o = checkText s := by unfold applyE; rw [if_pos h0]
    unfold applyS
    rw [hE, if_neg h0]
    have hne : (checkText s != 0) = true := by simpa using h0
    clear hr h0 hE hss hg HC
    generalize checkText s = x at *
    go_enter Tryd.func22, Tryd.ntmps22
    go_wp2_with fail
    refine HT.out.mono ?_
    rintro e w1 ⟨rfl, hb1⟩
    clear HT
    go_wp2_with fail
    go_ret2
    exact ⟨rfl, hb1⟩
end Go.Proofs.YtkbfhgcjimfgkaaDoor
