/- The walk of text.Invert. -/
import Derived.Test.YtajijhnnnekhmaaDoorInv
import Derived.Test.YtajijhnnnekhmaaDoorTrLaw
import Derived.Outline
set_option linter.unusedSimpArgs false
namespace Go.Proofs.YtajijhnnnekhmaaDoor
open Go.RowKit

theorem iv_sums (a : List P) : ∀ t : List Nat, FS a ≤ t.length → FS (iv t a) = TS a ∧ TS (iv t a) = FS a := by
  induction a with
  | nil => intro t _; simp [iv, FS, TS]
  | cons p a ih =>
    intro t h
    cases p with
    | k n =>
      simp only [FS, P.F] at h
      obtain ⟨i1, i2⟩ := ih (t.drop n) (by rw [List.length_drop]; omega)
      simp only [iv, FS, TS, P.F, P.T]; omega
    | i l =>
      simp only [FS, P.F, Nat.zero_add] at h
      obtain ⟨i1, i2⟩ := ih t h
      simp only [iv, FS, TS, P.F, P.T]; omega
    | d n =>
      simp only [FS, P.F] at h
      obtain ⟨i1, i2⟩ := ih (t.drop n) (by rw [List.length_drop]; omega)
      have hl : (t.take n).length = n := by rw [List.length_take]; omega
      simp only [iv, FS, TS, P.F, P.T, hl]; omega
/-- what the parts up to the k'th are, inverted -/
def ivR (t : List Nat) (l : List P) (k : Nat) : List P := build (iv t (l.take k))
theorem ivR_next (t : List Nat) (l : List P) (k : Nat) (h : k < l.length) : ivR t l (k + 1) = (iv (t.drop (FS (l.take k))) [l[k]]).foldl addP (ivR t l k) := by
  unfold ivR build
  rw [List.take_succ_eq_append_getElem h, iv_app, List.foldl_append]
/-- what stands while an operation is inverted: the builder (block b), the text's runes (block g) -/
structure Ivs (w : World) (b g : Nat) (rs : List Nat) (R : List P) (v : Value) (wr : World) : Prop where
  bd : Bd b (b + 1) b R v wr
  run : RunesAt wr g rs
  gb : g < b
  below : Below w.heap.size w wr
  wb : w.heap.size ≤ b
theorem Ivs.lt {w wr : World} {b g : Nat} {rs : List Nat} {R : List P} {v : Value} (h : Ivs w b g rs R v wr) : b < wr.heap.size := h.bd.bag.lt
theorem Ivs.go {w wr W : World} {b g : Nat} {rs : List Nat} {R : List P} {v : Value} (h : Ivs w b g rs R v wr) (hb : Below wr.heap.size wr W) : Ivs w b g rs R v W :=
  ⟨h.bd.go hb, h.run.below hb h.run.1, h.gb, up h.below hb, h.wb⟩
theorem Ivs.put {w wr W : World} {b g : Nat} {rs : List Nat} {R R' : List P} {v : Value} {cs : Obj} {e : Ending} (h : Ivs w b g rs R v wr) (ha : AddB b (b + 1) b R' v (wr.alloc cs) e W) :
    e = .returned (.tuple #[]) ∧ ∃ v', Ivs w b g rs R' v' W ∧ Blk wr.heap.size cs W := by
  obtain ⟨v', he, hp, ht, hv⟩ := ha
  have hlt := h.lt
  have hS : ∀ z, Bag.S b v z → b ≤ z ∧ z < wr.heap.size := fun z hz => by
    rcases hz with h' | h'
    · omega
    · have := h.bd.bag.rowlt z h'; omega
  have hal : Below wr.heap.size wr (wr.alloc cs) := (Below.refl _ _).alloc (Nat.le_refl _) _
  have hz : (wr.alloc cs).heap.size = wr.heap.size + 1 := by simp
  have hB : Below b (wr.alloc cs) W := ht.toBelow (by omega) (fun k hk => (hS k hk).1)
  have h1 := h.go hal
  refine ⟨he, v', ⟨hp, h1.run.below hB h.gb, h.gb, h1.below.trans (hB.mono h.wb), h.wb⟩, (Blk.new wr cs).touch ht (fun hz => ?_)⟩
  have := hS _ hz; omega
theorem Ivs.put0 {w W0 W : World} {b g : Nat} {rs : List Nat} {R R' : List P} {v : Value} {e : Ending} (h : Ivs w b g rs R v W0) (ha : AddB b (b + 1) b R' v W0 e W) :
    e = .returned (.tuple #[]) ∧ ∃ v', Ivs w b g rs R' v' W := by
  obtain ⟨v', he, hp, ht, hv⟩ := ha
  have hlt := h.lt
  have hS : ∀ z, Bag.S b v z → b ≤ z ∧ z < W0.heap.size := fun z hz => by
    rcases hz with h' | h'
    · omega
    · have := h.bd.bag.rowlt z h'; omega
  have hB : Below b W0 W := ht.toBelow (by omega) (fun k hk => (hS k hk).1)
  exact ⟨he, v', ⟨hp, h.run.below hB h.gb, h.gb, h.below.trans (hB.mono h.wb), h.wb⟩⟩

set_option maxRecDepth 100000 in
set_option maxHeartbeats 4000000 in
theorem invert_ok (s : Str) (o : Op) (a : Option Addr) (n c : Nat) (w : World) (hg : Good w) (hr : RdS (· < w.heap.size) w o a n c) (hs : s.size ≤ 70368744177664) (h0 : checkText s = 0) (h1 : check o = 0) (h2 : sumF o = rc s) :
    Calls Tryd.prog 18 #[.string s, .slice a n c] w fun e w' => ∃ (a' : Option Addr) (c' : Nat), e = .returned (.tuple #[.slice a' (invO s o).length c', .int .i64 0]) ∧ RdS (· < w'.heap.size) w' (invO s o) a' (invO s o).length c' ∧ Below w.heap.size w w' := by
  have HA := Lib.hid (apply_any s o a n c w hg hr hs)
  rw [(apply_good h0 h1 h2).1] at HA
  generalize applyS s o = ss at *
  have hrc := rc_rns s
  obtain ⟨R, hRz, hR, hconv⟩ := runes_of s hs
  have hO := opIs h1
  have hnl : n = (opP o).length := by have h := hr.1; rw [h]; unfold opP; simp
  have hn2 : n ≤ 8001 := by rw [hnl]; exact hO.len
  have hcells := fun h => hO.cells hr h
  have hFl := hO.fl
  have hTl := hO.tl
  have hF : FS (opP o) = (rns s).length := by have := hO.f; omega
  have hok := hO.ok
  have hvr := rns_vr (valid_of h0).1
  obtain ⟨L, HL⟩ : ∃ L, Hid (L = invO s o) := ⟨_, rfl⟩
  rw [← HL.out]
  have Hfin : Hid ((ivR (rns s) (opP o) (opP o).length).reverse.map P.part = L) := by
    unfold Hid
    rw [HL.out]
    unfold ivR invO opOfP
    rw [List.take_length]
  clear hr hO h0 h1 h2 hg hrc HL
  generalize opP o = l at *
  generalize rns s = rs at *
  have Hcells := Lib.hid hcells
  have Hl := Lib.hid hnl
  have HF := Lib.hid hF
  have HR := Lib.hid hR
  have Hvr := Lib.hid hvr
  have Hok := Lib.hid hok
  -- what is built up to k is small
  have Hsm : Hid (∀ k, k ≤ l.length → FS (ivR rs l k) + TS (ivR rs l k) ≤ 100000) := by
    unfold Hid
    intro k hk
    have h3 := FS_take l k
    have h4 := TS_take l k
    obtain ⟨h5, h6⟩ := iv_sums (l.take k) rs (by omega)
    unfold ivR
    rw [build_FS, build_TS]
    omega
  clear hcells hnl hF hRz hR hvr hok
  go_enter Tryd.func18, Tryd.ntmps18
  go_wp2_with fail
  refine HA.out.mono ?_
  rintro e w2 ⟨rfl, hb2⟩
  clear HA
  have hcv := hconv w2
  have hlim : rs.length ≤ 4000 := by have := HF.out; omega
  go_wp2_with fail
  refine abs_w (fun W => ∃ v, Ivs w (w2.heap.size + 1) w2.heap.size rs (ivR rs l 0) v W ∧ v = .slice none 0 0) ?_ ?_
  · have q1 := runesAt_new w2 R (Array.replicate (grownCap w2 rs.length 0 21 - rs.length) (.int .i32 0)) rs HR.out 21
    have hz2 := hb2.size
    have e0 : ivR rs l 0 = [] := by unfold ivR; simp [iv, build]
    rw [e0]
    have q2 : RunesAt ((w2.alloc (.cells (R ++ Array.replicate (grownCap w2 rs.length 0 21 - rs.length) (.int .i32 0)) 21)).drew.alloc (.cells #[.slice none 0 0] 73)) w2.heap.size rs := q1.below ((Below.refl _ _).alloc (Nat.le_refl _) _) q1.1
    exact ⟨_, ⟨⟨⟨Nat.le_refl _, Blk.at _ _ _ (by simp), World.ownsRow_nil _ _ _ _, by simp [Value.ownBlock]⟩, trivial, fun g hg => by cases hg⟩, q2, by omega, by (repeat (first | exact Below.refl _ _ | assumption | (refine Below.drew ?_) | (refine below_drewN ?_ _) | (refine Below.alloc ?_ (by first | (simp; done) | (simp; omega) | omega) _) | (refine Below.setCell ?_ (by first | (simp; done) | (simp; omega) | omega) _) | (refine Below.trans ?_ (Below.mono (by assumption) (by first | (simp; done) | (simp; omega) | omega))))), by have := hb2.size; omega⟩, rfl⟩
  rintro w3 ⟨v0, h3, hv0⟩
  have H3 := Lib.hid h3
  have hcap := grownCap_ge w2 rs.length 0 21
  have hcapm : grownCap w2 rs.length 0 21 ≤ maxLen := grownCap_le_maxLen w2 rs.length 0 21 (by unfold maxLen; omega)
  unfold maxLen at hcapm
  have hz2 := hb2.size
  generalize grownCap w2 rs.length 0 21 = cap at *
  generalize w2.heap.size = g at *
  clear h3 hv0 hcv hconv HR hb2
  go_loopw [10, 28] (fun t i wr => ∃ (k : Nat) (v : Value), k ≤ n ∧ i = .int .i64 k ∧ t = .int .i64 ((FS (l.take k) : Nat) : Int) ∧ Ivs w (g + 1) g rs (ivR rs l k) v wr) (fun _ i _ => n - (intOf i).toNat)
  case atStart => exact ⟨0, v0, by omega, rfl, rfl, H3.out⟩
  case round =>
    obtain ⟨k, v, hk, rfl, rfl, hiv⟩ := hrel
    clear H3 v0
    by_cases hlt : k < n
    · obtain ⟨b, off, rfl, _, hbs, hcs⟩ := Hcells.out (by omega)
      have hkl : k < l.length := by have := Hl.out; omega
      obtain ⟨c0, c1, c2⟩ := hcs k l[k] (List.getElem?_eq_getElem hkl)
      clear hcs
      obtain ⟨hcb, hfb⟩ := bcell hiv.below
      have HFn := Lib.hid (FS_next l k hkl)
      have Hnx := Lib.hid (ivR_next rs l k hkl)
      have hFk := FS_take l (k + 1)
      have hFl2 := HF.out
      have hok := Hok.out l[k] (List.getElem_mem hkl)
      have hsm := Hsm.out k (by omega)
      have hTn := TS_next l k hkl
      have hTt := TS_take l (k + 1)
      rw [hTn] at hTt
      clear hTn
      have hx : FS (l.take (k + 1)) = FS (l.take k) + l[k].F := FS_next l k hkl
      rw [hx] at hFk
      clear hx
      have hlt2 := hiv.lt
      have Hiv := Lib.hid hiv
      clear hiv
      generalize FS (l.take k) = F at *
      generalize l[k] = p at *
      generalize ivR rs l k = RR at *
      cases p with
      | k m =>
        simp only [P.part, P.F, P.ok, P.T] at c0 c1 c2 hFk hok HFn hTt
        simp only [iv, List.foldl_cons, List.foldl_nil] at Hnx
        have hm4 : m ≤ 100000 := by omega
        have hFm : F + m ≤ 4000 := by omega
        have HK := Lib.hid (fun cs => bkeep (g + 1) (g + 1 + 1) (g + 1) RR v m (wr.alloc cs) (Hiv.out.bd.go ((Below.refl _ _).alloc (Nat.le_refl _) _)) hsm (by omega) (by simp; omega))
        clear hFl2 hFl hTl hTt hsm
        go_wp2_with fail
        refine (HK.out _).mono ?_
        intro e w6 hadd
        obtain ⟨rfl, v6, h6, b6⟩ := Hiv.out.put hadd
        rw [← Hnx.out] at h6
        have H6 := Lib.hid h6
        have d1 : w6.cell? ⟨wr.heap.size, 1, none⟩ = some (.int .i64 ((m : Nat) : Int)) := b6.cell 1
        clear hadd h6 b6 HK Hiv hcb hfb Hnx
        go_wp2_with fail
        go_roundw
        case rel => exact ⟨k + 1, v6, by omega, by go_num, by rw [HFn.out]; go_num, H6.out⟩
        case measure => simp [intOf]; omega
      | i t =>
        simp only [P.part, P.F, P.ok, P.T] at c0 c1 c2 hFk hok HFn hTt
        simp only [iv, List.foldl_cons, List.foldl_nil] at Hnx
        have hz := enc_size t hok.2
        have ht4 : t.length ≤ 4000 := by omega
        have hrct := rc_enc t hok.2
        have HC := Lib.hid (fun W : World => rc_any (Uni.enc t) W (by unfold strMax; omega))
        rw [hrct] at HC
        have HK := Lib.hid (fun W (hI : Ivs w (g + 1) g rs RR v W) => bremove (g + 1) (g + 1 + 1) (g + 1) RR v t.length W hI.bd hsm (by omega) (by have := hI.lt; omega))
        have Hal := Lib.hid (Hiv.out.go ((Below.refl _ _).alloc (Nat.le_refl _) (.cells #[.int .i64 2, .int .i64 0, .string (Uni.enc t)] 45)))
        clear hFl2 hFl hTl hTt hsm hrct
        generalize Uni.enc t = T at *
        go_wp2_with fail
        refine (HC.out _).mono ?_
        rintro e w5 ⟨rfl, u5⟩
        have H5 := Lib.hid (Hal.out.go u5)
        clear u5 Hal HC Hiv
        go_wp2_with fail
        refine (HK.out _ H5.out).mono ?_
        intro e w6 hadd
        obtain ⟨rfl, v6, h6⟩ := H5.out.put0 hadd
        rw [← Hnx.out] at h6
        have H6 := Lib.hid h6
        clear hadd h6 HK H5 hcb hfb Hnx
        go_wp2_with fail
        go_roundw
        case rel => exact ⟨k + 1, v6, by omega, by go_num, by rw [HFn.out]; go_num, H6.out⟩
        case measure => simp [intOf]; omega
      | d m =>
        simp only [P.part, P.F, P.ok, P.T] at c0 c1 c2 hFk hok HFn hTt
        simp only [iv, List.foldl_cons, List.foldl_nil] at Hnx
        have hrl : F + m ≤ rs.length := by omega
        have hFm : F + m ≤ 4000 := by omega
        have hvt : ∀ r ∈ (rs.drop F).take m, Uni.vr r := fun r h => Hvr.out r (List.mem_of_mem_drop (List.mem_of_mem_take h))
        have hlt4 : ((rs.drop F).take m).length ≤ 4000 := by rw [List.length_take]; omega
        have HK := Lib.hid (fun cs => binsert (g + 1) (g + 1 + 1) (g + 1) RR v ((rs.drop F).take m) (wr.alloc cs) (Hiv.out.bd.go ((Below.refl _ _).alloc (Nat.le_refl _) _)) hsm (by omega) hvt (by simp; omega))
        have hcv := ((Hiv.out.go ((Below.refl _ _).alloc (Nat.le_refl _) (.cells #[.int .i64 3, .int .i64 ((m : Nat) : Int), .string noText] 45))).run).conv F m (cap - F) hrl
        clear hFl2 hFl hTl hTt hsm hvt hlt4
        generalize (rs.drop F).take m = T at *
        go_wp2_with fail
        refine (HK.out _).mono ?_
        intro e w6 hadd
        obtain ⟨rfl, v6, h6, b6⟩ := Hiv.out.put hadd
        rw [← Hnx.out] at h6
        have H6 := Lib.hid h6
        have d1 : w6.cell? ⟨wr.heap.size, 1, none⟩ = some (.int .i64 ((m : Nat) : Int)) := b6.cell 1
        clear hadd h6 b6 HK Hiv hcb hfb Hnx hcv
        go_wp2_with fail
        go_roundw
        case rel => exact ⟨k + 1, v6, by omega, by go_num, by rw [HFn.out]; go_num, H6.out⟩
        case measure => simp [intOf]; omega
    · have hkn : k = l.length := by have := Hl.out; omega
      subst hkn
      have RX := hiv.bd.bag.rd (can_fit hiv.bd.can (Hsm.out _ (Nat.le_refl _))) (A := fun z => z < wr.heap.size) (fun z hz => (hiv.bd.bag.rowlt z hz).2)
      rw [← List.map_reverse, Hfin.out] at RX
      obtain ⟨ax, cx, rfl, hrx⟩ := RX
      have c0 : wr.cell? ⟨g + 1, 0, none⟩ = some (.slice ax L.length cx) := (show Blk (g + 1) _ wr from hiv.bd.bag.blk).cell 0
      have HX := Lib.hid hrx
      have HB := Lib.hid hiv.below
      clear hiv hrx
      go_wp2_with fail
      go_ret2
      exact ⟨ax, cx, rfl, HX.out, HB.out⟩
end Go.Proofs.YtajijhnnnekhmaaDoor
