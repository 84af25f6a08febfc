/- The walks of link.frames (with slices.ContainsFunc, IndexFunc) and link.Check. -/
import Derived.Test.YtkbfhgcjimfgkaaDoorFirst
import Derived.Test.YtkbfhgcjimfgkaaDoorUp
set_option linter.unusedVariables false
set_option linter.unusedSimpArgs false
namespace Go.Proofs.YtkbfhgcjimfgkaaDoor
open Go.RowKit

theorem isBad_any (f : Fr) (a : Option Addr) (n c : Nat) (w : World) (hg : Good w) (hr : RdS (· < w.heap.size) w f.op a n c) (hf : f.fits) :
    Calls Tryd.prog 91 #[.agg #[.int .i64 f.kind, .int .i64 f.heard, .int .i64 f.epoch, .slice a n c, .string f.text]] w fun e w' => e = .returned (.bool (f.check != 0)) ∧ Below w.heap.size w w' := by
  have HC := Lib.hid (fun W (hW : Below w.heap.size w W) => checkFrame_any (· < W.heap.size) f.kind f.heard f.epoch f.op f.text a n c W (hg.go hW) (fun _ h => h) (hr.go hW) hf.1 hf.2.1 hf.2.2.1 hf.2.2.2)
  rw [show checkFrame f.kind f.heard f.epoch f.op f.text = f.check from rfl] at HC
  generalize f.check = F at *
  clear hr hg hf
  obtain ⟨k, h, e, o, t⟩ := f
  simp only at *
  obtain ⟨q, hq⟩ : ∃ q, (F != 0) = q := ⟨_, rfl⟩
  rw [hq]
  go_enter Tryd.func91, Tryd.ntmps91
  go_wp2_with fail
  refine abs_run (fun W => Below w.heap.size w W) (by (repeat (first | exact Below.refl _ _ | assumption | (refine Below.drew ?_) | (refine below_drewN ?_ _) | (refine Below.alloc ?_ (by first | (simp; done) | (simp; omega) | omega) _) | (refine Below.setCell ?_ (by first | (simp; done) | (simp; omega) | omega) _) | (refine Below.trans ?_ (Below.mono (by assumption) (by first | (simp; done) | (simp; omega) | omega)))))) ?_
  intro W hW
  refine (HC.out W hW).mono ?_
  rintro e w2 ⟨rfl, u2⟩
  have U2 := Lib.hid (up hW u2)
  clear hW u2 HC
  cases q
  · go_wp2_with fail
    go_ret
    exact ⟨rfl, U2.out⟩
  · go_wp2_with fail
    go_ret
    exact ⟨rfl, U2.out⟩
def frsOk (l : List Fr) : Bool := l.all fun f => f.check == 0
/-- the first that may not be -/
def firstBad : List Fr → Option Nat
  | [] => none
  | f :: l => if f.check = 0 then (firstBad l).map (· + 1) else some 0
theorem firstBad_ok : ∀ l, (firstBad l).isNone = frsOk l
  | [] => rfl
  | f :: l => by
    unfold firstBad frsOk
    by_cases h : f.check = 0
    · rw [if_pos h, List.all_cons, h]
      have := firstBad_ok l
      unfold frsOk at this
      rw [← this]
      cases firstBad l <;> rfl
    · rw [if_neg h, List.all_cons]
      simp [h]
theorem firstBad_drop : ∀ (l : List Fr) (k : Nat), (∀ f ∈ l.take k, f.check = 0) → firstBad l = (firstBad (l.drop k)).map (· + k)
  | l, 0, _ => by simp
  | [], k + 1, _ => by simp [firstBad]
  | f :: l, k + 1, h => by
    have h1 := firstBad_drop l k (fun g hg => h g (by rw [List.take_succ_cons]; exact List.mem_cons_of_mem _ hg))
    have h0 : f.check = 0 := h f (by rw [List.take_succ_cons]; exact List.mem_cons_self ..)
    rw [List.drop_succ_cons, show firstBad (f :: l) = (firstBad l).map (· + 1) from by rw [firstBad, if_pos h0], h1, Option.map_map]
    congr 1
def badIx (l : List Fr) : Int := match firstBad l with | some i => i | none => -1
set_option maxRecDepth 100000 in
set_option maxHeartbeats 2000000 in
theorem indexBad_any (l : List Fr) (a : Option Addr) (n c : Nat) (w : World) (hg : Good w) (hr : RdS (· < w.heap.size) w l a n c) :
    Calls Tryd.prog 98 #[.slice a n c, .func (.func 91) #[] #[]] w fun e w' => e = .returned (.int .i64 (badIx l)) ∧ Below w.heap.size w w' := by
  have hnl := hr.1
  have hnm : n ≤ maxLen := Nat.le_trans hr.2.1 hr.2.2.1
  unfold maxLen at hnm
  obtain ⟨R, hR⟩ : ∃ R, R = badIx l := ⟨_, rfl⟩
  rw [← hR]
  have HR := Lib.hid hR
  have Hg := Lib.hid hg
  have Hr := Lib.hid hr
  have Hl := Lib.hid hnl
  clear hR hg hr hnl
  go_enter Tryd.func98, Tryd.ntmps98
  go_wp2_with fail
  go_loopw [8] (fun i wr => ∃ k : Nat, k ≤ n ∧ i = .int .i64 k ∧ (∀ f ∈ l.take k, f.check = 0) ∧ Below w.heap.size w wr) (fun i _ => n - (intOf i).toNat)
  case atStart => exact ⟨0, by omega, rfl, by simp, Below.refl _ _⟩
  case round =>
    obtain ⟨k, hk, rfl, hok, hb⟩ := hrel
    have Hok := Lib.hid hok
    have HB := Lib.hid hb
    clear hok hb
    by_cases hlt : k < n
    · obtain ⟨b, off, rfl, hAb, hbs, hcs⟩ := Hr.out.frame (by omega)
      have hkl : k < l.length := by have := Hl.out; omega
      obtain ⟨ak, nk, ck, hrk, hfk, d0, d1, d2, d3, d4⟩ := hcs k hkl
      have e0 := (HB.out.cell (p := ⟨b, off + k * 5, none⟩) hbs).trans d0
      have e1 := (HB.out.cell (p := ⟨b, off + k * 5 + 1, none⟩) hbs).trans d1
      have e2 := (HB.out.cell (p := ⟨b, off + k * 5 + 1 + 1, none⟩) hbs).trans d2
      have e3 := (HB.out.cell (p := ⟨b, off + k * 5 + 1 + 1 + 1, none⟩) hbs).trans d3
      have e4 := (HB.out.cell (p := ⟨b, off + k * 5 + 1 + 1 + 1 + 1, none⟩) hbs).trans d4
      have HC := Lib.hid (isBad_any l[k] ak nk ck wr (Hg.out.go HB.out) (hrk.go HB.out) hfk)
      have Htk := Lib.hid (take_next l k hkl)
      have Hdr := Lib.hid (List.drop_eq_getElem_cons hkl)
      generalize hfk' : l[k] = f at *
      clear d0 d1 d2 d3 d4 hrk hcs hfk hfk'
      obtain ⟨fk, fh, fe, fo, ft⟩ := f
      simp only at *
      by_cases hc : (Fr.mk fk fh fe fo ft).check = 0
      · have hb0 : ((Fr.mk fk fh fe fo ft).check != 0) = false := by simpa using hc
        rw [hb0] at HC
        have Hc := Lib.hid hc
        clear hc hb0
        go_wp2_with fail
        refine HC.out.mono ?_
        rintro e w2 ⟨rfl, u2⟩
        have HB2 := Lib.hid (HB.out.trans (u2.mono HB.out.size))
        clear u2
        go_wp2_with fail
        go_roundw
        case rel => exact ⟨k + 1, by omega, by go_num, fun f hf => by
          rw [Htk.out] at hf
          rcases List.mem_append.1 hf with hf | hf
          · exact Hok.out f hf
          · simp at hf; subst hf; exact Hc.out, HB2.out⟩
        case measure => simp [intOf]; omega
      · have hb0 : ((Fr.mk fk fh fe fo ft).check != 0) = true := by simpa using hc
        rw [hb0] at HC
        have hRk : R = (k : Int) := by
          rw [HR.out]
          unfold badIx
          rw [firstBad_drop l k Hok.out, Hdr.out]
          unfold firstBad
          rw [if_neg hc]
          simp
        subst hRk
        clear hc hb0 HR
        go_wp2_with fail
        refine HC.out.mono ?_
        rintro e w2 ⟨rfl, u2⟩
        have HB2 := Lib.hid (HB.out.trans (u2.mono HB.out.size))
        clear u2
        go_wp2_with fail
        go_ret
        exact ⟨rfl, HB2.out⟩
    · have hkn : k = n := by omega
      have hRk : R = -1 := by
        rw [HR.out]
        unfold badIx
        rw [firstBad_drop l k Hok.out, List.drop_of_length_le (by have := Hl.out; omega)]
        rfl
      subst hRk
      clear HR hkn
      go_wp2_with fail
      go_ret
      exact ⟨rfl, HB.out⟩
theorem badIx_ok (l : List Fr) : (decide (0 ≤ badIx l)) = !frsOk l := by
  rw [← firstBad_ok]
  unfold badIx
  cases firstBad l <;> simp
theorem containsBad_any (l : List Fr) (a : Option Addr) (n c : Nat) (w : World) (hg : Good w) (hr : RdS (· < w.heap.size) w l a n c) :
    Calls Tryd.prog 90 #[.slice a n c, .func (.func 91) #[] #[]] w fun e w' => e = .returned (.bool (!frsOk l)) ∧ Below w.heap.size w w' := by
  have HC := Lib.hid (indexBad_any l a n c w hg hr)
  have hb := badIx_ok l
  generalize badIx l = z at *
  generalize (!frsOk l) = q at *
  clear hg hr
  cases q
  · go_enter Tryd.func90, Tryd.ntmps90
    go_wp2_with fail
    refine HC.out.mono ?_
    rintro e w2 ⟨rfl, u2⟩
    have U2 := Lib.hid u2
    clear u2
    go_wp2_with fail
    go_ret
    exact ⟨rfl, U2.out⟩
  · go_enter Tryd.func90, Tryd.ntmps90
    go_wp2_with fail
    refine HC.out.mono ?_
    rintro e w2 ⟨rfl, u2⟩
    have U2 := Lib.hid u2
    clear u2
    go_wp2_with fail
    go_ret
    exact ⟨rfl, U2.out⟩
theorem frames_any (l : List Fr) (a : Option Addr) (n c : Nat) (w : World) (hg : Good w) (hr : RdS (· < w.heap.size) w l a n c) :
    Calls Tryd.prog 73 #[.slice a n c] w fun e w' => e = .returned (.bool (frsOk l)) ∧ Below w.heap.size w w' := by
  have HC := Lib.hid (containsBad_any l a n c w hg hr)
  generalize frsOk l = q at *
  clear hg hr
  cases q
  · go_enter Tryd.func73, Tryd.ntmps73
    go_wp2_with fail
    refine HC.out.mono ?_
    rintro e w2 ⟨rfl, u2⟩
    have U2 := Lib.hid u2
    clear u2
    go_wp2_with fail
    go_ret
    exact ⟨rfl, U2.out⟩
  · go_enter Tryd.func73, Tryd.ntmps73
    go_wp2_with fail
    refine HC.out.mono ?_
    rintro e w2 ⟨rfl, u2⟩
    have U2 := Lib.hid u2
    clear u2
    go_wp2_with fail
    go_ret
    exact ⟨rfl, U2.out⟩
def Lk.odd1 (l : Lk) : Prop := l.epoch < 0 ∨ 1048576 < l.epoch ∨ l.next < 1 ∨ 1048576 < l.next ∨ l.heard < 0 ∨ 1048576 < l.heard
instance (l : Lk) : Decidable l.odd1 := by unfold Lk.odd1; infer_instance
def Lk.odd2 (l : Lk) : Prop := 8 < l.sent.length ∨ l.next ≤ (l.sent.length : Int) ∨ (0 < l.queue.length ∧ l.sent.length < 8) ∨ frsOk l.sent = false ∨ frsOk l.queue = false
instance (l : Lk) : Decidable l.odd2 := by unfold Lk.odd2; infer_instance
/-- what link.Check answers -/
def Lk.check (l : Lk) : Int := if l.odd1 then 9 else if l.odd2 then 9 else if l.epoch = 0 ∧ 0 < (l.sent.length : Int) + l.heard then 9 else 0
def Lk.fits (l : Lk) : Prop := I64 l.epoch ∧ I64 l.next ∧ I64 l.heard
/-- a link as a value -/
def lkV (l : Lk) (s q : Value) : Value := .agg #[.int .i64 l.epoch, .int .i64 l.next, s, q, .int .i64 l.heard]
theorem lk_odd1 (l : Lk) (a b : Option Addr) (n c m d : Nat) (w : World) (hf : l.fits) (ho : l.odd1) :
    Calls Tryd.prog 54 #[lkV l (.slice a n c) (.slice b m d)] w fun e w' => e = .returned (.int .i64 9) ∧ Below w.heap.size w w' := by
  unfold lkV
  obtain ⟨h1, h2, h3⟩ := hf
  unfold I64 at h1 h2 h3
  unfold Lk.odd1 at ho
  obtain ⟨ep, nx, se, qu, he⟩ := l
  simp only at *
  by_cases k1 : ep < 0
  · clear ho
    go_enter Tryd.func54, Tryd.ntmps54
    go_wp2_with fail
    go_ret
    exact ⟨rfl, by (repeat (first | exact Below.refl _ _ | assumption | (refine Below.drew ?_) | (refine below_drewN ?_ _) | (refine Below.alloc ?_ (by first | (simp; done) | (simp; omega) | omega) _) | (refine Below.setCell ?_ (by first | (simp; done) | (simp; omega) | omega) _) | (refine Below.trans ?_ (Below.mono (by assumption) (by first | (simp; done) | (simp; omega) | omega)))))⟩
  by_cases k2 : 1048576 < ep
  · clear ho
    go_enter Tryd.func54, Tryd.ntmps54
    go_wp2_with fail
    go_ret
    exact ⟨rfl, by (repeat (first | exact Below.refl _ _ | assumption | (refine Below.drew ?_) | (refine below_drewN ?_ _) | (refine Below.alloc ?_ (by first | (simp; done) | (simp; omega) | omega) _) | (refine Below.setCell ?_ (by first | (simp; done) | (simp; omega) | omega) _) | (refine Below.trans ?_ (Below.mono (by assumption) (by first | (simp; done) | (simp; omega) | omega)))))⟩
  by_cases k3 : nx < 1
  · clear ho
    go_enter Tryd.func54, Tryd.ntmps54
    go_wp2_with fail
    go_ret
    exact ⟨rfl, by (repeat (first | exact Below.refl _ _ | assumption | (refine Below.drew ?_) | (refine below_drewN ?_ _) | (refine Below.alloc ?_ (by first | (simp; done) | (simp; omega) | omega) _) | (refine Below.setCell ?_ (by first | (simp; done) | (simp; omega) | omega) _) | (refine Below.trans ?_ (Below.mono (by assumption) (by first | (simp; done) | (simp; omega) | omega)))))⟩
  by_cases k4 : 1048576 < nx
  · clear ho
    go_enter Tryd.func54, Tryd.ntmps54
    go_wp2_with fail
    go_ret
    exact ⟨rfl, by (repeat (first | exact Below.refl _ _ | assumption | (refine Below.drew ?_) | (refine below_drewN ?_ _) | (refine Below.alloc ?_ (by first | (simp; done) | (simp; omega) | omega) _) | (refine Below.setCell ?_ (by first | (simp; done) | (simp; omega) | omega) _) | (refine Below.trans ?_ (Below.mono (by assumption) (by first | (simp; done) | (simp; omega) | omega)))))⟩
  by_cases k5 : he < 0
  · clear ho
    go_enter Tryd.func54, Tryd.ntmps54
    go_wp2_with fail
    go_ret
    exact ⟨rfl, by (repeat (first | exact Below.refl _ _ | assumption | (refine Below.drew ?_) | (refine below_drewN ?_ _) | (refine Below.alloc ?_ (by first | (simp; done) | (simp; omega) | omega) _) | (refine Below.setCell ?_ (by first | (simp; done) | (simp; omega) | omega) _) | (refine Below.trans ?_ (Below.mono (by assumption) (by first | (simp; done) | (simp; omega) | omega)))))⟩
  · have k6 : 1048576 < he := by omega
    clear ho
    go_enter Tryd.func54, Tryd.ntmps54
    go_wp2_with fail
    go_ret
    exact ⟨rfl, by (repeat (first | exact Below.refl _ _ | assumption | (refine Below.drew ?_) | (refine below_drewN ?_ _) | (refine Below.alloc ?_ (by first | (simp; done) | (simp; omega) | omega) _) | (refine Below.setCell ?_ (by first | (simp; done) | (simp; omega) | omega) _) | (refine Below.trans ?_ (Below.mono (by assumption) (by first | (simp; done) | (simp; omega) | omega)))))⟩
set_option maxRecDepth 100000 in
set_option maxHeartbeats 2000000 in
theorem lk_odd2 (l : Lk) (a b : Option Addr) (n c m d : Nat) (w : World) (hg : Good w) (hr : RdS (· < w.heap.size) w l.sent a n c) (hq : RdS (· < w.heap.size) w l.queue b m d) (hf : l.fits) (h1 : ¬ l.odd1) (ho : l.odd2) :
    Calls Tryd.prog 54 #[lkV l (.slice a n c) (.slice b m d)] w fun e w' => e = .returned (.int .i64 9) ∧ Below w.heap.size w w' := by
  unfold lkV
  have HS := Lib.hid (fun W (hW : Below w.heap.size w W) => frames_any l.sent a n c W (hg.go hW) (hr.go hW))
  have HQ := Lib.hid (fun W (hW : Below w.heap.size w W) => frames_any l.queue b m d W (hg.go hW) (hq.go hW))
  have hn := hr.1
  have hm := hq.1
  have hn2 : n ≤ maxLen := Nat.le_trans hr.2.1 hr.2.2.1
  have hm2 : m ≤ maxLen := Nat.le_trans hq.2.1 hq.2.2.1
  unfold maxLen at hn2 hm2
  unfold Lk.odd1 at h1
  unfold Lk.odd2 at ho
  rw [← hn, ← hm] at ho
  obtain ⟨ep, nx, se, qu, he⟩ := l
  simp only at *
  generalize frsOk se = bs at *
  generalize frsOk qu = bq at *
  have k1 : 0 ≤ ep := by omega
  have k2 : ep ≤ 1048576 := by omega
  have k3 : 1 ≤ nx := by omega
  have k4 : nx ≤ 1048576 := by omega
  have k5 : 0 ≤ he := by omega
  have k6 : he ≤ 1048576 := by omega
  clear hf h1 hg hr hq hn hm
  by_cases j1 : 8 < n
  · have d1 : decide ((8 : Int) < (n : Int)) = true := by simp; omega
    clear ho
    go_enter Tryd.func54, Tryd.ntmps54
    go_wp2_with fail
    go_ret
    exact ⟨rfl, by (repeat (first | exact Below.refl _ _ | assumption | (refine Below.drew ?_) | (refine below_drewN ?_ _) | (refine Below.alloc ?_ (by first | (simp; done) | (simp; omega) | omega) _) | (refine Below.setCell ?_ (by first | (simp; done) | (simp; omega) | omega) _) | (refine Below.trans ?_ (Below.mono (by assumption) (by first | (simp; done) | (simp; omega) | omega)))))⟩
  have d1 : decide ((8 : Int) < (n : Int)) = false := by simp; omega
  by_cases j2 : nx ≤ (n : Int)
  · clear ho
    go_enter Tryd.func54, Tryd.ntmps54
    go_wp2_with fail
    go_ret
    exact ⟨rfl, by (repeat (first | exact Below.refl _ _ | assumption | (refine Below.drew ?_) | (refine below_drewN ?_ _) | (refine Below.alloc ?_ (by first | (simp; done) | (simp; omega) | omega) _) | (refine Below.setCell ?_ (by first | (simp; done) | (simp; omega) | omega) _) | (refine Below.trans ?_ (Below.mono (by assumption) (by first | (simp; done) | (simp; omega) | omega)))))⟩
  by_cases j3 : 0 < m
  · have d3 : decide ((0 : Int) < (m : Int)) = true := by simp; omega
    by_cases j4 : n < 8
    · have d4 : decide ((n : Int) < 8) = true := by simp; omega
      clear ho
      go_enter Tryd.func54, Tryd.ntmps54
      go_wp2_with fail
      go_ret
      exact ⟨rfl, by (repeat (first | exact Below.refl _ _ | assumption | (refine Below.drew ?_) | (refine below_drewN ?_ _) | (refine Below.alloc ?_ (by first | (simp; done) | (simp; omega) | omega) _) | (refine Below.setCell ?_ (by first | (simp; done) | (simp; omega) | omega) _) | (refine Below.trans ?_ (Below.mono (by assumption) (by first | (simp; done) | (simp; omega) | omega)))))⟩
    · have d4 : decide ((n : Int) < 8) = false := by simp; omega
      have ho2 : bs = false ∨ bq = false := by
        rcases ho with h | h | h | h | h
        · omega
        · omega
        · omega
        · exact .inl h
        · exact .inr h
      clear ho
      cases bs with
      | false =>
        clear ho2
        go_enter Tryd.func54, Tryd.ntmps54
        go_wp2_with fail
        refine (HS.out _ ((Below.refl _ _).alloc (Nat.le_refl _) _)).mono ?_
        rintro e w2 ⟨rfl, u2⟩
        have U2 := Lib.hid (up ((Below.refl _ _).alloc (Nat.le_refl _) _) u2)
        clear u2 HS HQ
        go_wp2_with fail
        go_ret
        exact ⟨rfl, U2.out⟩
      | true =>
        have hbq : bq = false := by simpa using ho2
        subst hbq
        clear ho2
        go_enter Tryd.func54, Tryd.ntmps54
        go_wp2_with fail
        refine (HS.out _ ((Below.refl _ _).alloc (Nat.le_refl _) _)).mono ?_
        rintro e w2 ⟨rfl, u2⟩
        have x2 := (Blk.new w _).go u2
        have c3 : w2.cell? ⟨w.heap.size, 3, none⟩ = some (.slice b m d) := x2.cell 3
        have U2 := Lib.hid (up ((Below.refl _ _).alloc (Nat.le_refl _) _) u2)
        clear u2 HS x2
        go_wp2_with fail
        refine (HQ.out _ U2.out).mono ?_
        rintro e w3 ⟨rfl, u3⟩
        have U3 := Lib.hid (up U2.out u3)
        clear u3 HQ
        go_wp2_with fail
        go_ret
        exact ⟨rfl, U3.out⟩
  · have hm0 : m = 0 := by omega
    subst hm0
    have ho2 : bs = false ∨ bq = false := by
      rcases ho with h | h | h | h | h
      · omega
      · omega
      · omega
      · exact .inl h
      · exact .inr h
    clear ho j3
    cases bs with
    | false =>
      clear ho2
      go_enter Tryd.func54, Tryd.ntmps54
      go_wp2_with fail
      refine (HS.out _ ((Below.refl _ _).alloc (Nat.le_refl _) _)).mono ?_
      rintro e w2 ⟨rfl, u2⟩
      have U2 := Lib.hid (up ((Below.refl _ _).alloc (Nat.le_refl _) _) u2)
      clear u2 HS HQ
      go_wp2_with fail
      go_ret
      exact ⟨rfl, U2.out⟩
    | true =>
      have hbq : bq = false := by simpa using ho2
      subst hbq
      clear ho2
      go_enter Tryd.func54, Tryd.ntmps54
      go_wp2_with fail
      refine (HS.out _ ((Below.refl _ _).alloc (Nat.le_refl _) _)).mono ?_
      rintro e w2 ⟨rfl, u2⟩
      have x2 := (Blk.new w _).go u2
      have c3 : w2.cell? ⟨w.heap.size, 3, none⟩ = some (.slice b 0 d) := x2.cell 3
      have U2 := Lib.hid (up ((Below.refl _ _).alloc (Nat.le_refl _) _) u2)
      clear u2 HS x2
      go_wp2_with fail
      refine (HQ.out _ U2.out).mono ?_
      rintro e w3 ⟨rfl, u3⟩
      have U3 := Lib.hid (up U2.out u3)
      clear u3 HQ
      go_wp2_with fail
      go_ret
      exact ⟨rfl, U3.out⟩
end Go.Proofs.YtkbfhgcjimfgkaaDoor
