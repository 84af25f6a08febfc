/- The walk of NumberForms. -/
import Derived.Test.YtdbdhpjjndhjiaaDoorRecordBack
set_option linter.unusedSimpArgs false
namespace Go.Proofs.YtdbdhpjjndhjiaaDoor
open Go.RowKit

theorem numB_last (n : Nat) : ∃ (a : Bs) (c : UInt8), numB n = a ++ [c] ∧ c.toNat < 128 := by
  induction n using Nat.strongRecOn with
  | _ n ih =>
    by_cases h : n < 128
    · exact ⟨[], UInt8.ofNat n, by rw [numB_small h]; rfl, by rw [ofNat_toNat' (by omega)]; exact h⟩
    · obtain ⟨a, c, h1, h2⟩ := ih (n / 128) (by omega)
      exact ⟨UInt8.ofNat (n % 128 + 128) :: a, c, by rw [numB_big h, h1]; rfl, h2⟩
/-- the last byte says that more follows, and nothing does -/
theorem tk_long (k : Nat) : ∀ (i n m : Nat) (a : Bs) (c : UInt8), i + k = 3 → m < 128 ^ k → (i = 0 ∨ 0 < m) → numB m = a ++ [c] → ∀ d : UInt8, d.toNat = c.toNat + 128 → tk i n (a ++ [d] ++ [0]) = (0, [], 4) := by
  induction k with
  | zero => intro i n m a c hi hm h0; simp at hm; omega
  | succ k ih =>
    intro i n m a c hi hm h0 he d hd
    have hdl := d.toNat_lt
    have hz : (0 : UInt8).toNat = 0 := rfl
    by_cases h1 : m < 128
    · rw [numB_small h1] at he
      have ha : a = [] := by
        cases a with
        | nil => rfl
        | cons x a => simp at he
      subst ha
      simp at he
      subst he
      rw [ofNat_toNat' (by omega)] at hd
      rw [List.nil_append, List.cons_append, List.nil_append, tk_on (by omega) (by omega), tk_bad (by left; exact ⟨by omega, rfl⟩)]
    · rw [numB_big h1] at he
      have e : (UInt8.ofNat (m % 128 + 128)).toNat = m % 128 + 128 := ofNat_toNat' (by omega)
      cases a with
      | nil =>
        have h2 := numB_len (m / 128)
        have := congrArg List.length he
        simp at this
        rw [this] at h2; simp at h2
      | cons x a =>
        simp only [List.cons_append, List.cons.injEq] at he
        obtain ⟨rfl, he⟩ := he
        have hdm : m / 128 < 128 ^ k := by rw [Nat.div_lt_iff_lt_mul (by omega)]; rw [Nat.pow_succ] at hm; exact hm
        rw [List.cons_append, List.cons_append, tk_on (by rw [e]; omega) (by rw [e]; omega)]
        exact ih _ _ _ _ _ (by omega) hdm (by right; omega) he d hd
theorem dec_fault {b : Bs} (h : tk 0 0 b = (0, [], 4)) (hl : b.length ≤ 50000) : decRec b = (⟨0, []⟩, 4) := by
  have ht : Rd.take ⟨b, 0⟩ = (0, ⟨[], 4⟩) := by unfold Rd.take; rw [if_pos rfl, h]
  have h2 : Rd.op ⟨[], 4⟩ = ([], ⟨[], 4⟩) := by rfl
  have h3 : Rd.done ⟨[], 4⟩ = ⟨[], 4⟩ := by rfl
  have hr : rdRec b = (⟨0, []⟩, ⟨[], 4⟩) := by
    unfold rdRec
    rw [ht]
    simp only [if_true]
    rw [h2, h3]
  have hf : recFault b = 4 := by unfold recFault; rw [hr]; rfl
  unfold decRec
  rw [if_neg (by omega), if_neg (by rw [hf]; decide), hf]
theorem epoch_bytes {k : Nat} (h : 1 ≤ k) : recB ⟨(k : Int), []⟩ = numB k := by unfold recB; simp; omega
theorem own_set {w : World} {base g n cap i : Nat} {l : Bs} {x : UInt8} (h : w.ownsRow base 5 1 (.slice (some ⟨g, 0, none⟩) n cap) n (bb l)) (hi : i < l.length) : (w.setCell ⟨g, i, none⟩ (.int .u8 (x.toNat : Int))).ownsRow base 5 1 (.slice (some ⟨g, 0, none⟩) n cap) n (bb (l.set i x)) := by
  obtain ⟨hst, _⟩ := h.stored i (.int .u8 (x.toNat : Int))
  unfold bb at hst ⊢
  rw [List.map_set]
  exact hst

set_option maxRecDepth 100000 in
set_option maxHeartbeats 4000000 in
theorem numberForms_walk (w : World) (hg : Good w) (n : Int) (hn : I64 n) :
    Calls Tryd.prog 6 #[.int .i64 n] w fun e w' => e = .returned (.bool true) ∧ Below w.heap.size w w' := by
  have hp := pk_range n 1048576 (by omega)
  have HP := Lib.hid (picked_any n 1048576 w hn (by omega) (by omega))
  generalize pk n 1048576 = q0 at *
  obtain ⟨q, rfl⟩ : ∃ q : Nat, q0 = (q : Int) := ⟨q0.toNat, by omega⟩
  obtain ⟨k, hkq⟩ : ∃ k : Nat, (k : Int) = 1 + (q : Int) := ⟨q + 1, by omega⟩
  have hk1 : 1 ≤ k := by omega
  have hk2 : k ≤ 1048576 := by omega
  have x0 : checkRecord ⟨(k : Int), []⟩ = 0 := rec_epoch (by omega) (by omega)
  obtain ⟨a, c, hac, hc8⟩ := numB_last k
  have hE := fun W hg => encRecord_go ⟨(k : Int), []⟩ none 0 0 W hg (RdS.none' W) (by unfold I64; simp only; omega) x0
  have hD := fun a n c W hg hr => decRecord_go (recB ⟨(k : Int), []⟩) a n c W hg hr
  rw [dec_enc x0] at hD
  rw [epoch_bytes hk1] at hE hD
  obtain ⟨d, hd⟩ : ∃ d : UInt8, d.toNat = c.toNat + 128 := ⟨UInt8.ofNat (c.toNat + 128), ofNat_toNat' (by omega)⟩
  have hlk := numB_len3 (n := k) (by omega)
  have hlong := tk_long 3 0 0 k a c rfl (by simpa using (by omega : k < 2097152)) (.inl rfl) hac d hd
  have hF := fun a' n' c' W hg hr => decRecord_go (a ++ [d] ++ [0]) a' n' c' W hg hr
  rw [dec_fault hlong (by rw [hac] at hlk; simp at hlk ⊢; omega)] at hF
  simp only at hE hD hF
  have hlen : (numB k).length = a.length + 1 := by rw [hac]; simp
  have hlen2 : (a ++ [d] ++ [0]).length = a.length + 2 := by simp
  rw [hlen] at hE
  rw [hac] at hE hD
  have HE := Lib.hid hE
  have HD := Lib.hid hD
  have HF := Lib.hid hF
  have hkq' : 1 + (q : Int) = (k : Int) := by omega
  -- the number's size
  have Hsz : Hid (∀ m : Nat, m < 128 → (numB m).length = 1) := fun m hm => by rw [numB_small hm]; rfl
  have Hsz2 : Hid (∀ m : Nat, 128 ≤ m → (numB m).length = (numB (m / 128)).length + 1) := fun m hm => by rw [numB_big (by omega)]; rfl
  have Hlen := Lib.hid hlen
  have Hlen2 := Lib.hid hlen2
  have HQ := Lib.hid hkq'
  have hal : a.length ≤ 2 := by omega
  have ho : Hid (bits .or .u8 (c.toNat : Int) 128 = (d.toNat : Int)) := by
    unfold Hid
    have h1 := u8_or_nat c.toNat 128 (by omega) (by omega)
    have h2 := Nat.two_pow_add_eq_or_of_lt (i := 7) hc8 1
    rw [show ((128 : Nat) : Int) = 128 from rfl] at h1
    rw [h1, Nat.or_comm, show (128 : Nat) = 2 ^ 7 * 1 from rfl, ← h2, hd]
    omega
  have hset : Hid ((a ++ [c]).set a.length d = a ++ [d]) := by unfold Hid; simp
  have hcl : (a ++ [c]).length = a.length + 1 := by simp
  have hdl : (a ++ [d]).length = a.length + 1 := by simp
  have Hcl := Lib.hid hcl
  have Hdl := Lib.hid hdl
  clear hE hD hF hlong hkq hkq' x0 hac hlen hlen2 hlk hd hc8 hcl hdl
  go_enter Tryd.func6, Tryd.ntmps6
  go_wp2_with fail
  refine HP.out.mono ?_
  rintro e w0 ⟨rfl, rfl⟩
  have hQ := HQ.out
  go_wp2_with fail
  refine (HE.out _ hg).mono ?_
  rintro e w1 ⟨ab, cb, rfl, rb, hb1⟩
  have RB := Lib.hid rb
  have HB1 := Lib.hid hb1
  have hg1 := Lib.hid (hg.go hb1)
  clear rb hb1 HE HP hQ
  go_wp2_with fail
  go_loop [6, 7] (fun sz mm => ∃ (m s : Nat), sz = .int .i64 s ∧ mm = .int .i64 m ∧ m ≤ 1048576 ∧ s + (numB m).length = a.length + 2 ∧ 1 ≤ s) (fun _ mm => (intOf mm).toNat)
  case atStart => exact ⟨k, 1, rfl, rfl, hk2, by have := Hlen.out; omega, by omega⟩
  case round =>
    obtain ⟨m, s, rfl, rfl, hm, hs, hs1⟩ := hrel
    have hml := numB_len m
    by_cases h128 : 128 ≤ m
    · have h2 := Hsz2.out m h128
      have Hs := Lib.hid hs
      have H2 := Lib.hid h2
      have hsb : s ≤ 4 := by omega
      clear hs h2 hml
      go_wp2_with fail
      go_round
      case rel => exact ⟨m / 128, s + 1, by go_num, by go_num, by omega, by have := Hs.out; have := H2.out; omega, by omega⟩
      case measure => simp [intOf]; omega
    · have h1 := Hsz.out m (by omega)
      have hsa : s = a.length + 1 := by omega
      have Hsa := Lib.hid hsa
      clear hs hml h1 hsa
      have hnil : w1.ownsRow w1.heap.size 5 1 (.slice none 0 0) ([] : Bs).length (bb []) := World.ownsRow_nil _ _ _ _
      go_wp2_with (at_builtin; go_must (refine wpList_append_bytes rfl _ _ (by rfl) w1.heap.size (.slice none 0 0) [] (a ++ [c]) (by rfl) hnil ab (a.length + 1) cb (by rfl) RB.out (fun _ => rfl) (by simp; omega) (by simp) ?_))
      intro aq cq W2 hown hfq hgrow
      have hown2 : W2.ownsRow w1.heap.size 5 1 (.slice aq (a.length + 1) cq) (a.length + 1) (bb (a ++ [c])) := by simpa using hown
      have hb2 : Below w1.heap.size w1 W2 := (Below.refl _ _).grown hgrow (Nat.le_refl _) (fun g hg => by simp [Value.ownBlock] at hg)
      clear hown hgrow hfq hnil
      obtain ⟨g, cap, hv, hgb, hgl⟩ := hown2.form (by omega)
      injection hv with hv1 hv2 hv3
      subst hv1 hv3
      have hcell : W2.cell? ⟨g, a.length, none⟩ = some (.int .u8 (c.toNat : Int)) := by
        have h1 := hown2.cells (g := g) rfl a.length (.int .u8 (c.toNat : Int)) (by simp [bb])
        have e : (⟨g, 0, none⟩ : Addr).add a.length = ⟨g, a.length, none⟩ := by
          unfold Addr.add
          split
          · rename_i h0; rw [h0]
          · simp
        rwa [e] at h1
      have hfz : W2.frozen? ⟨g, a.length, none⟩ = false := hown2.frozenAt a.length
      have hst : (W2.setCell ⟨g, a.length, none⟩ (.int .u8 (d.toNat : Int))).ownsRow w1.heap.size 5 1 (.slice (some ⟨g, 0, none⟩) (a.length + 1) cq) (a ++ [d]).length (bb (a ++ [d])) := by
        have h1 := own_set (x := d) hown2 (i := a.length) (by rw [Hcl.out]; omega)
        rw [hset.out] at h1
        rw [Hdl.out]
        exact h1
      have hrd : RdS (· < ((W2.setCell ⟨g, a.length, none⟩ (.int .u8 (d.toNat : Int))).alloc (.cells #[.int .u8 0] 5)).heap.size) ((W2.setCell ⟨g, a.length, none⟩ (.int .u8 (d.toNat : Int))).alloc (.cells #[.int .u8 0] 5)) [(0 : UInt8)] (some ⟨W2.heap.size, 0, none⟩) 1 1 := by
        have h := rd_one (W2.setCell ⟨g, a.length, none⟩ (.int .u8 (d.toNat : Int))) 0 0 rfl
        rwa [World.size_setCell] at h
      have hb3 : Below w1.heap.size w1 (W2.setCell ⟨g, a.length, none⟩ (.int .u8 (d.toNat : Int))) := hb2.setCell (p := ⟨g, a.length, none⟩) hgb _
      have hz2 := hb2.size
      have HST := Lib.hid hst
      have HRD := Lib.hid hrd
      have HB3 := Lib.hid hb3
      have hoo := ho.out
      have i1 : (0 : Int) ≤ (a.length : Int) := by omega
      have hcq : a.length + 1 ≤ cq := by
        rcases hown2.2 with ⟨hv, h0⟩ | ⟨g', cap', cur, hv, _, _, h3, _⟩
        · cases hv
        · injection hv with _ _ h4; omega
      clear hst hrd hb3 hb2 hown2
      go_wp2_with (at_builtin; go_must (refine wpList_append_bytes rfl _ _ (by rfl) w1.heap.size (.slice (some ⟨g, 0, none⟩) (a.length + 1) cq) (a ++ [d]) [(0 : UInt8)] (by rfl) (HST.out.alloc _) (some ⟨W2.heap.size, 0, none⟩) 1 1 (by rfl) HRD.out (fun h => by cases h) (by rw [Hdl.out]; omega) (by simp; omega) ?_))
      intro aq2 cq2 W4 hown4 hfq4 hgrow4
      have hown5 : W4.ownsRow w1.heap.size 5 1 (.slice aq2 (a ++ [d] ++ [0]).length cq2) (a ++ [d] ++ [0]).length (bb (a ++ [d] ++ [0])) := by simpa using hown4
      have hwz := HST.out.lt
      have hb4 : Below w1.heap.size w1 W4 := (HB3.out.alloc (by simp; omega) _).grown hgrow4 (by simp; omega) (fun g hg => (hwz g hg).1)
      obtain ⟨a5, c5, hv5, -, rq⟩ := rd_bytes hown5 (A := (· < W4.heap.size)) (fun k hk => (hown5.lt k hk).2)
      injection hv5 with hv6 hv7 hv8
      subst hv6 hv8
      rw [Hlen2.out] at rq
      have g4 := hg1.out.go hb4
      have rb4 := RB.out.go hb4
      have B4 := Lib.hid (up HB1.out hb4)
      have RQ := Lib.hid rq
      have G4 := Lib.hid g4
      have RB4 := Lib.hid rb4
      clear hv7 hown4 hown5 hgrow4 hfq4 hb4 rq g4 rb4 HST HRD HB3 RB HB1 hg1 hcell hfz hoo hwz
      go_wp2_with fail
      refine (HF.out _ _ _ _ G4.out RQ.out).mono ?_
      rintro e w5 ⟨a6, c6, rfl, -, hb5, -⟩
      have G5 := Lib.hid (G4.out.go hb5)
      have RB5 := Lib.hid (RB4.out.go hb5)
      have B5 := Lib.hid (up B4.out hb5)
      clear hb5 G4 RB4 B4 RQ HF
      go_wp2_with fail
      refine abs_run (fun W => Below w5.heap.size w5 W) (by (repeat (first | exact Below.refl _ _ | assumption | (refine Below.drew ?_) | (refine below_drewN ?_ _) | (refine Below.alloc ?_ (by first | (simp; done) | (simp; omega) | omega) _) | (refine Below.setCell ?_ (by first | (simp; done) | (simp; omega) | omega) _) | (refine Below.trans ?_ (Below.mono (by assumption) (by first | (simp; done) | (simp; omega) | omega)))))) ?_
      intro w6 hb6
      refine (HD.out _ _ _ _ (G5.out.go hb6) (RB5.out.go hb6)).mono ?_
      rintro e w7 ⟨a8, c8, rfl, -, hb7, -⟩
      have B7 := Lib.hid (up (up B5.out hb6) hb7)
      clear hb6 hb7 G5 RB5 B5 HD
      have hsa := Hsa.out
      subst hsa
      go_wp2_with fail
      go_ret
      exact ⟨rfl, up B7.out (by (repeat (first | exact Below.refl _ _ | assumption | (refine Below.drew ?_) | (refine below_drewN ?_ _) | (refine Below.alloc ?_ (by first | (simp; done) | (simp; omega) | omega) _) | (refine Below.setCell ?_ (by first | (simp; done) | (simp; omega) | omega) _) | (refine Below.trans ?_ (Below.mono (by assumption) (by first | (simp; done) | (simp; omega) | omega))))))⟩
end Go.Proofs.YtdbdhpjjndhjiaaDoor
