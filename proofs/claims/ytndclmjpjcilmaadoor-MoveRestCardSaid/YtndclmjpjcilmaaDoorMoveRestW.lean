/- The walk of MoveRest. -/
import Derived.Test.YtndclmjpjcilmaaDoorMoveRest
import Derived.Test.YtndclmjpjcilmaaDoorReg2
set_option linter.unusedSimpArgs false
namespace Go.Proofs.YtndclmjpjcilmaaDoor
open Go.RowKit

set_option maxRecDepth 100000 in
set_option maxHeartbeats 6000000 in
theorem moveRest_walk (w : World) (hg : Good w) (s : Str) (hs : s.size ≤ maxLen) (a : Option Addr) (n c : Nat) (l : List Raw) (hr : RdS (· < w.heap.size) w l a n c) (at_ : Int) (hat : I64 at_) :
    Calls Tryd.prog 11 #[.string s, .slice a n c, .int .i64 at_] w fun e w' => e = .returned (.bool true) ∧ Below w.heap.size w w' := by
  have HL := Lib.hid (letters_any s 30 w hs (by omega))
  obtain ⟨s0, s1, s2, s3⟩ := letters_ok s 30 (by omega)
  generalize letters s 30 = S at *
  obtain ⟨t0, t1⟩ := bang_ok S s0 (by omega)
  have hadd : ∀ W : World, (Op.stringOp .add S ⟨#[33]⟩).run Tryd.prog W = .ok (.string (S ++ ⟨#[33]⟩)) W := fun W => run_string_add_sum W _ _ (by show S.size + 1 ≤ _; omega)
  have ht70 : (S ++ ⟨#[33]⟩ : ByteArray).size ≤ 70368744177664 := by rw [size_app]; show S.size + 1 ≤ _; omega
  generalize (S ++ ⟨#[33]⟩ : ByteArray) = T at *
  have HR := Lib.hid (fun W => runes_any T W ht70)
  have hrc := rc_rns T
  have rp := pk_range at_ (rc T) (by omega)
  have HP := Lib.hid (fun W => picked_any at_ (rc T) W hat (by omega) (by omega))
  generalize pk at_ (rc T) = K at *
  obtain ⟨k, rfl⟩ := Int.eq_ofNat_of_zero_le rp.1
  rw [hrc] at HR HP
  have hN : (rns T).length ≤ 31 := by omega
  have hkN : k < (rns T).length := by omega
  obtain ⟨o0, o1, o2, o3⟩ := mkOp_ok (k : Int) l (by omega) (by omega)
  have HOp := Lib.hid (fun W (h : RdS (· < W.heap.size) W l a n c) => mkOp_any _ (k : Int) l a n c W (fun _ h => h) h (by omega) (by omega))
  generalize mkOp (k : Int) l = o at *
  obtain ⟨q0, q1, q2, q3⟩ := rest_op o ((rns T).length - k) (by omega) (rns T).length o0 (by omega) (by omega) (by omega)
  rw [o1] at q3
  have hcan := check_canon o0
  have hself := fun j hj => addR_self hcan j hj
  have hpo := (check_zero o0).2.1
  have hmild : ∀ p ∈ o, Mild p := fun p hp => mild_of_ok (hpo p hp)
  have hlen : o.length ≤ 8001 := (check_zero o0).1
  have hI := opIs o0
  have hX : FS (opP o) = k := by have := hI.f; omega
  have hXT : (TS (opP o) : Int) = sumT o := hI.t.symm
  have hq2 := q2 (rns T)
  rw [hX] at hq2
  have hsum : sumF (addR o.reverse ⟨1, ((rns T).length - k : Nat), noText⟩).reverse = rc T := by rw [q1, hrc]
  obtain ⟨p0, p1, p2, p3, p4, p5⟩ := apply_good t0 q0 hsum
  have hru : rns (applyS T (addR o.reverse ⟨1, ((rns T).length - k : Nat), noText⟩).reverse) = app (rns T) (opP o) ++ ((rns T).drop k).take ((rns T).length - k) := by rw [rns_apply t0 q0 hsum, hq2]
  have hul : (app (rns T) (opP o)).length = TS (opP o) := app_len _ _ (by omega)
  have HA := Lib.hid (fun a n c W hg hr => apply_any T (addR o.reverse ⟨1, ((rns T).length - k : Nat), noText⟩).reverse a n c W hg hr ht70)
  rw [p0] at HA
  have HM := Lib.hid (fun a n c W hg hr => move_any (· < W.heap.size) (k : Int) (addR o.reverse ⟨1, ((rns T).length - k : Nat), noText⟩).reverse true a n c W hg (fun _ h => h) hr (by unfold I64; omega) q0)
  have hcond : ¬ ((k : Int) < 0 ∨ sumF (addR o.reverse ⟨1, ((rns T).length - k : Nat), noText⟩).reverse < (k : Int)) := by rw [q1]; omega
  simp only [if_neg hcond] at HM
  rw [q3, ← hXT] at HM
  have hus : (applyS T (addR o.reverse ⟨1, ((rns T).length - k : Nat), noText⟩).reverse).size ≤ 70368744177664 := by omega
  obtain ⟨RU, hRUz, hRU, hconvU⟩ := runes_of _ hus
  obtain ⟨RT, hRTz, hRT, hconvT⟩ := runes_of T ht70
  have hmb : ∀ p ∈ (addR o.reverse ⟨1, ((rns T).length - k : Nat), noText⟩).reverse, I64 p.kind ∧ I64 p.n ∧ p.text.size ≤ strMax := fun p hp => by
    have h1 := mild_of_ok ((check_zero q0).2.1 p hp)
    exact ⟨by unfold I64; have := h1.k; omega, by unfold I64; have := h1.n; omega, by unfold strMax; have := h1.t; omega⟩
  have hXle : TS (opP o) ≤ 100 := by omega
  clear q0 q1 q2 q3 hcond p0 p1 p2 p3 p4 hsum hpo hcan hI hq2 o3 o2
  generalize hq : (addR o.reverse ⟨1, ((rns T).length - k : Nat), noText⟩).reverse = q at *
  have Hq := Lib.hid hq
  clear hq
  generalize applyS T q = U at *
  generalize hXn : TS (opP o) = X at *
  have HXn := Lib.hid hXn
  have Hru := Lib.hid hru
  have Hself := Lib.hid hself
  have Hmild := Lib.hid hmild
  have Hmb := Lib.hid hmb
  have Hul := Lib.hid hul
  have HRU := Lib.hid hRU
  have HRT := Lib.hid hRT
  have hcU := Lib.hid hconvU
  have hcT := Lib.hid hconvT
  have hcount : rc T = ((rns T).length : Int) := hrc
  have Hcount := Lib.hid hcount
  have hNT : (rns U).length = X + ((rns T).length - k) := by rw [Hru.out, List.length_append, hul, List.length_take, List.length_drop]; omega
  have HNT := Lib.hid hNT
  have HXT := Lib.hid hXT
  have HX2 := Lib.hid hX
  have HRUz := Lib.hid hRUz
  have HRTz := Lib.hid hRTz
  clear hXn hru hself hmild hmb hul hRU hRT hconvU hconvT hcount hNT hrc t0 t1 hs hat s0 s1 s2 s3 hXT hX hRUz hRTz o0 o1
  generalize hNn : (rns T).length = N at *
  have HNn := Lib.hid hNn
  clear hNn
  have hq1 : q.length ≤ 8002 := by
    have := addR_len o.reverse ⟨1, ((N - k : Nat) : Int), noText⟩
    rw [← Hq.out]
    simp at this ⊢
    omega
  go_enter Tryd.func11, Tryd.ntmps11
  go_wp2_with fail
  refine HL.out.mono ?_
  rintro e w1 ⟨rfl, hb1⟩
  have hg1 := hg.below' hb1
  have hr1 := hr.go hb1
  have hB1 := hb1
  clear hr HL
  go_wp2_with fail
  refine (HR.out _).mono ?_
  rintro e w2 ⟨rfl, hb2⟩
  have hg2 := hg1.below' hb2
  have hr2 := hr1.go hb2
  have hB2 := hB1.trans (hb2.mono hB1.size)
  clear hr1 hb1 hb2 hB1 hg1 HR
  go_wp2_with fail
  refine (HP.out _).mono ?_
  rintro e w3 ⟨rfl, rfl⟩
  clear HP
  go_wp2_with fail
  have hz2 := hB2.size
  have hbag : Bag 70 w.heap.size w2.heap.size (.slice none 0 0) [.int .i64 0] [] (w2.alloc (.cells #[.slice none 0 0, .int .i64 0] 70)) :=
    ⟨hz2, heap_new_at w2 _ _ rfl, World.ownsRow_nil _ _ _ _, by simp [Value.ownBlock]⟩
  have hB3 : Below w.heap.size w (w2.alloc (.cells #[.slice none 0 0, .int .i64 0] 70)) := hB2.alloc hz2 _
  have hr3 := hr2.go ((Below.refl _ _).alloc (Nat.le_refl _) (.cells #[.slice none 0 0, .int .i64 0] 70))
  refine (HOp.out _ hr3).mono ?_
  rintro e w4 ⟨a4, c4, rfl, ho4, hb4⟩
  have hbag4 := hbag.below hb4
  have hB4 := hB3.trans (hb4.mono hB3.size)
  have hz4 := hb4.size
  simp at hz4
  have ho4 : RdS (fun b => w2.heap.size < b ∧ b < w4.heap.size) w4 o a4 o.length c4 := by
    obtain ⟨h1, h2, h3, h4, h6⟩ := ho4
    refine ⟨h1, h2, h3, h4, fun hn => ?_⟩
    obtain ⟨b, off, e, hb, hlt, he⟩ := h6 hn
    exact ⟨b, off, e, ⟨by simp at hb; omega, hlt⟩, hlt, fun i x hx => he i x hx⟩
  have hg4 := hg.below hB4 hg.size
  clear hr2 hr3 hb4 hB2 hB3 hbag hg2 HOp
  obtain ⟨M, hM⟩ : ∃ M, o.length = M := ⟨_, rfl⟩
  have hM8 : M ≤ 8001 := by omega
  rw [hM] at ho4 ⊢
  have HM0 := Lib.hid hM
  have Hbag4 := Lib.hid hbag4
  have Ho4 := Lib.hid ho4
  have HB4 := Lib.hid hB4
  clear hM hbag4 ho4 hB4
  go_wp2_with fail
  go_loopw [33] (fun i wr => ∃ (j : Nat) (v : Value), j ≤ M ∧ i = .int .i64 j ∧ Bag 70 w.heap.size w2.heap.size v [.int .i64 0] (o.take j) wr ∧ (∀ g, v.ownBlock = some g → w4.heap.size ≤ g) ∧ RdS (fun b => w2.heap.size < b ∧ b < w4.heap.size) wr o a4 M c4 ∧ w4.heap.size ≤ wr.heap.size ∧ Below w.heap.size w wr) (fun i _ => M - (intOf i).toNat)
  case atStart => exact ⟨0, _, by omega, rfl, by simpa using Hbag4.out, (by intro g hg; cases hg), Ho4.out, Nat.le_refl _, HB4.out⟩
  case round =>
    obtain ⟨j, v, hjM, rfl, hbag, hv, hrd, hwr, hb⟩ := hrel
    clear Hbag4 Ho4 HB4
    by_cases hlt : j < M
    · have hjo : j < o.length := by have := HM0.out; omega
      obtain ⟨b, off, rfl, hbb, hbs, hcs⟩ := hrd.part (by omega)
      obtain ⟨_, _, _, c0, c1, c2⟩ := hcs j hjo
      have Hs := Lib.hid (Hself.out j hjo)
      have hmp := Hmild.out o[j] (List.getElem_mem hjo)
      have htm : ∀ p ∈ (o.take j).reverse, Mild p := fun p hp => Hmild.out p (List.mem_of_mem_take (by simpa using hp))
      have hbag' : Bag 70 w.heap.size w2.heap.size v [.int .i64 0] ((o.take j).reverse).reverse wr := by rw [List.reverse_reverse]; exact hbag
      have hlj : (o.take j).reverse.length ≤ 1000000000000 := by simp; omega
      have Hbag := Lib.hid hbag'
      have Hrd := Lib.hid hrd
      have Hv := Lib.hid hv
      have Htm := Lib.hid htm
      clear hcs hbag hbag' hrd hv htm
      generalize o[j] = p at *
      generalize (o.take j).reverse = r at *
      obtain ⟨pk, pn, pt⟩ := p
      simp only at c0 c1 c2
      go_wp2_with fail
      refine (add_any w.heap.size w2.heap.size 0 ⟨pk, pn, pt⟩ hmp r v _ Htm.out hlj (Hbag.out.alloc _)).mono ?_
      rintro e w5 ⟨v5, rfl, hbag5, ht5, hat5⟩
      rw [Hs.out, List.reverse_reverse] at hbag5
      have hz5 := ht5.size
      simp at hz5
      have hK : Hid (Bag 70 w.heap.size w2.heap.size v5 [.int .i64 0] (o.take (j + 1)) w5 ∧ (∀ g, v5.ownBlock = some g → w4.heap.size ≤ g) ∧ RdS (fun b => w2.heap.size < b ∧ b < w4.heap.size) w5 o (some ⟨b, off, none⟩) M c4 ∧ w4.heap.size ≤ w5.heap.size ∧ Below w.heap.size w w5) := by
        have hal : Below wr.heap.size wr (wr.alloc (.cells #[.int .i64 pk, .int .i64 pn, .string pt] 28)) := (Below.refl _ _).alloc (Nat.le_refl _) _
        refine ⟨hbag5, ?_, ?_, by omega, ?_⟩
        · intro g hg'
          rcases hat5 with h | h
          · exact Hv.out g (by rw [← h]; exact hg')
          · have := h g hg'; simp at this; omega
        · refine Hrd.out.mono fun x hx => ⟨hx, ?_⟩
          have hxl : x < wr.heap.size := by omega
          refine (ht5.block x (by simp; omega) ?_).trans (hal.block x hxl)
          rintro (h | h)
          · omega
          · have := Hv.out x h; omega
        · exact (hb.alloc hb.size _).trans (ht5.toBelow (by simp; have := hb.size; omega) Hbag.out.sB)
      clear hbag5 ht5 hat5
      go_wp2_with fail
      go_roundw
      case rel => exact ⟨j + 1, v5, by omega, by go_num, hK.out⟩
      case measure => simp [intOf]; omega
    · have hjM2 : j = o.length := by have := HM0.out; omega
      rw [hjM2, List.take_length] at hbag
      have hbag' : Bag 70 w.heap.size w2.heap.size v [.int .i64 0] (o.reverse).reverse wr := by rw [List.reverse_reverse]; exact hbag
      have Hbag := Lib.hid hbag'
      have hNk : ((N : Int) - (k : Int)) = ((N - k : Nat) : Int) := by omega
      have HNk := Lib.hid hNk
      have hlo : o.reverse.length ≤ 1000000000000 := by simp; omega
      have Hmr := Lib.hid (p := ∀ p ∈ o.reverse, Mild p) (fun p hp => Hmild.out p (by simpa using hp))
      have HB := Lib.hid hb
      clear hbag hbag' hNk hrd hv hb
      go_wp2_with fail
      rw [HNk.out]
      refine (add_any w.heap.size w2.heap.size 0 ⟨1, ((N - k : Nat) : Int), noText⟩ ⟨by simp only; omega, by simp only; omega, by simp only [noText_size]; omega⟩ o.reverse v wr Hmr.out hlo Hbag.out).mono ?_
      rintro e w5 ⟨v5, rfl, hbag5, ht5, _⟩
      rw [Hq.out] at hbag5
      have hB5 := HB.out.trans (ht5.toBelow HB.out.size Hbag.out.sB)
      have hg5 := hg.below hB5 hg.size
      obtain ⟨a5, c5, hv5, hr5⟩ := hbag5.rd Hmb.out (A := (· < w5.heap.size)) (fun k hk => (hbag5.rowlt k hk).2)
      subst hv5
      have d5 := hbag5.cell 0
      simp only [List.getElem?_cons_zero] at d5
      have hlt5 := hbag5.lt
      clear ht5 hbag5 HB Hbag Hmr
      generalize hQm : q.length = m at *
      have HQm := Lib.hid hQm
      clear hQm
      go_wp2_with fail
      refine (HA.out _ _ _ _ hg5 hr5).mono ?_
      rintro e w6 ⟨rfl, hb6⟩
      have hr6 := hr5.go hb6
      have hg6 := hg5.below' hb6
      have hB6 := hB5.trans (hb6.mono hB5.size)
      have d6 : w6.cell? ⟨w2.heap.size, 0, none⟩ = some (.slice a5 m c5) := (hb6.cell (p := ⟨w2.heap.size, 0, none⟩) hlt5).trans d5
      clear hb6 hr5 hg5 hB5 d5 HA
      go_wp2_with fail
      refine (HM.out _ _ _ _ hg6 hr6).mono ?_
      rintro e w7 ⟨rfl, hb7⟩
      have hB7 := hB6.trans (hb7.mono hB6.size)
      clear hb7 hr6 hg6 hB6 d6 HM
      go_wp2_with fail
      have HR1 : Hid (((rns U).drop X).take ((rns U).length - X) = ((rns T).drop k).take (N - k)) := by
        unfold Hid
        have h1 := HNT.out
        rw [h1, Hru.out, List.drop_append_of_le_length (by rw [Hul.out]; exact Nat.le_refl _), List.drop_of_length_le (by rw [Hul.out]; exact Nat.le_refl _), List.nil_append, List.take_take]
        congr 1; omega
      have hUN : X < (rns U).length := by have := HNT.out; omega
      have hNT2 : N = (rns T).length := HNn.out.symm
      have HNT2 := Lib.hid hNT2
      clear hNT2
      have hUN4 : (rns U).length ≤ 1000 := by have := HNT.out; omega
      have Hun := Lib.hid (p := (rns U).length ≤ 70368744177664) (by omega)
      generalize hR : ((rns T).drop k).take (N - k) = R at *
      have HRR := Lib.hid hR
      clear hR
      generalize hRSU : rns U = RSU at *
      generalize hRST : rns T = RST at *
      clear hRSU hRST
      generalize hUNn : RSU.length = UN at *
      have HUNn := Lib.hid hUNn
      clear hUNn Hself Hmild Hmb Hq Hun HNT
      refine region_lit2 (by kernel_rfl) (by kernel_rfl) (by kernel_rfl) [[], [0], [0, 1], [0, 1, 2], [0, 1, 2, 3], [0, 1, 2, 3, 4], [0, 1, 2, 3, 4, 5], [0, 1, 2, 3, 4, 5, 6], [0, 1, 2, 3, 4, 5, 6, 7], [0, 1, 2, 3, 4, 5, 6], [0, 1, 2, 3, 4, 5, 6, 7, 8, 9], [0, 1, 2, 3, 4, 5, 6, 7, 8, 9, 10], [0, 1, 2, 3, 4, 5, 6], [0, 1, 2, 3, 4, 5, 6, 12], [0, 1, 2, 3, 4, 5, 6], [0, 1, 2, 3, 4, 5, 6, 12, 13, 14], [0, 1, 2, 3, 4, 5, 6, 12, 13, 14, 15], [0, 1, 2, 3, 4, 5, 6, 7, 8, 9, 10, 11, 12, 13, 14, 15, 16], [0, 1, 2, 3, 4, 5, 6, 7, 8, 9, 10, 11, 12, 13, 14, 15, 16, 17], [0, 1, 2, 3, 4, 5, 6, 7, 8, 9, 10, 11, 12, 13, 14, 15, 16, 17, 18]] (by kernel_rfl) [some 65, some 66, some 67, some 68, some 69, some 70, some 71, some 72, some 73, some 74, some 75, some 76, some 77, some 78, some 79, some 80, some 81, some 82, some 83, some 6] (by kernel_rfl) [false, false, false, false, false, false, false, false, false, false, false, false, false, false, false, false, false, false, false, true] (by kernel_rfl)
        (fun W => Below w7.heap.size w7 W)
        (fun i v W => match i with
          | 0 => v = .int .i64 0
          | 1 => v = .bool true
          | 2 => v = .bool true
          | 3 => v = .int .i64 0
          | 4 => v = .bool true
          | 5 => v = .bool true
          | 6 => v = .bool true
          | 7 => v = .string U
          | 8 => ∃ g c, v = .slice (some ⟨g, 0, none⟩) UN c ∧ UN ≤ c ∧ c ≤ 9223372036854775807 ∧ RunesAt W g RSU
          | 9 => v = .int .i64 ((X : Nat) : Int)
          | 10 => ∃ g c, v = .slice (some ⟨g, X, none⟩) (UN - X) c ∧ RunesAt W g RSU
          | 11 => v = .string (Uni.enc R)
          | 12 => v = .string T
          | 13 => ∃ g c, v = .slice (some ⟨g, 0, none⟩) N c ∧ N ≤ c ∧ c ≤ 9223372036854775807 ∧ RunesAt W g RST
          | 14 => v = .int .i64 ((k : Nat) : Int)
          | 15 => ∃ g c, v = .slice (some ⟨g, k, none⟩) (N - k) c ∧ RunesAt W g RST
          | 16 => v = .string (Uni.enc R)
          | 17 => v = .bool true
          | 18 => v = .bool true
          | _ => v = .bool true)
        (fun W W' => Below W.heap.size W W')
        [fun x => ⟨#[undef, undef, undef, undef, undef, undef, undef, undef, undef, undef, undef, undef, undef, undef, undef, .int .i64 0, undef, undef, undef, undef, undef, undef, undef, undef, undef, undef, undef, undef, undef, undef, undef, undef, undef, undef, undef, undef, undef, undef, undef, undef, undef, undef, undef, undef, undef, undef, undef, undef, undef, undef, undef, undef, undef, undef, undef, undef, undef, undef, undef, undef, undef, undef, undef, undef, undef, undef], []⟩,
   fun x => ⟨#[undef, undef, undef, undef, undef, undef, undef, undef, undef, undef, undef, undef, undef, undef, undef, undef, undef, undef, undef, undef, undef, undef, undef, undef, undef, undef, undef, undef, undef, undef, undef, undef, undef, undef, undef, undef, undef, undef, undef, undef, undef, undef, undef, undef, undef, undef, undef, undef, undef, undef, undef, undef, undef, undef, undef, undef, undef, undef, undef, undef, undef, undef, undef, undef, undef, x 0, undef], []⟩,
   fun x => ⟨#[undef, undef, undef, undef, undef, undef, undef, undef, undef, undef, undef, undef, undef, undef, undef, undef, undef, undef, undef, undef, undef, undef, undef, undef, undef, undef, undef, undef, undef, undef, undef, undef, undef, undef, undef, undef, undef, undef, undef, undef, undef, undef, undef, undef, undef, undef, undef, undef, undef, undef, undef, undef, undef, undef, undef, undef, undef, undef, undef, undef, undef, undef, undef, undef, undef, undef, x 1, undef], []⟩,
   fun x => ⟨#[undef, undef, undef, undef, undef, undef, undef, undef, undef, undef, undef, undef, undef, undef, undef, undef, undef, .int .i64 0, undef, undef, undef, undef, undef, undef, undef, undef, undef, undef, undef, undef, undef, undef, undef, undef, undef, undef, undef, undef, undef, undef, undef, undef, undef, undef, undef, undef, undef, undef, undef, undef, undef, undef, undef, undef, undef, undef, undef, undef, undef, undef, undef, undef, undef, undef, undef, undef, undef, x 2, undef], []⟩,
   fun x => ⟨#[undef, undef, undef, undef, undef, undef, undef, undef, undef, undef, undef, undef, undef, undef, undef, undef, undef, undef, undef, undef, undef, undef, undef, undef, undef, undef, undef, undef, undef, undef, undef, undef, undef, undef, undef, undef, undef, undef, undef, undef, undef, undef, undef, undef, undef, undef, undef, undef, undef, undef, undef, undef, undef, undef, undef, undef, undef, undef, undef, undef, undef, undef, undef, undef, undef, undef, undef, x 2, x 3, undef], []⟩,
   fun x => ⟨#[undef, undef, undef, undef, undef, undef, undef, undef, undef, undef, undef, undef, undef, undef, undef, undef, undef, undef, undef, undef, undef, undef, undef, undef, undef, undef, undef, undef, undef, undef, undef, undef, undef, undef, undef, undef, undef, undef, undef, undef, undef, undef, undef, undef, undef, undef, undef, undef, undef, undef, undef, undef, undef, undef, undef, undef, undef, undef, undef, undef, undef, undef, undef, undef, undef, undef, undef, x 2, undef, x 4, undef], []⟩,
   fun x => ⟨#[undef, undef, undef, undef, undef, undef, undef, undef, undef, undef, undef, undef, undef, undef, undef, undef, undef, undef, undef, undef, undef, undef, undef, undef, undef, undef, undef, undef, undef, undef, undef, undef, undef, undef, undef, undef, undef, undef, undef, undef, undef, undef, undef, undef, undef, undef, undef, undef, undef, undef, undef, undef, undef, undef, undef, undef, undef, undef, undef, undef, undef, undef, undef, undef, undef, undef, undef, undef, undef, undef, x 5, undef], []⟩,
   fun x => ⟨#[undef, undef, undef, undef, undef, undef, undef, undef, undef, undef, undef, undef, undef, undef, .string U, undef, undef, undef, undef, undef, undef, undef, undef, undef, undef, undef, undef, undef, undef, undef, undef, undef, undef, undef, undef, undef, undef, undef, undef, undef, undef, undef, undef, undef, undef, undef, undef, undef, undef, undef, undef, undef, undef, undef, undef, undef, undef, undef, undef, undef, undef, undef, undef, undef, undef, undef, undef, undef, undef, undef, undef, x 6, undef], []⟩,
   fun x => ⟨#[undef, undef, undef, undef, undef, undef, undef, undef, undef, undef, undef, undef, undef, undef, undef, undef, undef, undef, undef, undef, undef, undef, undef, undef, undef, undef, undef, undef, undef, undef, undef, undef, undef, undef, undef, undef, undef, undef, undef, undef, undef, undef, undef, undef, undef, undef, undef, undef, undef, undef, undef, undef, undef, undef, undef, undef, undef, undef, undef, undef, undef, undef, undef, undef, undef, undef, undef, undef, undef, undef, undef, x 6, x 7, undef], []⟩,
   fun x => ⟨#[undef, undef, undef, undef, undef, undef, undef, undef, undef, undef, undef, undef, undef, undef, undef, undef, .int .i64 ((X : Nat) : Int), undef, undef, undef, undef, undef, undef, undef, undef, undef, undef, undef, undef, undef, undef, undef, undef, undef, undef, undef, undef, undef, undef, undef, undef, undef, undef, undef, undef, undef, undef, undef, undef, undef, undef, undef, undef, undef, undef, undef, undef, undef, undef, undef, undef, undef, undef, undef, undef, undef, undef, undef, undef, undef, undef, x 6, undef, undef, undef], []⟩,
   fun x => ⟨#[undef, undef, undef, undef, undef, undef, undef, undef, undef, undef, undef, undef, undef, undef, undef, undef, undef, undef, undef, undef, undef, undef, undef, undef, undef, undef, undef, undef, undef, undef, undef, undef, undef, undef, undef, undef, undef, undef, undef, undef, undef, undef, undef, undef, undef, undef, undef, undef, undef, undef, undef, undef, undef, undef, undef, undef, undef, undef, undef, undef, undef, undef, undef, undef, undef, undef, undef, undef, undef, undef, undef, x 6, undef, x 8, x 9, undef], []⟩,
   fun x => ⟨#[undef, undef, undef, undef, undef, undef, undef, undef, undef, undef, undef, undef, undef, undef, undef, undef, undef, undef, undef, undef, undef, undef, undef, undef, undef, undef, undef, undef, undef, undef, undef, undef, undef, undef, undef, undef, undef, undef, undef, undef, undef, undef, undef, undef, undef, undef, undef, undef, undef, undef, undef, undef, undef, undef, undef, undef, undef, undef, undef, undef, undef, undef, undef, undef, undef, undef, undef, undef, undef, undef, undef, x 6, undef, undef, undef, x 10, undef], []⟩,
   fun x => ⟨#[undef, undef, undef, undef, undef, undef, undef, .string T, undef, undef, undef, undef, undef, undef, undef, undef, undef, undef, undef, undef, undef, undef, undef, undef, undef, undef, undef, undef, undef, undef, undef, undef, undef, undef, undef, undef, undef, undef, undef, undef, undef, undef, undef, undef, undef, undef, undef, undef, undef, undef, undef, undef, undef, undef, undef, undef, undef, undef, undef, undef, undef, undef, undef, undef, undef, undef, undef, undef, undef, undef, undef, x 6, undef, undef, undef, undef, undef, undef], []⟩,
   fun x => ⟨#[undef, undef, undef, undef, undef, undef, undef, undef, undef, undef, undef, undef, undef, undef, undef, undef, undef, undef, undef, undef, undef, undef, undef, undef, undef, undef, undef, undef, undef, undef, undef, undef, undef, undef, undef, undef, undef, undef, undef, undef, undef, undef, undef, undef, undef, undef, undef, undef, undef, undef, undef, undef, undef, undef, undef, undef, undef, undef, undef, undef, undef, undef, undef, undef, undef, undef, undef, undef, undef, undef, undef, x 6, undef, undef, undef, undef, undef, x 12, undef], []⟩,
   fun x => ⟨#[undef, undef, undef, undef, undef, undef, undef, undef, undef, .int .i64 ((k : Nat) : Int), undef, undef, undef, undef, undef, undef, undef, undef, undef, undef, undef, undef, undef, undef, undef, undef, undef, undef, undef, undef, undef, undef, undef, undef, undef, undef, undef, undef, undef, undef, undef, undef, undef, undef, undef, undef, undef, undef, undef, undef, undef, undef, undef, undef, undef, undef, undef, undef, undef, undef, undef, undef, undef, undef, undef, undef, undef, undef, undef, undef, undef, x 6, undef, undef, undef, undef, undef, undef, undef, undef], []⟩,
   fun x => ⟨#[undef, undef, undef, undef, undef, undef, undef, undef, undef, undef, undef, undef, undef, undef, undef, undef, undef, undef, undef, undef, undef, undef, undef, undef, undef, undef, undef, undef, undef, undef, undef, undef, undef, undef, undef, undef, undef, undef, undef, undef, undef, undef, undef, undef, undef, undef, undef, undef, undef, undef, undef, undef, undef, undef, undef, undef, undef, undef, undef, undef, undef, undef, undef, undef, undef, undef, undef, undef, undef, undef, undef, x 6, undef, undef, undef, undef, undef, undef, x 13, x 14, undef], []⟩,
   fun x => ⟨#[undef, undef, undef, undef, undef, undef, undef, undef, undef, undef, undef, undef, undef, undef, undef, undef, undef, undef, undef, undef, undef, undef, undef, undef, undef, undef, undef, undef, undef, undef, undef, undef, undef, undef, undef, undef, undef, undef, undef, undef, undef, undef, undef, undef, undef, undef, undef, undef, undef, undef, undef, undef, undef, undef, undef, undef, undef, undef, undef, undef, undef, undef, undef, undef, undef, undef, undef, undef, undef, undef, undef, x 6, undef, undef, undef, undef, undef, undef, undef, undef, x 15, undef], []⟩,
   fun x => ⟨#[undef, undef, undef, undef, undef, undef, undef, undef, undef, undef, undef, undef, undef, undef, undef, undef, undef, undef, undef, undef, undef, undef, undef, undef, undef, undef, undef, undef, undef, undef, undef, undef, undef, undef, undef, undef, undef, undef, undef, undef, undef, undef, undef, undef, undef, undef, undef, undef, undef, undef, undef, undef, undef, undef, undef, undef, undef, undef, undef, undef, undef, undef, undef, undef, undef, undef, undef, undef, undef, undef, undef, x 6, undef, undef, undef, undef, x 11, undef, undef, undef, undef, x 16, undef], []⟩,
   fun x => ⟨#[undef, undef, undef, undef, undef, undef, undef, undef, undef, undef, undef, undef, undef, undef, undef, undef, undef, undef, undef, undef, undef, undef, undef, undef, undef, undef, undef, undef, undef, undef, undef, undef, undef, undef, undef, undef, undef, undef, undef, undef, undef, undef, undef, undef, undef, undef, undef, undef, undef, undef, undef, undef, undef, undef, undef, undef, undef, undef, undef, undef, undef, undef, undef, undef, undef, undef, undef, undef, undef, undef, undef, x 6, undef, undef, undef, undef, undef, undef, undef, undef, undef, undef, x 17, undef], []⟩,
   fun x => ⟨#[undef, undef, undef, undef, undef, undef, undef, undef, undef, undef, undef, undef, undef, undef, undef, undef, undef, undef, undef, undef, undef, undef, undef, undef, undef, undef, undef, undef, undef, undef, undef, undef, undef, undef, undef, undef, undef, undef, undef, undef, undef, undef, undef, undef, undef, undef, undef, undef, undef, undef, undef, undef, undef, undef, undef, undef, undef, undef, undef, undef, undef, undef, undef, undef, undef, undef, undef, undef, undef, undef, undef, undef, undef, undef, undef, undef, undef, undef, undef, undef, undef, undef, undef, x 18], []⟩]
        ?hF ?mono ?h0 ?step ?fin
      case hF =>
        exact ⟨fun x => ⟨by kernel_rfl, by kernel_rfl⟩, fun x => ⟨by kernel_rfl, by kernel_rfl⟩, fun x => ⟨by kernel_rfl, by kernel_rfl⟩, fun x => ⟨by kernel_rfl, by kernel_rfl⟩, fun x => ⟨by kernel_rfl, by kernel_rfl⟩, fun x => ⟨by kernel_rfl, by kernel_rfl⟩, fun x => ⟨by kernel_rfl, by kernel_rfl⟩, fun x => ⟨by kernel_rfl, by kernel_rfl⟩, fun x => ⟨by kernel_rfl, by kernel_rfl⟩, fun x => ⟨by kernel_rfl, by kernel_rfl⟩, fun x => ⟨by kernel_rfl, by kernel_rfl⟩, fun x => ⟨by kernel_rfl, by kernel_rfl⟩, fun x => ⟨by kernel_rfl, by kernel_rfl⟩, fun x => ⟨by kernel_rfl, by kernel_rfl⟩, fun x => ⟨by kernel_rfl, by kernel_rfl⟩, fun x => ⟨by kernel_rfl, by kernel_rfl⟩, fun x => ⟨by kernel_rfl, by kernel_rfl⟩, fun x => ⟨by kernel_rfl, by kernel_rfl⟩, fun x => ⟨by kernel_rfl, by kernel_rfl⟩, fun x => ⟨by kernel_rfl, by kernel_rfl⟩, trivial⟩
      case mono =>
        intro i hi v W W' hE hv
        match i, hi with
        | 0, _ | 1, _ | 2, _ | 3, _ | 4, _ | 5, _ | 6, _ | 7, _ | 9, _ | 11, _ | 12, _ | 14, _ | 16, _ | 17, _ | 18, _ => exact hv
        | 8, _ => exact (hv.imp fun g h => h.imp fun c h => ⟨h.1, h.2.1, h.2.2.1, h.2.2.2.below hE h.2.2.2.1⟩)
        | 10, _ => exact (hv.imp fun g h => h.imp fun c h => ⟨h.1, h.2.below hE h.2.1⟩)
        | 13, _ => exact (hv.imp fun g h => h.imp fun c h => ⟨h.1, h.2.1, h.2.2.1, h.2.2.2.below hE h.2.2.2.1⟩)
        | 15, _ => exact (hv.imp fun g h => h.imp fun c h => ⟨h.1, h.2.below hE h.2.1⟩)
        | m + 19, h => exact absurd h (by cases m <;> simp)
      case h0 => first | exact (Below.refl _ _).drew | exact Below.drew (by assumption) | (refine Below.drew ?_; assumption)
      case step =>
        refine ⟨?_, ?_, ?_, ?_, ?_, ?_, ?_, ?_, ?_, ?_, ?_, ?_, ?_, ?_, ?_, ?_, ?_, ?_, ?_, ?_, trivial⟩
        all_goals
          intro x W hI hV
          simp only [AllV, and_true] at hV
        · clear hV
          (try dsimp only)
          go_wp2_with fail
          exact step_done rfl hI (Below.refl _ _) rfl
        · have u0 := hV
          clear hV
          simp only [u0]
          clear u0
          go_wp2_with fail
          exact step_done rfl hI (Below.refl _ _) rfl
        · obtain ⟨u0, u1⟩ := hV
          simp only [u1]
          clear u0 u1
          go_wp2_with fail
          exact step_done rfl hI (Below.refl _ _) rfl
        · obtain ⟨u0, u1, u2⟩ := hV
          simp only [u2]
          clear u0 u1 u2
          go_wp2_with fail
          exact step_done rfl hI (Below.refl _ _) rfl
        · obtain ⟨u0, u1, u2, u3⟩ := hV
          simp only [u2, u3]
          clear u0 u1 u2 u3
          go_wp2_with fail
          exact step_done rfl hI (Below.refl _ _) rfl
        · obtain ⟨u0, u1, u2, u3, u4⟩ := hV
          simp only [u2, u4]
          clear u0 u1 u2 u3 u4
          go_wp2_with fail
          exact step_done rfl hI (Below.refl _ _) rfl
        · obtain ⟨u0, u1, u2, u3, u4, u5⟩ := hV
          simp only [u5]
          clear u0 u1 u2 u3 u4 u5
          go_wp2_with fail
          exact step_done rfl hI (Below.refl _ _) rfl
        · obtain ⟨u0, u1, u2, u3, u4, u5, u6⟩ := hV
          simp only [u6]
          clear u0 u1 u2 u3 u4 u5 u6
          go_wp2_with fail
          exact step_done rfl hI (Below.refl _ _) rfl
        · obtain ⟨u0, u1, u2, u3, u4, u5, u6, u7⟩ := hV
          simp only [u6, u7]
          clear u0 u1 u2 u3 u4 u5 u6 u7
          have hcv := hcU.out W
          have Hz := Lib.hid hI.size
          have HI := Lib.hid hI
          clear hI
          go_wp2_with fail
          refine step_done rfl (HI.out.trans (Below.mono (((Below.refl _ _).alloc (Nat.le_refl _) _).drew) Hz.out)) (((Below.refl _ _).alloc (Nat.le_refl _) _).drew) ⟨_, _, rfl, grownCap_ge _ _ _ _, ?_, runesAt_new W RU _ RSU HRU.out _⟩
          exact Nat.le_trans (grownCap_le_maxLen _ _ _ _ (by unfold maxLen; omega)) (by unfold maxLen; omega)
        · obtain ⟨u0, u1, u2, u3, u4, u5, u6⟩ := hV
          simp only [u6]
          clear u0 u1 u2 u3 u4 u5 u6
          go_wp2_with fail
          exact step_done rfl hI (Below.refl _ _) rfl
        · obtain ⟨u0, u1, u2, u3, u4, u5, u6, u7, ⟨g8, c8, u8, ha8, hb8, hr8⟩, u9⟩ := hV
          simp only [u6, u8, u9]
          clear u0 u1 u2 u3 u4 u5 u6 u7 u8 u9
          have i1 : (0 : Int) ≤ ((X : Nat) : Int) := by omega
          have i2 : ((X : Nat) : Int) ≤ ((UN : Nat) : Int) := by omega
          have i3 : X < c8 := by omega
          have i4 : ((UN : Nat) : Int) ≤ ((c8 : Nat) : Int) := by omega
          go_wp2_with fail
          exact step_done rfl hI (Below.refl _ _) ⟨_, _, rfl, hr8⟩
        · obtain ⟨u0, u1, u2, u3, u4, u5, u6, u7, ⟨g8, c8, u8, ha8, hb8, hr8⟩, u9, ⟨g10, c10, u10, hr10⟩⟩ := hV
          simp only [u6, u10]
          clear u0 u1 u2 u3 u4 u5 u6 u7 u8 u9 u10
          have hcv := hr10.conv X (UN - X) c10 (by have := HUNn.out; omega)
          rw [HR1.out] at hcv
          go_wp2_with fail
          exact step_done rfl hI (Below.refl _ _) rfl
        · obtain ⟨u0, u1, u2, u3, u4, u5, u6⟩ := hV
          simp only [u6]
          clear u0 u1 u2 u3 u4 u5 u6
          go_wp2_with fail
          exact step_done rfl hI (Below.refl _ _) rfl
        · obtain ⟨u0, u1, u2, u3, u4, u5, u6, u12⟩ := hV
          simp only [u6, u12]
          clear u0 u1 u2 u3 u4 u5 u6 u12
          have hcv := hcT.out W
          have Hz := Lib.hid hI.size
          have HI := Lib.hid hI
          clear hI
          go_wp2_with fail
          refine step_done rfl (HI.out.trans (Below.mono (((Below.refl _ _).alloc (Nat.le_refl _) _).drew) Hz.out)) (((Below.refl _ _).alloc (Nat.le_refl _) _).drew) ⟨_, _, rfl, grownCap_ge _ _ _ _, ?_, runesAt_new W RT _ RST HRT.out _⟩
          exact Nat.le_trans (grownCap_le_maxLen _ _ _ _ (by unfold maxLen; omega)) (by unfold maxLen; omega)
        · obtain ⟨u0, u1, u2, u3, u4, u5, u6⟩ := hV
          simp only [u6]
          clear u0 u1 u2 u3 u4 u5 u6
          go_wp2_with fail
          exact step_done rfl hI (Below.refl _ _) rfl
        · obtain ⟨u0, u1, u2, u3, u4, u5, u6, u12, ⟨g13, c13, u13, ha13, hb13, hr13⟩, u14⟩ := hV
          simp only [u6, u13, u14]
          clear u0 u1 u2 u3 u4 u5 u6 u12 u13 u14
          have i1 : (0 : Int) ≤ ((k : Nat) : Int) := by omega
          have i2 : ((k : Nat) : Int) ≤ ((N : Nat) : Int) := by omega
          have i3 : k < c13 := by omega
          have i4 : ((N : Nat) : Int) ≤ ((c13 : Nat) : Int) := by omega
          go_wp2_with fail
          exact step_done rfl hI (Below.refl _ _) ⟨_, _, rfl, hr13⟩
        · obtain ⟨u0, u1, u2, u3, u4, u5, u6, u12, ⟨g13, c13, u13, ha13, hb13, hr13⟩, u14, ⟨g15, c15, u15, hr15⟩⟩ := hV
          simp only [u6, u15]
          clear u0 u1 u2 u3 u4 u5 u6 u12 u13 u14 u15
          have hcv := hr15.conv k (N - k) c15 (by have := HNT2.out; omega)
          rw [HRR.out] at hcv
          go_wp2_with fail
          exact step_done rfl hI (Below.refl _ _) rfl
        · obtain ⟨u0, u1, u2, u3, u4, u5, u6, u7, ⟨g8, c8, u8, ha8, hb8, hr8⟩, u9, ⟨g10, c10, u10, hr10⟩, u11, u12, ⟨g13, c13, u13, ha13, hb13, hr13⟩, u14, ⟨g15, c15, u15, hr15⟩, u16⟩ := hV
          simp only [u6, u11, u16]
          clear u0 u1 u2 u3 u4 u5 u6 u7 u8 u9 u10 u11 u12 u13 u14 u15 u16
          go_wp2_with fail
          exact step_done rfl hI (Below.refl _ _) rfl
        · obtain ⟨u0, u1, u2, u3, u4, u5, u6, u7, ⟨g8, c8, u8, ha8, hb8, hr8⟩, u9, ⟨g10, c10, u10, hr10⟩, u11, u12, ⟨g13, c13, u13, ha13, hb13, hr13⟩, u14, ⟨g15, c15, u15, hr15⟩, u16, u17⟩ := hV
          simp only [u6, u17]
          clear u0 u1 u2 u3 u4 u5 u6 u7 u8 u9 u10 u11 u12 u13 u14 u15 u16 u17
          go_wp2_with fail
          exact step_done rfl hI (Below.refl _ _) rfl
        · obtain ⟨u0, u1, u2, u3, u4, u5, u6, u7, ⟨g8, c8, u8, ha8, hb8, hr8⟩, u9, ⟨g10, c10, u10, hr10⟩, u11, u12, ⟨g13, c13, u13, ha13, hb13, hr13⟩, u14, ⟨g15, c15, u15, hr15⟩, u16, u17, u18⟩ := hV
          simp only [u18]
          clear u0 u1 u2 u3 u4 u5 u6 u7 u8 u9 u10 u11 u12 u13 u14 u15 u16 u17 u18
          go_wp2_with fail
          exact step_done rfl hI (Below.refl _ _) rfl
      case fin =>
        intro x W hI hV
        simp only [AllV, and_true, List.length_cons, List.length_nil, List.range, List.range.loop] at hV
        obtain ⟨u0, u1, u2, u3, u4, u5, u6, u7, ⟨g8, c8, u8, ha8, hb8, hr8⟩, u9, ⟨g10, c10, u10, hr10⟩, u11, u12, ⟨g13, c13, u13, ha13, hb13, hr13⟩, u14, ⟨g15, c15, u15, hr15⟩, u16, u17, u18, u19⟩ := hV
        simp only [getsD, List.getD_cons_succ, List.getD_cons_zero, List.length_cons, List.length_nil, List.range, List.range.loop, u0, u1, u2, u3, u4, u5, u6, u7, u8, u9, u10, u11, u12, u13, u14, u15, u16, u17, u18, u19, Act.put, List.setIfInBounds_toArray, List.set_cons_succ, List.set_cons_zero]
        clear u0 u1 u2 u3 u4 u5 u6 u7 u8 u9 u10 u11 u12 u13 u14 u15 u16 u17 u18 u19
        clear hr8 hr10 hr13 hr15
        have HF := Lib.hid (hB7.trans (hI.mono hB7.size))
        go_wp2_with fail
        go_ret
        exact ⟨rfl, HF.out⟩
end Go.Proofs.YtndclmjpjcilmaaDoor
