/- The walks of (*wire.writer).text and op. -/
import Derived.Test.YtdbdhpjjndhjiaaDoorWr
set_option linter.unusedSimpArgs false
namespace Go.Proofs.YtdbdhpjjndhjiaaDoor
open Go.RowKit

theorem ownsRow_below {w w' : World} {B e size n : Nat} {v : Value} {xs : List Value} (h : w.ownsRow B e size v n xs) (hb : Below w.heap.size w w') : w'.ownsRow B e size v n xs := by
  refine ⟨h.1, ?_⟩
  rcases h.2 with hn | ⟨g, cap, cur, hv, hB, hg, rest⟩
  · exact .inl hn
  · exact .inr ⟨g, cap, cur, hv, hB, (hb.block g (Array.getElem?_eq_some_iff.1 hg).1).trans hg, rest⟩
theorem strCells_bb (s : Str) : Lib.strCells s = bb s.data.toList := rfl
set_option maxRecDepth 100000 in
set_option maxHeartbeats 2000000 in
theorem wtext_any (D b : Nat) (v : Value) (l : Bs) (s : Str) (w : World) (h : Wr D b v l w) (hD : D ≤ w.heap.size) (hs : s.size ≤ 1000000000) (hl : l.length ≤ 500000000000) :
    Calls Tryd.prog 60 #[.pointer (some ⟨b, 0, none⟩), .string s] w (WrP D b (l ++ textB s) w) := by
  obtain ⟨i0, hi, hz0, hz1, hz2⟩ := info_parts infoU8
  have HP := Lib.hid (put_any D b v l s.size w h hD (by omega) (by omega))
  have hnl := numB_le s.size
  have hzz : s.data.toList.length = s.size := Array.length_toList
  clear h
  go_enter Tryd.func60, Tryd.ntmps60
  go_wp2_with fail
  refine HP.out.mono ?_
  rintro e w1 ⟨rfl, ⟨v1, h1⟩, b1, r1⟩
  obtain ⟨ta, tc, rfl⟩ := h1.form
  have hown := h1.own
  have c0 : w1.cell? ⟨b, 0, none⟩ = some (.slice ta (l ++ numB s.size).length tc) := h1.blk.cell 0
  have hbD := b1.size
  have hll : (l ++ numB s.size).length ≤ 600000000000 := by rw [List.length_append]; omega
  have H1 := Lib.hid h1
  have B1 := Lib.hid b1
  have R1 := Lib.hid r1
  clear h1 b1 r1 HP
  have heq : Hid ((l ++ numB s.size) ++ s.data.toList = l ++ textB s) := by unfold Hid textB; rw [List.append_assoc]
  generalize l ++ numB s.size = l1 at *
  generalize l ++ textB s = L at *
  go_wp2_with (at_builtin; refine Lib.wpList_append_own_string _ rfl _ _ 25 9 rfl D 5 i0 Tryd.underlying25 Tryd.underlying9 hi hz0 hz1 hz2 _ _ _ rfl hown s rfl ?h1 ?h2 ?h3 ?_)
  case h1 => unfold maxLen; omega
  case h2 => omega
  case h3 => omega
  intro v' w2 hown' hgrow _
  rw [strCells_bb, ← bb_app, ← hzz, ← List.length_append] at hown'
  rw [heq.out] at hown'
  obtain ⟨tb, tn, td, rfl⟩ : ∃ tb tn td, v' = .slice tb tn td := by
    rcases hown'.2 with ⟨hv, _⟩ | ⟨g, cap, cur, hv, _⟩
    · exact ⟨none, 0, 0, hv⟩
    · exact ⟨_, _, _, hv⟩
  obtain ⟨p1, p2, p3⟩ := H1.out.put (Below.refl _ _) hown' hgrow
  have q := (H1.out.blk).grown hgrow (row_other hown H1.out.blk (by decide))
  have d0 : w2.cell? ⟨b, 0, none⟩ = some (.slice ta l1.length tc) := q.cell 0
  have f1 : w2.frozen? ⟨b, 0, none⟩ = false := q.frozen 0
  have P1 : Hid (WrP D b L w (.returned (.tuple #[])) (w2.setCell ⟨b, 0, none⟩ (.slice tb tn td))) := ⟨rfl, ⟨_, p1⟩, B1.out.trans p2, R1.out.trans p3⟩
  clear p1 p2 p3 q hown' hgrow hown H1 B1 R1 heq
  generalize WrP D b L w = WP at *
  go_wp2_with fail
  go_end0
  exact P1.out
theorem textB_le (s : Str) : (textB s).length ≤ 2 * s.size + 1 := by
  have h1 := numB_le s.size
  have h2 : s.data.toList.length = s.size := Array.length_toList
  unfold textB; rw [List.length_append]; omega
/-- a part that is written in few bytes -/
def Small' (p : Part) : Prop := p.kind ≤ 1000000 ∧ p.n ≤ 1000000 ∧ p.text.size ≤ 1000000
theorem partB_le {p : Part} (h : Small' p) : (partB p).length ≤ 4000000 := by
  obtain ⟨h1, h2, h3⟩ := h
  have a1 := numB_le p.kind.toNat
  have a2 := numB_le p.n.toNat
  have a3 := textB_le p.text
  unfold partB
  split <;> rw [List.length_append] <;> omega
theorem parts_le (o : Op) (h : ∀ p ∈ o, Small' p) : (o.flatMap partB).length ≤ o.length * 4000000 := by
  induction o with
  | nil => simp
  | cons p o ih =>
    have h1 := partB_le (h p (List.mem_cons_self ..))
    have h2 := ih fun q hq => h q (List.mem_cons_of_mem _ hq)
    rw [List.flatMap_cons, List.length_append, List.length_cons]; omega

set_option maxRecDepth 100000 in
set_option maxHeartbeats 4000000 in
theorem wop_any (D b : Nat) (v : Value) (l : Bs) (o : Op) (a : Option Addr) (n c : Nat) (w : World) (h : Wr D b v l w) (hD : D ≤ w.heap.size) (hr : RdS (· < D) w o a n c) (hf : ∀ p ∈ o, Fine p) (hsm : ∀ p ∈ o, Small' p) (ho : o.length ≤ 10000) (hl : l.length ≤ 1000000000) :
    Calls Tryd.prog 37 #[.pointer (some ⟨b, 0, none⟩), .slice a n c] w (WrP D b (l ++ opB o) w) := by
  have hn := hr.1
  have HP := Lib.hid (put_any D b v l n w h hD (by omega) (by omega))
  have Hcells := Lib.hid (p := 0 < n → ∃ b off, a = some ⟨b, off, none⟩ ∧ b < D ∧ b < w.heap.size ∧ ∀ i (h : i < o.length), I64 o[i].kind ∧ I64 o[i].n ∧ o[i].text.size ≤ strMax ∧
      w.cell? ⟨b, off + i * 3, none⟩ = some (.int .i64 o[i].kind) ∧ w.cell? ⟨b, off + i * 3 + 1, none⟩ = some (.int .i64 o[i].n) ∧ w.cell? ⟨b, off + i * 3 + 2, none⟩ = some (.string o[i].text)) (fun h => hr.part h)
  have Hf := Lib.hid hf
  have Hsm := Lib.hid hsm
  have Hbase := Lib.hid h.base
  have hnc : n ≤ c := hr.2.1
  have hcm : c ≤ 9223372036854775807 := hr.2.2.1
  have hol : n ≤ 10000 := by omega
  have hpl : Hid (∀ k, ((l ++ numB n) ++ (o.take k).flatMap partB).length ≤ 100000000000) := by
    intro k
    have h1 := parts_le (o.take k) (fun p hp => hsm p (List.mem_of_mem_take hp))
    have h2 := numB_le n
    have h3 : (o.take k).length ≤ o.length := by rw [List.length_take]; omega
    rw [List.length_append, List.length_append]
    omega
  have hend : Hid ((l ++ numB n) ++ (o.take n).flatMap partB = l ++ opB o) := by
    unfold Hid opB
    rw [hn, List.take_length, List.append_assoc]
  have Hn := Lib.hid hn
  clear h hr hf hsm hn ho
  generalize l ++ opB o = L at *
  generalize l ++ numB n = l0 at *
  go_enter Tryd.func37, Tryd.ntmps37
  go_wp2_with fail
  refine HP.out.mono ?_
  rintro e w1 ⟨rfl, ⟨v1, h1⟩, b1, r1⟩
  have H1 := Lib.hid h1
  have B1 := Lib.hid b1
  have R1 := Lib.hid r1
  clear h1 b1 r1 HP
  go_wp2_with fail
  go_loopw [12] (fun i wr => ∃ (k : Nat) (vk : Value), k ≤ n ∧ i = .int .i64 k ∧ Wr D b vk (l0 ++ (o.take k).flatMap partB) wr ∧ Below D w wr ∧ Rest b w wr) (fun i _ => n - (intOf i).toNat)
  case atStart => exact ⟨0, v1, by omega, rfl, by simpa using H1.out, B1.out, R1.out⟩
  case round =>
    obtain ⟨k, vk, hk, rfl, hwr, hb, hrr⟩ := hrel
    clear H1 B1 R1
    by_cases hlt : k < n
    · obtain ⟨g, off, rfl, hgD, hgl, hcs⟩ := Hcells.out (by omega)
      have hko : k < o.length := by have := Hn.out; omega
      obtain ⟨hk64, hn64, ht, d0, d1, d2⟩ := hcs k hko
      clear hcs
      have c0 : wr.cell? ⟨g, off + k * 3, none⟩ = some (.int .i64 o[k].kind) := (hb.cell (p := ⟨g, off + k * 3, none⟩) hgD).trans d0
      have c1 : wr.cell? ⟨g, off + k * 3 + 1, none⟩ = some (.int .i64 o[k].n) := (hb.cell (p := ⟨g, off + k * 3 + 1, none⟩) hgD).trans d1
      have c2 : wr.cell? ⟨g, off + k * 3 + 2, none⟩ = some (.string o[k].text) := (hb.cell (p := ⟨g, off + k * 3 + 2, none⟩) hgD).trans d2
      have hfk := Hf.out o[k] (List.getElem_mem hko)
      have hsk := Hsm.out o[k] (List.getElem_mem hko)
      have hnext : Hid ((l0 ++ (o.take k).flatMap partB) ++ partB o[k] = l0 ++ (o.take (k + 1)).flatMap partB) := by
        unfold Hid; rw [List.take_succ_eq_append_getElem hko, List.flatMap_append, List.flatMap_cons, List.flatMap_nil, List.append_nil, List.append_assoc]
      have hlen := hpl.out k
      have hbD := hb.size
      have hbl := hwr.blk.lt
      have Hwr := Lib.hid hwr
      have Hb := Lib.hid hb
      have Hr := Lib.hid hrr
      have hbase := Hbase.out
      clear hwr hb hrr d0 d1 d2
      generalize o[k] = p at *
      generalize l0 ++ (o.take k).flatMap partB = lk at *
      obtain ⟨pk, pn, pt⟩ := p
      simp only at *
      obtain ⟨f1, f2, f3, f4⟩ := hfk
      obtain ⟨s1, s2, s3⟩ := hsk
      simp only at f1 f2 f3 f4 s1 s2 s3
      obtain ⟨kk, rfl⟩ : ∃ m : Nat, pk = (m : Int) := ⟨pk.toNat, by omega⟩
      have hal : Below wr.heap.size wr (wr.alloc (.cells #[.int .i64 (kk : Int), .int .i64 pn, .string pt] 109)) := (Below.refl _ _).alloc (Nat.le_refl _) _
      have Wgo : ∀ W, Below wr.heap.size wr W → Wr D b vk lk W := fun W hW => ⟨Hwr.out.base, Hwr.out.blk.go hW, ownsRow_below Hwr.out.own hW⟩
      have HP1 := Lib.hid (put_any D b vk lk kk _ (Wgo _ hal) (by simp; omega) (by omega) (by omega))
      clear Wgo
      go_wp2_with fail
      refine HP1.out.mono ?_
      rintro e w2 ⟨rfl, ⟨v2, h2⟩, b2, r2⟩
      have bx := r2 wr.heap.size _ _ _ (heap_new_at wr (.cells #[.int .i64 (kk : Int), .int .i64 pn, .string pt] 109) _ rfl) (by decide) (by omega)
      rw [heap_new_at wr _ _ rfl] at bx
      have e0 : w2.cell? ⟨wr.heap.size, 0, none⟩ = some (.int .i64 (kk : Int)) := (show Blk wr.heap.size _ w2 from bx).cell 0
      have e1 : w2.cell? ⟨wr.heap.size, 1, none⟩ = some (.int .i64 pn) := (show Blk wr.heap.size _ w2 from bx).cell 1
      have e2 : w2.cell? ⟨wr.heap.size, 2, none⟩ = some (.string pt) := (show Blk wr.heap.size _ w2 from bx).cell 2
      have H2 := Lib.hid h2
      have B2 := Lib.hid ((Hb.out.alloc (by omega) _).trans b2)
      have R2 : Hid (Rest b w w2) := by
        refine Hr.out.trans (Rest.trans (fun i cs t f h1 _ _ => ?_) r2)
        have := (Array.getElem?_eq_some_iff.1 h1).1
        exact hal.block i this
      have hz2 := b2.size
      clear h2 b2 r2 bx HP1 Hwr Hb Hr hal
      by_cases hk2 : (kk : Int) = 2
      · have hb2 : ((kk : Int) == 2) = true := by simpa using hk2
        have HT := Lib.hid (wtext_any D b v2 (lk ++ numB kk) pt w2 H2.out (by have := B2.out.size; omega) (by omega) (by rw [List.length_append]; have := numB_le kk; omega))
        have hpb : Hid ((lk ++ numB kk) ++ textB pt = l0 ++ (o.take (k + 1)).flatMap partB) := by
          unfold Hid
          rw [← hnext.out]
          unfold partB
          simp only [Int.toNat_natCast]
          rw [if_pos hk2, List.append_assoc]
        clear hk2 hnext
        go_wp2_with fail
        refine HT.out.mono ?_
        rintro e w3 ⟨rfl, ⟨v3, h3⟩, b3, r3⟩
        rw [hpb.out] at h3
        have H3 := Lib.hid h3
        have B3 := Lib.hid (B2.out.trans b3)
        have R3 := Lib.hid (R2.out.trans r3)
        clear h3 b3 r3 HT H2 B2 R2 e0 e1 e2
        go_wp2_with fail
        go_roundw
        case rel => exact ⟨k + 1, v3, by omega, by go_num, H3.out, B3.out, R3.out⟩
        case measure => simp [intOf]; omega
      · have hb2 : ((kk : Int) == 2) = false := by simpa using hk2
        obtain ⟨g1, g2, -⟩ := f4 hk2
        obtain ⟨nn, rfl⟩ : ∃ m : Nat, pn = (m : Int) := ⟨pn.toNat, by omega⟩
        have HT := Lib.hid (put_any D b v2 (lk ++ numB kk) nn w2 H2.out (by have := B2.out.size; omega) (by omega) (by rw [List.length_append]; have := numB_le kk; omega))
        have hpb : Hid ((lk ++ numB kk) ++ numB nn = l0 ++ (o.take (k + 1)).flatMap partB) := by
          unfold Hid
          rw [← hnext.out]
          unfold partB
          simp only [Int.toNat_natCast]
          rw [if_neg hk2, List.append_assoc]
        clear hk2 hnext
        go_wp2_with fail
        refine HT.out.mono ?_
        rintro e w3 ⟨rfl, ⟨v3, h3⟩, b3, r3⟩
        rw [hpb.out] at h3
        have H3 := Lib.hid h3
        have B3 := Lib.hid (B2.out.trans b3)
        have R3 := Lib.hid (R2.out.trans r3)
        clear h3 b3 r3 HT H2 B2 R2 e0 e1 e2
        go_wp2_with fail
        go_roundw
        case rel => exact ⟨k + 1, v3, by omega, by go_num, H3.out, B3.out, R3.out⟩
        case measure => simp [intOf]; omega
    · have hkn : k = n := by omega
      subst hkn
      rw [hend.out] at hwr
      have P1 : Hid (WrP D b L w (.returned (.tuple #[])) wr) := ⟨rfl, ⟨_, hwr⟩, hb, hrr⟩
      clear hwr hb hrr
      generalize WrP D b L w = WP at *
      go_wp2_with fail
      go_end0
      exact P1.out
end Go.Proofs.YtdbdhpjjndhjiaaDoor
