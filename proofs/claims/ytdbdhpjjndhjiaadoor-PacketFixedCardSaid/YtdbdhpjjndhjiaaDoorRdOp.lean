/- The walk of (*wire.reader).op. -/
import Derived.Test.YtdbdhpjjndhjiaaDoorRdText
import Derived.Test.YtdbdhpjjndhjiaaDoorWrOp
import Derived.Test.YtdbdhpjjndhjiaaDoorSubP
set_option linter.unusedSimpArgs false
namespace Go.Proofs.YtdbdhpjjndhjiaaDoor
open Go.RowKit

theorem tk_zero : ∀ (b : Bs) (i n : Nat), (tk i n b).2.2 ≠ 0 → (tk i n b).1 = 0 := by
  intro b
  induction b with
  | nil => intro i n _; rfl
  | cons c b ih =>
    intro i n
    by_cases hb : (0 < i ∧ c.toNat = 0) ∨ (i = 3 ∧ 127 < c.toNat)
    · rw [tk_bad hb]; simp
    · by_cases hc : c.toNat < 128
      · rw [tk_end hb hc]; simp
      · rw [tk_on hb hc]; exact ih _ _
theorem tk_rest : ∀ (b : Bs) (i n : Nat), (tk i n b).2.1.length ≤ b.length := by
  intro b
  induction b with
  | nil => intro i n; simp [tk_nil]
  | cons c b ih =>
    intro i n
    by_cases hb : (0 < i ∧ c.toNat = 0) ∨ (i = 3 ∧ 127 < c.toNat)
    · rw [tk_bad hb]; simp
    · by_cases hc : c.toNat < 128
      · rw [tk_end hb hc]; simp
      · rw [tk_on hb hc]; have := ih (i + 1) (n + (c.toNat % 128) * 2 ^ (7 * i)); simp only [List.length_cons]; omega
theorem take_lt (r : Rd) : r.take.1 < 268435456 := by
  by_cases hf : r.fault = 0
  · obtain ⟨b, f⟩ := r
    simp only at hf
    subst hf
    by_cases h : (tk 0 0 b).2.2 = 0
    · obtain ⟨m, h1, -, h3, -⟩ := tk_inv 3 0 0 b (tk 0 0 b).1 (tk 0 0 b).2.1 rfl (by rw [← h])
      unfold Rd.take
      rw [if_pos rfl]
      simp at h1
      show (tk 0 0 b).1 < _
      rw [h1]; simpa using h3
    · unfold Rd.take
      rw [if_pos rfl]
      show (tk 0 0 b).1 < _
      rw [tk_zero b 0 0 h]; omega
  · rw [fault_take r hf]; omega
theorem take_rest (r : Rd) : r.take.2.rest.length ≤ r.rest.length := by
  by_cases hf : r.fault = 0
  · unfold Rd.take
    rw [if_pos hf]
    exact tk_rest _ _ _
  · rw [fault_take r hf]; exact Nat.le_refl _
theorem text_size (r : Rd) : r.text.1.size ≤ r.rest.length := by
  have h := take_rest r
  unfold Rd.text
  split
  · exact Nat.zero_le _
  · simp only [strOf, ByteArray.size]
    simp
    omega
/-- a part that was read is small -/
def FitR (M : Nat) (p : Part) : Prop := 0 ≤ p.kind ∧ p.kind < 268435456 ∧ 0 ≤ p.n ∧ p.n < 268435456 ∧ p.text.size ≤ M
theorem part_fit (r : Rd) : FitR r.rest.length r.part.1 := by
  have h1 := take_lt r
  have h2 := take_lt r.take.2
  have h3 := text_size r.take.2
  have h4 := take_rest r
  unfold Rd.part
  split
  · exact ⟨by simp, by simp, by simp, by simp, by simp only; omega⟩
  · exact ⟨by simp, by simp only; omega, by simp, by simp only; omega, Nat.zero_le _⟩
theorem part_rest (r : Rd) (hf : r.fault = 0) (h : r.part.2.fault = 0) : r.part.2.rest.length + 1 ≤ r.rest.length := by
  obtain ⟨b, f⟩ := r
  simp only at hf
  subst hf
  obtain ⟨-, h2⟩ := part_inv (b := b) (p := (Rd.part ⟨b, 0⟩).1) (r := (Rd.part ⟨b, 0⟩).2) rfl h
  have h3 : 1 ≤ (partB (Rd.part ⟨b, 0⟩).1).length := by
    have := numB_len (Rd.part ⟨b, 0⟩).1.kind.toNat
    unfold partB; rw [List.length_append]; omega
  have h4 := congrArg List.length h2
  rw [List.length_append] at h4
  simp only
  omega
theorem ownsRow_touch {w w' : World} {B e size n : Nat} {v : Value} {xs : List Value} {S : Nat → Prop} (h : w.ownsRow B e size v n xs) (ht : Touch S w w') (hs : ∀ k, v.ownBlock = some k → ¬ S k) : w'.ownsRow B e size v n xs := by
  refine ⟨h.1, ?_⟩
  rcases h.2 with hn | ⟨g, cap, cur, hv, hB, hg, rest⟩
  · exact .inl hn
  · exact .inr ⟨g, cap, cur, hv, hB, (ht.block g (Array.getElem?_eq_some_iff.1 hg).1 (hs g (by rw [hv]; rfl))).trans hg, rest⟩
theorem rd_flat {w : World} {A : Nat → Prop} {base : Nat} {l : Op} {v : Value} (hown : w.ownsRow base 109 3 v l.length (flat l)) (hA : ∀ k, v.ownBlock = some k → A k) (hfit : ∀ p ∈ l, I64 p.kind ∧ I64 p.n ∧ p.text.size ≤ strMax) :
    ∃ a c, v = .slice a l.length c ∧ RdS A w l a l.length c := by
  obtain ⟨a, n, c, hv, hr⟩ := RdS.of_row (α := Part) hown hA (fun i x hx => ⟨partCells x, ⟨rfl, hfit x (List.mem_of_getElem? hx)⟩, fun j u hu => by
    obtain ⟨h1, h2, h3⟩ := flat_at l i x hx
    show (flat l)[i * 3 + j]? = some u
    match j, hu with
    | 0, hu => simp [partCells] at hu; subst hu; exact h1
    | 1, hu => simp [partCells] at hu; subst hu; exact h2
    | 2, hu => simp [partCells] at hu; subst hu; exact h3
    | j + 3, hu => simp [partCells] at hu⟩)
  have hn := hr.1
  subst hn
  exact ⟨a, c, hv, hr⟩
/-- what stands while parts are read -/
structure Rop (b : Nat) (w : World) (M : Nat) (O : Op) (Q : Rd) (k : Nat) (acc : Op) (q : Rd) (v : Value) (wr : World) : Prop where
  own : wr.ownsRow w.heap.size 109 3 v acc.length (flat acc)
  rd : Rdr b q wr
  only : Only b w wr
  O : acc ++ (Rd.parts k q).1 = O
  Q : (Rd.parts k q).2 = Q
  fit : ∀ p ∈ acc, FitR M p
  len : acc.length ≤ M + 1
  rest : q.fault = 0 → acc.length + q.rest.length ≤ M
  blt : b < w.heap.size
/-- what a call of op leaves -/
def RopP (b : Nat) (r : Rd) (w : World) (x : Ending) (w' : World) : Prop :=
  ∃ (a : Option Addr) (c : Nat), x = .returned (.slice a r.op.1.length c) ∧ RdS (fun k => w.heap.size ≤ k ∧ k < w'.heap.size) w' r.op.1 a r.op.1.length c ∧ Rdr b r.op.2 w' ∧ Only b w w' ∧ ∀ p ∈ r.op.1, FitR r.rest.length p
theorem Rop.fin {b : Nat} {w wr : World} {M : Nat} {O : Op} {Q : Rd} {k : Nat} {acc : Op} {q : Rd} {v : Value} (h : Rop b w M O Q k acc q v wr) (hM : M ≤ 1000000000) (hk : (Rd.parts k q) = ([], q)) :
    ∃ a c, v = .slice a O.length c ∧ RdS (fun k => w.heap.size ≤ k ∧ k < wr.heap.size) wr O a O.length c ∧ Rdr b Q wr ∧ Only b w wr ∧ ∀ p ∈ O, FitR M p := by
  have h1 := h.O
  have h2 := h.Q
  rw [hk] at h1 h2
  simp only [List.append_nil] at h1 h2
  subst h1 h2
  obtain ⟨a, c, hv, hr⟩ := rd_flat (A := fun k => w.heap.size ≤ k ∧ k < wr.heap.size) h.own (fun k hk => h.own.lt k hk) (fun p hp => by
    obtain ⟨f1, f2, f3, f4, f5⟩ := h.fit p hp
    exact ⟨⟨by omega, by omega⟩, ⟨by omega, by omega⟩, by unfold strMax; omega⟩)
  exact ⟨a, c, hv, hr, h.rd, h.only, h.fit⟩
theorem Rop.step {b : Nat} {w wr w4 : World} {M : Nat} {O : Op} {Q : Rd} {k : Nat} {acc : Op} {l : Bs} {v v' : Value} {p : Part} {q2 : Rd} (h : Rop b w M O Q (k + 1) acc ⟨l, 0⟩ v wr) (hp : Rd.part ⟨l, 0⟩ = (p, q2))
    (hown : w4.ownsRow w.heap.size 109 3 v' (acc.length + 1) (flat acc ++ partCells p)) (hrd : Rdr b q2 w4) (ho : Only b w w4) : Rop b w M O Q k (acc ++ [p]) q2 v' w4 := by
  have hO := h.O
  have hQ := h.Q
  unfold Rd.parts at hO hQ
  rw [if_pos rfl, hp] at hO hQ
  have hfit := part_fit ⟨l, 0⟩
  have hrest := part_rest ⟨l, 0⟩ rfl
  rw [hp] at hfit hrest
  have hl := h.rest rfl
  simp only at hfit hrest hl hO hQ
  have hlen : (acc ++ [p]).length = acc.length + 1 := by simp
  refine ⟨?_, hrd, ho, ?_, hQ, ?_, by omega, ?_, h.blt⟩
  · rw [hlen, flat_append, flat_one]; exact hown
  · rw [← hO]; simp
  · intro x hx
    rcases List.mem_append.1 hx with hx | hx
    · exact h.fit x hx
    · simp at hx; subst hx
      obtain ⟨f1, f2, f3, f4, f5⟩ := hfit
      exact ⟨f1, f2, f3, f4, by omega⟩
  · intro hq; have := hrest hq; omega
theorem Rdr.below {b : Nat} {q : Rd} {W W' : World} (h : Rdr b q W) (hb : Below (b + 1) W W') : Rdr b q W' := by
  obtain ⟨a, c, h0, h1, h2⟩ := h.ex
  exact ⟨a, c, h0, (hb.block b (by omega)).trans h1, h2.mono fun k hk => ⟨hk, hb.block k (by have hk' : k < b := hk; omega)⟩⟩
/-- a part was read into a box of its own, and is appended -/
theorem rop_end {b : Nat} {w wr W1 W2 w4 : World} {M : Nat} {O : Op} {Q : Rd} {k : Nat} {acc : Op} {l : Bs} {v v' : Value} {p : Part} {q2 : Rd} {cs cs2 : Obj} {i : Nat} {x : Value} (h : Rop b w M O Q (k + 1) acc ⟨l, 0⟩ v wr) (hp : Rd.part ⟨l, 0⟩ = (p, q2))
    (o1 : Only b wr W1) (o2 : Only b (W1.alloc cs) W2) (h2 : Rdr b q2 W2)
    (hown : w4.ownsRow w.heap.size 109 3 v' (acc.length + 1) (flat acc ++ partCells p)) (hgrow : ((W2.setCell ⟨W1.heap.size, i, none⟩ x).alloc cs2).grownBy w4 v.ownBlock) : Rop b w M O Q k (acc ++ [p]) q2 v' w4 := by
  have hz0 := h.only.size
  have hz1 := o1.size
  have hz2 := o2.size
  have hbl := h.blt
  simp at hz2
  have hrow := fun g hg => (h.own.lt g hg)
  refine h.step hp hown (h2.below ?_) ?_
  · exact ((((Below.refl _ _).setCell (p := ⟨W1.heap.size, i, none⟩) (by show b + 1 ≤ W1.heap.size; omega) x).alloc (by simp; omega) cs2).grown hgrow (by simp; omega) (fun g hg => by have := hrow g hg; omega))
  · refine ((((h.only.trans o1).alloc cs).trans o2).setCell (p := ⟨W1.heap.size, i, none⟩) (.inr (by show w.heap.size ≤ W1.heap.size; omega)) x).alloc cs2 |>.grown hgrow (fun g hg => .inr (hrow g hg).1)
theorem rop_own {b : Nat} {w wr W1 W2 : World} {M : Nat} {O : Op} {Q : Rd} {k : Nat} {acc : Op} {q : Rd} {v : Value} {cs cs2 : Obj} {i : Nat} {x : Value} (h : Rop b w M O Q k acc q v wr) (o1 : Only b wr W1) (o2 : Only b (W1.alloc cs) W2) :
    ((W2.setCell ⟨W1.heap.size, i, none⟩ x).alloc cs2).ownsRow w.heap.size 109 3 v acc.length (flat acc) := by
  have hz1 := o1.size
  have hbl := h.blt
  have hrow := fun g hg => (h.own.lt g hg)
  have a1 := ownsRow_touch h.own o1 (fun g hg hk => by have := hrow g hg; omega)
  have a2 := ownsRow_touch (a1.alloc cs) o2 (fun g hg hk => by have := hrow g hg; omega)
  have a3 := ownsRow_touch a2 (touch1 (g := W1.heap.size) (i := i) x) (fun g hg hk => by have := hrow g hg; omega)
  exact a3.alloc cs2
set_option maxRecDepth 100000 in
set_option maxHeartbeats 6000000 in
theorem rop_any (b : Nat) (r : Rd) (w : World) (h : Rdr b r w) (hM : r.rest.length ≤ 1000000000) :
    Calls Tryd.prog 42 #[.pointer (some ⟨b, 0, none⟩)] w (RopP b r w) := by
  obtain ⟨i0, hi, hz0, hz1, hz2⟩ := info_parts infoP
  have HT := Lib.hid (take_any b r w h)
  have hbl := h.lt
  have htr := take_rest r
  have Hfin : Hid (∀ v acc q k wr, Rop b w r.rest.length r.op.1 r.op.2 k acc q v wr → Rd.parts k q = ([], q) → ∃ a c, v = .slice a r.op.1.length c ∧ RopP b r w (.returned (.slice a r.op.1.length c)) wr) := by
    intro v acc q k wr hh hk
    obtain ⟨a, c, hv, hr, h1, h2, h3⟩ := hh.fin hM hk
    exact ⟨a, c, hv, a, c, rfl, hr, h1, h2, h3⟩
  have Hst : Hid (∀ W, Rdr b r.take.2 W → Only b w W → Rop b w r.rest.length r.op.1 r.op.2 r.take.1 [] r.take.2 (.slice none 0 0) W) := by
    intro W h1 h2
    exact ⟨World.ownsRow_nil _ _ _ _, h1, h2, by simp [Rd.op], rfl, by simp, by simp, fun _ => by simpa using htr, hbl⟩
  unfold TakeP at HT
  generalize RopP b r w = TP at *
  generalize r.rest.length = M at *
  generalize r.op.1 = O at *
  generalize r.op.2 = Q at *
  have htl := take_lt r
  generalize r.take.1 = k0 at *
  generalize r.take.2 = q0 at *
  generalize O.length = lo at *
  clear h htr
  go_enter Tryd.func42, Tryd.ntmps42
  go_wp2_with fail
  refine HT.out.mono ?_
  rintro e w1 ⟨rfl, h1, o1⟩
  have H1 := Lib.hid (Hst.out w1 h1 o1)
  clear h1 o1 HT Hst
  go_wp2_with fail
  go_loopw [3, 4] (fun v i wr => ∃ (k : Nat) (acc : Op) (q : Rd), i = .int .i64 k ∧ k ≤ k0 ∧ Rop b w M O Q k acc q v wr) (fun _ i _ => (intOf i).toNat)
  case atStart => exact ⟨k0, [], q0, rfl, Nat.le_refl _, H1.out⟩
  case round =>
    obtain ⟨k, acc, q, rfl, hk, hR⟩ := hrel
    clear H1
    obtain ⟨ra, rc', -, x1, x2⟩ := hR.rd.ex
    have c1 : wr.cell? ⟨b, 1, none⟩ = some (.int .i64 q.fault) := x1.cell 1
    have HR := Lib.hid hR
    clear x1 x2 hR
    by_cases hk0 : k = 0
    · subst hk0
      obtain ⟨a, c, rfl, G⟩ := Hfin.out _ _ _ _ _ HR.out rfl
      have G := Lib.hid G
      clear HR Hfin
      go_wp2_with fail
      exact G.out
    · have hkp : 0 < k := by omega
      by_cases hf : q.fault = 0
      · obtain ⟨k, rfl⟩ : ∃ j, k = j + 1 := ⟨k - 1, by omega⟩
        obtain ⟨l, f⟩ := q
        simp only at hf
        subst hf
        have HT := Lib.hid (take_any b ⟨l, 0⟩ wr HR.out.rd)
        unfold TakeP at HT
        have hfit := part_fit ⟨l, 0⟩
        have hrest := part_rest ⟨l, 0⟩ rfl
        have hpd : Hid (Rd.part ⟨l, 0⟩ = if (Rd.take ⟨l, 0⟩).1 = 2 then (⟨2, 0, (Rd.take ⟨l, 0⟩).2.text.1⟩, (Rd.take ⟨l, 0⟩).2.text.2) else (⟨(Rd.take ⟨l, 0⟩).1, (Rd.take ⟨l, 0⟩).2.take.1, Rd.text.noT⟩, (Rd.take ⟨l, 0⟩).2.take.2)) := rfl
        have tl := take_lt ⟨l, 0⟩
        have tl2 := take_lt (Rd.take ⟨l, 0⟩).2
        generalize (Rd.take ⟨l, 0⟩).1 = n1 at *
        generalize (Rd.take ⟨l, 0⟩).2 = q1 at *
        clear hfit hrest
        go_wp2_with fail
        refine HT.out.mono ?_
        rintro e W1 ⟨rfl, h1, o1⟩
        have H1 := Lib.hid h1
        have O1 := Lib.hid o1
        have hbw : b < W1.heap.size := h1.lt
        clear h1 o1 HT
        by_cases hn1 : n1 = 2
        · have HX := Lib.hid (rtext_any b q1 (W1.alloc (.cells #[.int .i64 (n1 : Int), .int .i64 0, .string ⟨#[]⟩] 109)) (H1.out.go ((Below.refl _ _).alloc (Nat.le_refl _) _)))
          unfold RTextP at HX
          have hp2 := hpd.out
          rw [if_pos hn1] at hp2
          have Hp2 := Lib.hid hp2
          have hb2 : ((n1 : Int) == 2) = true := by simp; omega
          have Hn1 := Lib.hid hn1
          clear hp2 hpd hn1
          generalize q1.text.1 = st at *
          generalize q1.text.2 = q2 at *
          go_wp2_with fail
          refine HX.out.mono ?_
          rintro e W2 ⟨rfl, h2, o2⟩
          have hzW := o2.size
          simp at hzW
          have bx : Blk W1.heap.size (.cells #[.int .i64 (n1 : Int), .int .i64 0, .string ⟨#[]⟩] 109 (0, 0)) W2 := (Blk.new W1 _).touch o2 (by omega)
          have e0 : W2.cell? ⟨W1.heap.size, 0, none⟩ = some (.int .i64 (n1 : Int)) := bx.cell 0
          have e1 : W2.cell? ⟨W1.heap.size, 1, none⟩ = some (.int .i64 0) := bx.cell 1
          have e2 : W2.cell? ⟨W1.heap.size, 2, none⟩ = some (.string ⟨#[]⟩) := bx.cell 2
          have f2 := bx.frozen
          have hown := fun (x : Value) (cs2 : Obj) => rop_own (i := 2) (x := x) (cs2 := cs2) HR.out O1.out o2
          have H2 := Lib.hid h2
          have O2 := Lib.hid o2
          clear h2 o2 bx HX
          go_wp2_with (at_builtin; refine wpList_append_own _ rfl _ _ 31 rfl w.heap.size 109 i0 _ 3 32 Tryd.underlying31 hi hz0 hz1 hz2 rfl (by decide) _ _ _ rfl (hown _ _) ⟨W2.heap.size, 0, none⟩ 1 1 [.int .i64 (n1 : Int), .int .i64 0, .string st] (by first | rfl | simp) rfl ?c1 ?c2 ?c3 ?c4 ?c5 ?_)
          case c1 => exact news_at (heap_new_at _ _ _ (by simp))
          case c2 => simp [Value.oneCell']
          case c3 => unfold maxLen; have := HR.out.len; omega
          case c4 => have := HR.out.len; omega
          case c5 => have := HR.out.only.size; have := O1.out.size; simp; omega
          intro v' w4 hown' hgrow _
          have hstep := Lib.hid (rop_end HR.out Hp2.out O1.out O2.out H2.out (by have e := Hn1.out; rw [e] at hown'; exact hown') hgrow)
          clear hown' hgrow hown HR O1 O2 H1 H2 Hp2 e0 e1 e2 f2
          go_wp2_with fail
          go_roundw
          case rel => exact ⟨k, _, _, by go_num, by omega, hstep.out⟩
          case measure => simp [intOf]
        · have HX := Lib.hid (take_any b q1 (W1.alloc (.cells #[.int .i64 (n1 : Int), .int .i64 0, .string ⟨#[]⟩] 109)) (H1.out.go ((Below.refl _ _).alloc (Nat.le_refl _) _)))
          unfold TakeP at HX
          have hp2 := hpd.out
          rw [if_neg hn1] at hp2
          have Hp2 := Lib.hid hp2
          have hb2 : ((n1 : Int) == 2) = false := by simp; omega
          have Hn1 := Lib.hid hn1
          clear hp2 hpd hn1
          generalize q1.take.1 = n2 at *
          generalize q1.take.2 = q2 at *
          go_wp2_with fail
          refine HX.out.mono ?_
          rintro e W2 ⟨rfl, h2, o2⟩
          have hzW := o2.size
          simp at hzW
          have bx : Blk W1.heap.size (.cells #[.int .i64 (n1 : Int), .int .i64 0, .string ⟨#[]⟩] 109 (0, 0)) W2 := (Blk.new W1 _).touch o2 (by omega)
          have e0 : W2.cell? ⟨W1.heap.size, 0, none⟩ = some (.int .i64 (n1 : Int)) := bx.cell 0
          have e1 : W2.cell? ⟨W1.heap.size, 1, none⟩ = some (.int .i64 0) := bx.cell 1
          have e2 : W2.cell? ⟨W1.heap.size, 2, none⟩ = some (.string ⟨#[]⟩) := bx.cell 2
          have f2 := bx.frozen
          have hown := fun (x : Value) (cs2 : Obj) => rop_own (i := 1) (x := x) (cs2 := cs2) HR.out O1.out o2
          have H2 := Lib.hid h2
          have O2 := Lib.hid o2
          clear h2 o2 bx HX
          go_wp2_with (at_builtin; refine wpList_append_own _ rfl _ _ 31 rfl w.heap.size 109 i0 _ 3 32 Tryd.underlying31 hi hz0 hz1 hz2 rfl (by decide) _ _ _ rfl (hown _ _) ⟨W2.heap.size, 0, none⟩ 1 1 [.int .i64 (n1 : Int), .int .i64 (n2 : Int), .string ⟨#[]⟩] (by first | rfl | simp) rfl ?c1 ?c2 ?c3 ?c4 ?c5 ?_)
          case c1 => exact news_at (heap_new_at _ _ _ (by simp))
          case c2 => simp [Value.oneCell']
          case c3 => unfold maxLen; have := HR.out.len; omega
          case c4 => have := HR.out.len; omega
          case c5 => have := HR.out.only.size; have := O1.out.size; simp; omega
          intro v' w4 hown' hgrow _
          have hstep := Lib.hid (rop_end HR.out Hp2.out O1.out O2.out H2.out (by exact hown') hgrow)
          clear hown' hgrow hown HR O1 O2 H1 H2 Hp2 e0 e1 e2 f2
          go_wp2_with fail
          go_roundw
          case rel => exact ⟨k, _, _, by go_num, by omega, hstep.out⟩
          case measure => simp [intOf]
      · have hf0 : (q.fault == 0) = false := by simpa using hf
        obtain ⟨a, c, rfl, G⟩ := Hfin.out _ _ _ _ _ HR.out (by
          obtain ⟨j, rfl⟩ : ∃ j, k = j + 1 := ⟨k - 1, by omega⟩
          unfold Rd.parts; rw [if_neg hf])
        have G := Lib.hid G
        clear HR Hfin hf
        generalize q.fault = f at *
        go_wp2_with fail
        exact G.out
end Go.Proofs.YtdbdhpjjndhjiaaDoor
