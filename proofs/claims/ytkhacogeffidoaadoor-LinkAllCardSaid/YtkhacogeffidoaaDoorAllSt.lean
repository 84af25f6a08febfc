/- The cable's steps, within a round of LinkAll. -/
import Derived.Test.YtkhacogeffidoaaDoorAllLaw
import Derived.Test.YtkhacogeffidoaaDoorShakeSt
set_option linter.unusedVariables false
set_option linter.unusedSimpArgs false
namespace Go.Proofs.YtkhacogeffidoaaDoor
open Go.RowKit

def CabA (base g : Nat) (P : Cb → Prop) (m : Nat) (w : World) : Prop := ∃ c vs, CabM base g c vs w ∧ P c ∧ c.f0.length ≤ m ∧ c.f1.length ≤ m
theorem CabA.go {base g m : Nat} {P : Cb → Prop} {w w' : World} (h : CabA base g P m w) (hb : Below w.heap.size w w') : CabA base g P m w' := by
  obtain ⟨c, vs, h1, h2⟩ := h
  exact ⟨c, vs, h1.go hb, h2⟩
theorem CabA.imp {base g m m' : Nat} {P P' : Cb → Prop} {w : World} (h : CabA base g P m w) (hP : ∀ c, P c → P' c) (hm : m ≤ m') : CabA base g P' m' w := by
  obtain ⟨c, vs, h1, h2, h3, h4⟩ := h
  exact ⟨c, vs, h1, hP c h2, Nat.le_trans h3 hm, Nat.le_trans h4 hm⟩
theorem all_come0 (base g R n0 r0 s0 n1 r1 s1 m : Nat) (w : World) (hG : ∀ W, Below base w W → Good W) (hp : CabA base g (Rnd R n0 r0 (s0 + 1) n1 (r1 + 1) s1) m w) (ht : r0 ≤ s0 + 1) (hm : m ≤ 100000) :
    Calls Tryd.prog 28 #[.pointer (some ⟨g, 0, none⟩), .int .i64 0, .int .i64 0, .bool false] w fun e w' => e = .returned (.bool true) ∧ CabA base g (Rnd R n0 r0 s0 n1 r1 s1) (m + 16) w' ∧ Below base w w' := by
  obtain ⟨c, vs, m0, hR, h0, h1⟩ := hp
  have ho := hR.once
  have hgw := m0.lt
  have hgb := m0.gb
  obtain ⟨q1, q2, q3, q4, q5, q6, q7, q8, q9, q10⟩ := ho.ok (by omega)
  have hR' := hR.come ht
  have hbb : ∀ {W : World}, Below w.heap.size w W → Below base w W := fun hb => (Touch.of_belowC hb).toBelow (by omega) (fun z hz => by omega)
  cases hf : c.f0 with
  | nil =>
    refine (cab_nil0 base g c vs 0 false w m0 hf).mono ?_
    rintro e w' ⟨rfl, hb⟩
    have hcc : c.come = c := by unfold Cb.come; rw [hf]
    rw [hcc] at hR'
    exact ⟨rfl, CabA.go ⟨c, vs, m0, hR', by omega, by omega⟩ hb, hbb hb⟩
  | cons p L =>
    have hl : 0 < c.f0.length := by rw [hf]; simp
    have hcc : c.come = { c with e0 := c.e0.hearL p, f0 := L, f1 := c.f1 ++ c.e0.hearP p, t0 := if c.e0.told p = true then c.t0 ++ [c.e0.hearF p] else c.t0 } := by unfold Cb.come; rw [hf]
    rw [hcc] at hR'
    have hk : pk 0 c.f0.length = ((0 : Nat) : Int) := by unfold pk; simp
    have hpm : p ∈ c.f0 := by rw [hf]; exact List.mem_cons_self
    have hLc : (if false = true then c.f0 else c.f0.take 0 ++ c.f0.drop (0 + 1)) = L := by rw [hf]; simp
    obtain ⟨a1, a2, a3, a4⟩ := ho.come (by omega) hpm L (fun q hq => by rw [hf]; exact List.mem_cons_of_mem _ hq)
    obtain ⟨b1, -⟩ := a3.ok (by omega)
    obtain ⟨d1, d2⟩ := lk_kinds b1
    refine (cab_come0 base g c vs 0 false 0 p w hG m0 (by unfold I64; omega) hl hk (by rw [hf]; rfl) a1 q3 a2.2.2 (by omega) d1 d2 (by omega) (by omega) (by omega) (by omega)).mono ?_
    rintro e w' ⟨rfl, ⟨vs', m'⟩, hb'⟩
    rw [hLc] at m'
    refine ⟨rfl, ⟨_, vs', m', hR', ?_, ?_⟩, hb'⟩
    · show L.length ≤ _
      rw [hf, List.length_cons] at h0
      omega
    · show (c.f1 ++ _).length ≤ _
      rw [List.length_append]; omega
theorem all_come1 (base g R n0 r0 s0 n1 r1 s1 m : Nat) (w : World) (hG : ∀ W, Below base w W → Good W) (hp : CabA base g (Rnd R n0 (r0 + 1) s0 n1 r1 (s1 + 1)) m w) (ht : r1 ≤ s1 + 1) (hm : m ≤ 100000) :
    Calls Tryd.prog 28 #[.pointer (some ⟨g, 0, none⟩), .int .i64 1, .int .i64 0, .bool false] w fun e w' => e = .returned (.bool true) ∧ CabA base g (Rnd R n0 r0 s0 n1 r1 s1) (m + 16) w' ∧ Below base w w' := by
  obtain ⟨c, vs, m0, hR, h0, h1⟩ := hp
  have ho := hR.once
  have hgw := m0.lt
  have hgb := m0.gb
  obtain ⟨q1, q2, q3, q4, q5, q6, q7, q8, q9, q10⟩ := ho.ok (by omega)
  have hR' := (hR.turn.come ht).turn
  have hbb : ∀ {W : World}, Below w.heap.size w W → Below base w W := fun hb => (Touch.of_belowC hb).toBelow (by omega) (fun z hz => by omega)
  cases hf : c.f1 with
  | nil =>
    refine (cab_nil1 base g c vs 0 false w m0 hf).mono ?_
    rintro e w' ⟨rfl, hb⟩
    have hcc : c.turn.come = c.turn := by unfold Cb.come; rw [show c.turn.f0 = [] from hf]
    rw [hcc] at hR'
    exact ⟨rfl, CabA.go ⟨c, vs, m0, hR', by omega, by omega⟩ hb, hbb hb⟩
  | cons p L =>
    have hl : 0 < c.f1.length := by rw [hf]; simp
    have hcc : c.turn.come = { c.turn with e0 := c.e1.hearL p, f0 := L, f1 := c.f0 ++ c.e1.hearP p, t0 := if c.e1.told p = true then c.t1 ++ [c.e1.hearF p] else c.t1 } := by unfold Cb.come; rw [show c.turn.f0 = p :: L from hf]; rfl
    rw [hcc] at hR'
    have hk : pk 0 c.f1.length = ((0 : Nat) : Int) := by unfold pk; simp
    have hpm : p ∈ c.turn.f0 := by show p ∈ c.f1; rw [hf]; exact List.mem_cons_self
    have hLc : (if false = true then c.f1 else c.f1.take 0 ++ c.f1.drop (0 + 1)) = L := by rw [hf]; simp
    obtain ⟨a1, a2, a3, a4⟩ := ho.turn.come (by omega) hpm L (fun q hq => by show q ∈ c.f1; rw [hf]; exact List.mem_cons_of_mem _ hq)
    obtain ⟨b1, -⟩ := a3.ok (by omega)
    obtain ⟨d1, d2⟩ := lk_kinds b1
    refine (cab_come1 base g c vs 0 false 0 p w hG m0 (by unfold I64; omega) hl hk (by rw [hf]; rfl) a1 q4 a2.2.2 (by omega) d1 d2 (Nat.le_trans a4 (by omega)) (by omega) (by omega) (by omega)).mono ?_
    rintro e w' ⟨rfl, ⟨vs', m'⟩, hb'⟩
    rw [hLc] at m'
    refine ⟨rfl, ⟨_, vs', m', hR', ?_, ?_⟩, hb'⟩
    · show (c.f0 ++ c.e1.hearP p).length ≤ _
      have : (c.e1.hearP p).length ≤ 9 := a4
      rw [List.length_append]; omega
    · show L.length ≤ _
      rw [hf, List.length_cons] at h1
      omega
theorem all_tick (base g r : Nat) (w : World) (hG : ∀ W, Below base w W → Good W) (hp : CabA base g (fun c => Rounds r c ∧ c.f0 = [] ∧ c.f1 = []) 0 w) :
    Calls Tryd.prog 27 #[.pointer (some ⟨g, 0, none⟩)] w fun e w' => e = .returned (.bool true) ∧ (∃ n0 n1, CabA base g (Rnd (r + 1) n0 60 60 n1 60 60) 8 w') ∧ Below base w w' := by
  obtain ⟨c, vs, m0, ⟨hR, hf0, hf1⟩, h0, h1⟩ := hp
  have ho := hR.once
  obtain ⟨q1, q2, q3, q4, q5, q6, q7, q8, q9, q10⟩ := ho.ok (by omega)
  obtain ⟨a1, a2, a3⟩ := ho.ticks (by omega)
  obtain ⟨b1, b2, b3⟩ := a1.turn.ticks (by omega)
  have b2' : 0 < c.e1.tickP.length := b2
  have b3' : c.e1.tickP.length ≤ 8 := b3
  obtain ⟨n0, n1, g0⟩ := hR.begin
  refine (cab_tick base g c vs w hG m0 q1 q2 q3 q4 ⟨a2, by omega⟩ ⟨b2', by omega⟩ (by omega) (by omega)).mono ?_
  rintro e w' ⟨rfl, ⟨vs', m'⟩, hb'⟩
  rw [hf0, hf1, List.nil_append, List.nil_append] at m'
  exact ⟨rfl, ⟨n0, n1, _, vs', m', g0, b3', a3⟩, hb'⟩
theorem Rounds.clear {r : Nat} {c : Cb} (h : Rounds r c) : Rounds r { c with f0 := [], f1 := [] } := by
  obtain ⟨hE, N0, A0, H0, N1, A1, H1, k, h1, h2⟩ := h
  exact ⟨hE, N0, A0, H0, N1, A1, H1, ⟨k.d0.on (fun q hq => by cases hq) (fun q hq => by cases hq), k.d1.on (fun q hq => by cases hq) (fun q hq => by cases hq), k.p0, k.p1, (fun q hq => by cases hq), (fun q hq => by cases hq), k.g0, k.g1⟩, h1, h2⟩
/-- what was on the way is lost: both rows are let go -/
theorem all_clear {base g r m : Nat} {w : World} (h : CabA base g (Rounds r) m w) : CabA base g (fun c => Rounds r c ∧ c.f0 = [] ∧ c.f1 = []) 0 ((w.setCell ⟨g, 10, none⟩ (.slice none 0 0)).setCell ⟨g, 11, none⟩ (.slice none 0 0)) := by
  obtain ⟨c, vs, hM, hR, -⟩ := h
  have m1 : CabG base g { c with f0 := [] } vs (fun q => if q = 0 then Value.slice none 0 0 else vs q) w := hM.grow0 ⟨rfl, rfl, rfl, Nat.le_refl _, fun _ _ _ => rfl⟩ OwnO.nil (fun z hz => by cases hz)
  have ht := touch1 (w := w) (g := g) (i := 10) (.slice none 0 0)
  have m2 : CabM base g { c with f0 := [] } (fun q => if q = 0 then Value.slice none 0 0 else vs q) (w.setCell ⟨g, 10, none⟩ (.slice none 0 0)) := m1.put ht (fun _ _ _ _ _ _ _ _ b => b.set 10 _)
  have m3 : CabG base g { c with f0 := [], f1 := [] } (fun q => if q = 0 then Value.slice none 0 0 else vs q) (fun q => if q = 1 then Value.slice none 0 0 else if q = 0 then Value.slice none 0 0 else vs q) (w.setCell ⟨g, 10, none⟩ (.slice none 0 0)) := m2.grow1 ⟨rfl, rfl, rfl, Nat.le_refl _, fun _ _ _ => rfl⟩ OwnO.nil (fun z hz => by cases hz)
  have ht2 := touch1 (w := w.setCell ⟨g, 10, none⟩ (.slice none 0 0)) (g := g) (i := 11) (.slice none 0 0)
  exact ⟨_, _, m3.put ht2 (fun _ _ _ _ _ _ _ _ b => b.set 11 _), ⟨hR.clear, rfl, rfl⟩, Nat.le_refl _, Nat.le_refl _⟩
end Go.Proofs.YtkhacogeffidoaaDoor
