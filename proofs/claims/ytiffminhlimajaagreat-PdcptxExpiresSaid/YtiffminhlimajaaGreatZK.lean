/- the examples of the chapter: known of law 45. Printed by gen/xzk.py. -/
import Derived.Test.YtiffminhlimajaaGreatZJ
namespace Go.Proofs.YtiffminhlimajaaGreat
open Go.RowKit
set_option linter.unusedVariables false
attribute [local go_sem ↓] Go.wp_at_zero Go.wp_at_succ

theorem nxo_txo {W R : Nat → Prop} {w w' : World} {g : Nat} {r : NX} {e : Ending} (h : NxO W R w g r e w') : ∃ A c, e = .returned (.tuple #[.slice A r.n c, .int .u32 r.ct, .int .i64 r.e]) ∧ TxO W R w w' g r.s := by
  obtain ⟨A, c, W', R', h1, h2, h3, h4, h5, h6, h7, h8⟩ := h
  exact ⟨A, c, h1, W', R', h4, h5, h6, h7⟩
/-- two transmitters do not write each other's blocks -/
def Sep (W R W2 R2 : Nat → Prop) : Prop := (∀ k, W k → ¬ W2 k ∧ ¬ R2 k) ∧ (∀ k, W2 k → ¬ W k ∧ ¬ R k)
theorem Sep.symm {W R W2 R2 : Nat → Prop} (h : Sep W R W2 R2) : Sep W2 R2 W R := ⟨h.2, h.1⟩
theorem Sep.step {W R W' R' W2 R2 : Nat → Prop} {n : Nat} (h : Sep W R W2 R2) (hW : ∀ k, W' k → W k ∨ n ≤ k) (hR : ∀ k, R' k → R k ∨ n ≤ k) (h2 : ∀ k, W2 k → k < n) (h3 : ∀ k, R2 k → k < n) : Sep W' R' W2 R2 := by
  refine ⟨fun k hk => ?_, fun k hk => ⟨fun hw => ?_, fun hr => ?_⟩⟩
  · rcases hW k hk with hk | hk
    · exact h.1 k hk
    · exact ⟨fun h => by have := h2 k h; omega, fun h => by have := h3 k h; omega⟩
  · rcases hW k hw with hw | hw
    · exact (h.2 k hk).1 hw
    · have := h2 k hk; omega
  · rcases hR k hr with hr | hr
    · exact (h.2 k hk).2 hr
    · have := h2 k hk; omega
theorem TxI.win {w : World} {g : Nat} {s : TS} {W R : Nat → Prop} (h : TxI w g s W R) : ∀ k, W k → k < w.heap.size := by
  obtain ⟨qA, qc, lq, pA, pc, lp, ub, cb, h⟩ := h
  exact h.win
theorem TxI.rin {w : World} {g : Nat} {s : TS} {W R : Nat → Prop} (h : TxI w g s W R) : ∀ k, R k → k < w.heap.size := by
  obtain ⟨qA, qc, lq, pA, pc, lp, ub, cb, h⟩ := h
  exact h.rin
/-- three transmitters of blocks that w0 had not, and blocks N that none of them writes -/
def Tri (w0 w : World) (g1 : Nat) (s1 : TS) (g2 : Nat) (s2 : TS) (g3 : Nat) (s3 : TS) (N : Nat → Prop) : Prop :=
  ∃ W1 R1 W2 R2 W3 R3, TxI w g1 s1 W1 R1 ∧ TxI w g2 s2 W2 R2 ∧ TxI w g3 s3 W3 R3 ∧ Sep W1 R1 W2 R2 ∧ Sep W1 R1 W3 R3 ∧ Sep W2 R2 W3 R3 ∧ (∀ k, N k → k < w.heap.size ∧ ¬ W1 k ∧ ¬ W2 k ∧ ¬ W3 k) ∧ (∀ k, W1 k ∨ W2 k ∨ W3 k → w0.heap.size ≤ k) ∧ Below w0.heap.size w0 w
section
variable {w0 w w' : World} {g1 g2 g3 : Nat} {s1 s2 s3 : TS} {N : Nat → Prop}
theorem Tri.rot (h : Tri w0 w g1 s1 g2 s2 g3 s3 N) : Tri w0 w g2 s2 g3 s3 g1 s1 N := by
  obtain ⟨W1, R1, W2, R2, W3, R3, h1, h2, h3, h12, h13, h23, hN, hB, hb⟩ := h
  refine ⟨W2, R2, W3, R3, W1, R1, h2, h3, h1, h23, h12.symm, h13.symm, fun k hk => ⟨(hN k hk).1, (hN k hk).2.2.1, (hN k hk).2.2.2, (hN k hk).2.1⟩, fun k hk => hB k ?_, hb⟩
  rcases hk with h | h | h
  · exact .inr (.inl h)
  · exact .inr (.inr h)
  · exact .inl h
theorem Tri.swap (h : Tri w0 w g1 s1 g2 s2 g3 s3 N) : Tri w0 w g1 s1 g3 s3 g2 s2 N := by
  obtain ⟨W1, R1, W2, R2, W3, R3, h1, h2, h3, h12, h13, h23, hN, hB, hb⟩ := h
  refine ⟨W1, R1, W3, R3, W2, R2, h1, h3, h2, h13, h12, h23.symm, fun k hk => ⟨(hN k hk).1, (hN k hk).2.1, (hN k hk).2.2.2, (hN k hk).2.2.1⟩, fun k hk => hB k ?_, hb⟩
  rcases hk with h | h | h
  · exact .inl h
  · exact .inr (.inr h)
  · exact .inr (.inl h)
theorem Tri.low (h : Tri w0 w g1 s1 g2 s2 g3 s3 N) : Below w0.heap.size w0 w := by
  obtain ⟨W1, R1, W2, R2, W3, R3, h1, h2, h3, h12, h13, h23, hN, hB, hb⟩ := h
  exact hb
theorem Tri.below (h : Tri w0 w g1 s1 g2 s2 g3 s3 N) (hb : Below w.heap.size w w') : Tri w0 w' g1 s1 g2 s2 g3 s3 N := by
  obtain ⟨W1, R1, W2, R2, W3, R3, h1, h2, h3, h12, h13, h23, hN, hB, hb0⟩ := h
  exact ⟨W1, R1, W2, R2, W3, R3, h1.below hb, h2.below hb, h3.below hb, h12, h13, h23, fun k hk => ⟨Nat.lt_of_lt_of_le (hN k hk).1 hb.size, (hN k hk).2⟩, hB, hb0.trans (hb.mono hb0.size)⟩
/-- three new ones -/
theorem tri_new {w1 w2 : World} (h1 : TxNewO w0 w1 g1 s1) (h2 : TxNewO w1 w2 g2 s2) (h3 : TxNewO w2 w g3 s3) : Tri w0 w g1 s1 g2 s2 g3 s3 (fun _ => False) := by
  obtain ⟨W1, R1, i1, a1, b1, c1⟩ := h1
  obtain ⟨W2, R2, i2, a2, b2, c2⟩ := h2
  obtain ⟨W3, R3, i3, a3, b3, c3⟩ := h3
  have s1 := c1.size
  have s2 := c2.size
  have s3 := c3.size
  have j1 := i1.win
  have j1' := i1.rin
  have j2 := i2.win
  have j2' := i2.rin
  refine ⟨W1, R1, W2, R2, W3, R3, (i1.below c2).below c3, i2.below c3, i3, ⟨fun k hk => ⟨fun h => ?_, fun h => ?_⟩, fun k hk => ⟨fun h => ?_, fun h => ?_⟩⟩, ⟨fun k hk => ⟨fun h => ?_, fun h => ?_⟩, fun k hk => ⟨fun h => ?_, fun h => ?_⟩⟩, ⟨fun k hk => ⟨fun h => ?_, fun h => ?_⟩, fun k hk => ⟨fun h => ?_, fun h => ?_⟩⟩, fun k hk => hk.elim, fun k hk => ?_, c1.trans ((c2.trans (c3.mono s2)).mono s1)⟩
  · have := j1 k hk; have := a2 k h; omega
  · have := j1 k hk; have := b2 k h; omega
  · have := j1 k h; have := a2 k hk; omega
  · have := j1' k h; have := a2 k hk; omega
  · have := j1 k hk; have := a3 k h; omega
  · have := j1 k hk; have := b3 k h; omega
  · have := j1 k h; have := a3 k hk; omega
  · have := j1' k h; have := a3 k hk; omega
  · have := j2 k hk; have := a3 k h; omega
  · have := j2 k hk; have := b3 k h; omega
  · have := j2 k h; have := a3 k hk; omega
  · have := j2' k h; have := a3 k hk; omega
  · rcases hk with h | h | h
    · exact a1 k h
    · have := a2 k h; omega
    · have := a3 k h; omega
/-- a call of the first one -/
theorem Tri.call (h : Tri w0 w g1 s1 g2 s2 g3 s3 N) : ∃ W R, TxI w g1 s1 W R ∧ (∀ w' s, TxO W R w w' g1 s → Tri w0 w' g1 s g2 s2 g3 s3 N ∧ ∀ k, N k → w'.heap[k]? = w.heap[k]?) ∧
    (∀ w' r e, NxO W R w g1 r e w' → ∃ A c, e = .returned (.tuple #[.slice A r.n c, .int .u32 r.ct, .int .i64 r.e]) ∧ r.n ≤ c ∧ Row w' w'.heap.size A r.n (fun j => .int .u8 ((r.z j : Nat) : Int)) ∧ Tri w0 w' g1 r.s g2 s2 g3 s3 (fun k => r.n ≠ 0 ∧ ∃ a, A = some a ∧ k = a.block)) := by
  obtain ⟨W1, R1, W2, R2, W3, R3, h1, h2, h3, h12, h13, h23, hN, hB, hb⟩ := h
  have hs := hb.size
  have low : ∀ {W' : Nat → Prop}, (∀ k, W' k → W1 k ∨ w.heap.size ≤ k) → ∀ k, W' k ∨ W2 k ∨ W3 k → w0.heap.size ≤ k := fun hW k hk => by
    rcases hk with h | h | h
    · rcases hW k h with h | h
      · exact hB k (.inl h)
      · omega
    · exact hB k (.inr (.inl h))
    · exact hB k (.inr (.inr h))
  refine ⟨W1, R1, h1, fun w' s hO => ?_, fun w' r e hO => ?_⟩
  · obtain ⟨W', R', hI, hW, hR, hK⟩ := hO
    exact ⟨⟨W', R', W2, R2, W3, R3, hI, h2.keepF hK h12.1, h3.keepF hK h13.1, h12.step hW hR h2.win h2.rin, h13.step hW hR h3.win h3.rin, h23, fun k hk => ⟨Nat.lt_of_lt_of_le (hN k hk).1 hK.size, fun hw => by
        rcases hW k hw with hw | hw
        · exact (hN k hk).2.1 hw
        · have := (hN k hk).1; omega, (hN k hk).2.2⟩, low hW, KeepF.below hb hK (fun k hk => hB k (.inl hk)) hs⟩, fun k hk => hK.block k (hN k hk).1 (hN k hk).2.1⟩
  · obtain ⟨A, c, W', R', h1', h2', h3', hI, hW, hR, hK, hA⟩ := hO
    refine ⟨A, c, h1', h2', h3', W', R', W2, R2, W3, R3, hI, h2.keepF hK h12.1, h3.keepF hK h13.1, h12.step hW hR h2.win h2.rin, h13.step hW hR h3.win h3.rin, h23, fun k ⟨hn, a, ha, e⟩ => ?_, low hW, KeepF.below hb hK (fun k hk => hB k (.inl hk)) hs⟩
    subst e
    have := hA a ha
    refine ⟨row_lt h3' (by omega) ha, this.2.1, fun hw => ?_, fun hw => ?_⟩
    · have := h2.win _ hw; omega
    · have := h3.win _ hw; omega
end
/-- "ab" -/
def abz : Nat → Int := fun j => if j = 0 then 97 else 98
def qS (cf : Cfg) : TS := { newS cf with Q := [⟨2, abz, 0⟩] }
theorem qS_fine {cf : Cfg} (hok : cf.Ok) (hv : cf.Valid) : (qS cf).Fine := ⟨hok, hv, fun q hq => by
  have : q = ⟨2, abz, 0⟩ := by simpa [qS] using hq
  rw [this]
  exact ⟨Int.le_refl _, Int.le_refl _⟩⟩
theorem sub_eq (cf : Cfg) : (newS cf).submit 0 2 abz = (0, qS cf) := by
  unfold TS.submit
  rw [if_neg (by decide), if_neg (by decide), if_neg (by decide)]
  rfl
theorem subAB (cf : Cfg) (hok : cf.Ok) (hv : cf.Valid) (hcm : cf.cm = false) (g : Nat) (W R : Nat → Prop) (V : World) (h : TxI V g (newS cf) W R) (fr : Nat × Nat) :
    Calls Tryz.prog 22 #[.pointer (some ⟨g, 0, none⟩), .int .i64 0, .slice (some ⟨V.heap.size, 0, none⟩) 2 2] (V.alloc (.cells #[.int .u8 97, .int .u8 98] 5 fr)) fun e w' => e = .returned (.int .i64 0) ∧ TxO W R V w' g (qS cf) := by
  have hb : Below V.heap.size V (V.alloc (.cells #[.int .u8 97, .int .u8 98] 5 fr)) := (Below.refl _ _).alloc (Nat.le_refl _) _
  refine (tsubmit_ok g (newS cf) W R _ (h.below hb) (newS_fine hok hv) hcm (Nat.zero_le _) 0 (by decide) (by decide) (some ⟨V.heap.size, 0, none⟩) 2 2 abz ⟨fun _ => ⟨_, _, rfl, by simp, fun j hj => ?_⟩, fun j hj => ?_, fun a ha _ hw => ?_⟩ (by decide)).mono ?_
  · rw [Nat.zero_add, World.cell?_alloc_mark]
    rcases (by omega : j = 0 ∨ j = 1) with rfl | rfl <;> rfl
  · unfold abz; split <;> decide
  · cases ha
    have := h.win _ hw
    exact absurd this (Nat.lt_irrefl _)
  · rintro e w' ⟨he, hO⟩
    rw [sub_eq] at he hO
    exact ⟨he, TxO.comp (fun _ h => .inl h) (fun _ h => .inl h) (KeepF.of_below hb) hO⟩
def cf5 : Cfg := { Cfg.zero with ds := 5 }
theorem cf0_lit : Cfg.zero.arr = #[.int .i64 0, .int .i64 0, .int .u8 0, .int .u8 0, .int .u8 0, .int .u8 0, .int .u8 0, .int .u8 0, .int .u8 0, .int .u8 0, .int .u8 0, .int .u8 0, .int .u8 0, .int .u8 0, .int .u8 0, .int .u8 0, .int .u8 0, .int .u8 0, .int .u8 0, .int .u8 0, .int .u8 0, .int .u8 0, .int .u8 0, .int .u8 0, .int .u8 0, .int .u8 0, .int .u8 0, .int .u8 0, .int .u8 0, .int .u8 0, .int .u8 0, .int .u8 0, .int .u8 0, .int .u8 0, .bool false, .bool false, .bool false, .int .i64 0, .int .i64 0] := by kernel_rfl
theorem cf5_lit : cf5.arr = #[.int .i64 0, .int .i64 0, .int .u8 0, .int .u8 0, .int .u8 0, .int .u8 0, .int .u8 0, .int .u8 0, .int .u8 0, .int .u8 0, .int .u8 0, .int .u8 0, .int .u8 0, .int .u8 0, .int .u8 0, .int .u8 0, .int .u8 0, .int .u8 0, .int .u8 0, .int .u8 0, .int .u8 0, .int .u8 0, .int .u8 0, .int .u8 0, .int .u8 0, .int .u8 0, .int .u8 0, .int .u8 0, .int .u8 0, .int .u8 0, .int .u8 0, .int .u8 0, .int .u8 0, .int .u8 0, .bool false, .bool false, .bool false, .int .i64 5, .int .i64 0] := by kernel_rfl
theorem cf0_ok : Cfg.zero.Ok := ⟨fun _ _ => ⟨Int.le_refl 0, by show (0 : Int) < 256; decide⟩, fun _ _ => ⟨Int.le_refl 0, by show (0 : Int) < 256; decide⟩⟩
theorem cf5_ok : cf5.Ok := ⟨fun _ _ => ⟨Int.le_refl 0, by show (0 : Int) < 256; decide⟩, fun _ _ => ⟨Int.le_refl 0, by show (0 : Int) < 256; decide⟩⟩
theorem cf0_valid : Cfg.zero.Valid := by unfold Cfg.zero Cfg.Valid; decide
theorem cf5_valid : cf5.Valid := by unfold cf5 Cfg.zero Cfg.Valid; decide
/-- the states behind the calls of Next -/
def tS : TS := { newS Cfg.zero with next := 1 }
theorem tS_fine : tS.Fine := ⟨cf0_ok, cf0_valid, fun q hq => by cases hq⟩
theorem send_t1 : (qS Cfg.zero).send 0 = ⟨4, pduZ Cfg.zero 0 2 (nf abz), 0, 0, tS⟩ := by
  unfold TS.send
  rw [if_neg (by decide)]
  rfl
theorem send_t2 : tS.send 0 = ⟨0, zB, 0, 10, tS⟩ := by
  unfold TS.send
  rw [if_neg (by decide)]
  rfl
def cS : TS := { newS cf5 with now := 4, next := 1 }
def dS : TS := { newS cf5 with now := 5 }
theorem send_c : (qS cf5).send 4 = ⟨4, pduZ cf5 0 2 (nf abz), 0, 0, cS⟩ := by
  unfold TS.send
  rw [if_neg (by decide)]
  rfl
theorem send_d : (qS cf5).send 5 = ⟨0, zB, 0, 10, dS⟩ := by
  unfold TS.send
  rw [if_neg (by decide)]
  rfl
end Go.Proofs.YtiffminhlimajaaGreat
