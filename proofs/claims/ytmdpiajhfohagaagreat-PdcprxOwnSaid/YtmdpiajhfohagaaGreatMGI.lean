/- pdcptx.Next: the first packet that is to be repeated; lemmas. pdcptx.Next: errors and repetitions. Printed by gen/xzh.py. pdcptx.Next: new packets. Printed by gen/xzi.py. pdcptx.New; Confirm of a COUNT that is not pending. the examples of the chapter: known of law 45. Printed by gen/xzk.py. the examples of the chapter: known of law 45, the walk. -/
import Derived.Test.YtmdpiajhfohagaaGreatMGH
import Derived.Lib.SlBytesConst
namespace Go.Proofs.YtmdpiajhfohagaaGreat
open Go.RowKit
set_option linter.unusedVariables false
attribute [local go_sem ↓] Go.wp_at_zero Go.wp_at_succ

theorem SL.drop {w : World} {e : TypeId} {sz b o n c : Nat} {xs : List Value} (h : SL w e sz (some ⟨b, o, none⟩) n c xs) (k : Nat) (hk : k ≤ n) : SL w e sz (if c = k then some ⟨b, o, none⟩ else some ⟨b, o + k * sz, none⟩) (n - k) (c - k) (xs.drop (k * sz)) := by
  have hm : k * sz ≤ n * sz := Nat.mul_le_mul_right _ hk
  rcases h.at_ with ⟨h1, _⟩ | ⟨b', o', cur, h1, h2, h3, h4, h5, h6⟩
  · cases h1
  cases h1
  refine ⟨by rw [List.length_drop, h.len, Nat.sub_mul], .inr ?_⟩
  have hcm : k * sz ≤ c * sz := Nat.mul_le_mul_right _ (by omega)
  by_cases hc : c = k
  · rw [if_pos hc]
    have hnk : n - k = 0 := by omega
    have hck : c - k = 0 := by omega
    exact ⟨b, o, cur, rfl, h2, by omega, by omega, by rw [hck]; omega, fun j hj => by rw [hnk] at hj; omega⟩
  · rw [if_neg hc]
    refine ⟨b, o + k * sz, cur, rfl, h2, by omega, by omega, by rw [Nat.sub_mul]; omega, fun j hj => ?_⟩
    rw [Nat.sub_mul] at hj
    rw [Nat.add_assoc, h6 _ (by omega), List.getElem?_drop]
/-- one cell stored -/
theorem SL.setOne {w : World} {e : TypeId} {sz b o n c : Nat} {xs : List Value} (h : SL w e sz (some ⟨b, o, none⟩) n c xs) (q : Nat) (hq : q < n * sz) (v : Value) : SL (w.setCell ⟨b, o + q, none⟩ v) e sz (some ⟨b, o, none⟩) n c (xs.set q v) := by
  rcases h.at_ with ⟨h1, _⟩ | ⟨b', o', cur, h1, h2, h3, h4, h5, h6⟩
  · cases h1
  cases h1
  have hcn : n * sz ≤ c * sz := Nat.mul_le_mul_right _ h3
  refine ⟨by rw [List.length_set, h.len], .inr ⟨b, o, _, rfl, (show Blk w b e cur from h2).set_ (o + q) v, h3, h4, by simpa using h5, fun j hj => ?_⟩⟩
  by_cases hjq : j = q
  · subst hjq
    rw [List.getElem?_set_self (by rw [h.len]; exact hj), Array.getElem?_setIfInBounds_self_of_lt (by omega)]
  · rw [List.getElem?_set_ne (fun e => hjq e.symm), Array.getElem?_setIfInBounds_ne (by omega), h6 j hj]
end Go.Proofs.YtmdpiajhfohagaaGreat
namespace Go.Proofs.YtmdpiajhfohagaaGreat
open Go.RowKit
set_option linter.unusedVariables false
attribute [local go_sem ↓] Go.wp_at_zero Go.wp_at_succ

/-- what Next answers -/
def NxO (W R : Nat → Prop) (w : World) (g : Nat) (r : NX) (e : Ending) (w' : World) : Prop :=
  ∃ A c W' R', e = .returned (.tuple #[.slice A r.n c, .int .u32 r.ct, .int .i64 r.e]) ∧ r.n ≤ c ∧ Row w' w'.heap.size A r.n (fun j => .int .u8 ((r.z j : Nat) : Int)) ∧ TxI w' g r.s W' R' ∧ (∀ k, W' k → W k ∨ w.heap.size ≤ k) ∧ (∀ k, R' k → R k ∨ w.heap.size ≤ k) ∧ KeepF W w w' ∧ (∀ a, A = some a → w.heap.size ≤ a.block ∧ ¬ W' a.block ∧ ¬ R' a.block ∧ ∃ cur t, w'.heap[a.block]? = some (.cells cur t (0, 0)))
end Go.Proofs.YtmdpiajhfohagaaGreat
namespace Go.Proofs.YtmdpiajhfohagaaGreat
open Go.RowKit
set_option linter.unusedVariables false
attribute [local go_sem ↓] Go.wp_at_zero Go.wp_at_succ

theorem TxO.next {W R : Nat → Prop} {w w1 w2 : World} {g : Nat} {s : TS} (h : TxO W R w w1 g s) (hb : Below w1.heap.size w1 w2) : TxO W R w w2 g s := by
  obtain ⟨W', R', h1, h2, h3, h4⟩ := h
  exact ⟨W', R', h1.below hb, h2, h3, h4.more hb⟩

end Go.Proofs.YtmdpiajhfohagaaGreat
namespace Go.Proofs.YtmdpiajhfohagaaGreat
open Go.RowKit
set_option linter.unusedVariables false
attribute [local go_sem ↓] Go.wp_at_zero Go.wp_at_succ

/-- a new transmitter -/
def newS (cf : Cfg) : TS := ⟨cf, 0, 0, [], [], [kArr cf.key], cNew⟩
end Go.Proofs.YtmdpiajhfohagaaGreat
namespace Go.Proofs.YtmdpiajhfohagaaGreat
open Go.RowKit
set_option linter.unusedVariables false
attribute [local go_sem ↓] Go.wp_at_zero Go.wp_at_succ

/-- two transmitters do not write each other's blocks -/
def Sep (W R W2 R2 : Nat → Prop) : Prop := (∀ k, W k → ¬ W2 k ∧ ¬ R2 k) ∧ (∀ k, W2 k → ¬ W k ∧ ¬ R k)
theorem Sep.symm {W R W2 R2 : Nat → Prop} (h : Sep W R W2 R2) : Sep W2 R2 W R := ⟨h.2, h.1⟩
theorem Sep.step {W R W' R' W2 R2 : Nat → Prop} {n : Nat} (h : Sep W R W2 R2) (hW : ∀ k, W' k → W k ∨ n ≤ k) (hR : ∀ k, R' k → R k ∨ n ≤ k) (h2 : ∀ k, W2 k → k < n) (h3 : ∀ k, R2 k → k < n) : Sep W' R' W2 R2 := by
  refine ⟨fun k hk => ?_, fun k hk => ⟨fun hw => ?_, fun hr => ?_⟩⟩
  · rcases hW k hk with hk | hk
    · exact h.1 k hk
    · exact ⟨fun h => by have := h2 k h; omega, fun h => by have := h3 k h; omega⟩
  · rcases hW k hw with hw | hw
    · exact (h.2 k hk).1 hw
    · have := h2 k hk; omega
  · rcases hR k hr with hr | hr
    · exact (h.2 k hk).2 hr
    · have := h2 k hk; omega
theorem TxI.win {w : World} {g : Nat} {s : TS} {W R : Nat → Prop} (h : TxI w g s W R) : ∀ k, W k → k < w.heap.size := by
  obtain ⟨qA, qc, lq, pA, pc, lp, ub, cb, h⟩ := h
  exact h.win
theorem TxI.rin {w : World} {g : Nat} {s : TS} {W R : Nat → Prop} (h : TxI w g s W R) : ∀ k, R k → k < w.heap.size := by
  obtain ⟨qA, qc, lq, pA, pc, lp, ub, cb, h⟩ := h
  exact h.rin
/-- three transmitters of blocks that w0 had not, and blocks N that none of them writes -/
def Tri (w0 w : World) (g1 : Nat) (s1 : TS) (g2 : Nat) (s2 : TS) (g3 : Nat) (s3 : TS) (N : Nat → Prop) : Prop :=
  ∃ W1 R1 W2 R2 W3 R3, TxI w g1 s1 W1 R1 ∧ TxI w g2 s2 W2 R2 ∧ TxI w g3 s3 W3 R3 ∧ Sep W1 R1 W2 R2 ∧ Sep W1 R1 W3 R3 ∧ Sep W2 R2 W3 R3 ∧ (∀ k, N k → k < w.heap.size ∧ ¬ W1 k ∧ ¬ W2 k ∧ ¬ W3 k) ∧ (∀ k, W1 k ∨ W2 k ∨ W3 k → w0.heap.size ≤ k) ∧ Below w0.heap.size w0 w
section
variable {w0 w w' : World} {g1 g2 g3 : Nat} {s1 s2 s3 : TS} {N : Nat → Prop}
theorem Tri.swap (h : Tri w0 w g1 s1 g2 s2 g3 s3 N) : Tri w0 w g1 s1 g3 s3 g2 s2 N := by
  obtain ⟨W1, R1, W2, R2, W3, R3, h1, h2, h3, h12, h13, h23, hN, hB, hb⟩ := h
  refine ⟨W1, R1, W3, R3, W2, R2, h1, h3, h2, h13, h12, h23.symm, fun k hk => ⟨(hN k hk).1, (hN k hk).2.1, (hN k hk).2.2.2, (hN k hk).2.2.1⟩, fun k hk => hB k ?_, hb⟩
  rcases hk with h | h | h
  · exact .inl h
  · exact .inr (.inr h)
  · exact .inr (.inl h)
theorem Tri.low (h : Tri w0 w g1 s1 g2 s2 g3 s3 N) : Below w0.heap.size w0 w := by
  obtain ⟨W1, R1, W2, R2, W3, R3, h1, h2, h3, h12, h13, h23, hN, hB, hb⟩ := h
  exact hb
theorem Tri.below (h : Tri w0 w g1 s1 g2 s2 g3 s3 N) (hb : Below w.heap.size w w') : Tri w0 w' g1 s1 g2 s2 g3 s3 N := by
  obtain ⟨W1, R1, W2, R2, W3, R3, h1, h2, h3, h12, h13, h23, hN, hB, hb0⟩ := h
  exact ⟨W1, R1, W2, R2, W3, R3, h1.below hb, h2.below hb, h3.below hb, h12, h13, h23, fun k hk => ⟨Nat.lt_of_lt_of_le (hN k hk).1 hb.size, (hN k hk).2⟩, hB, hb0.trans (hb.mono hb0.size)⟩
/-- a call of the first one -/
theorem Tri.call (h : Tri w0 w g1 s1 g2 s2 g3 s3 N) : ∃ W R, TxI w g1 s1 W R ∧ (∀ w' s, TxO W R w w' g1 s → Tri w0 w' g1 s g2 s2 g3 s3 N ∧ ∀ k, N k → w'.heap[k]? = w.heap[k]?) ∧
    (∀ w' r e, NxO W R w g1 r e w' → ∃ A c, e = .returned (.tuple #[.slice A r.n c, .int .u32 r.ct, .int .i64 r.e]) ∧ r.n ≤ c ∧ Row w' w'.heap.size A r.n (fun j => .int .u8 ((r.z j : Nat) : Int)) ∧ Tri w0 w' g1 r.s g2 s2 g3 s3 (fun k => r.n ≠ 0 ∧ ∃ a, A = some a ∧ k = a.block)) := by
  obtain ⟨W1, R1, W2, R2, W3, R3, h1, h2, h3, h12, h13, h23, hN, hB, hb⟩ := h
  have hs := hb.size
  have low : ∀ {W' : Nat → Prop}, (∀ k, W' k → W1 k ∨ w.heap.size ≤ k) → ∀ k, W' k ∨ W2 k ∨ W3 k → w0.heap.size ≤ k := fun hW k hk => by
    rcases hk with h | h | h
    · rcases hW k h with h | h
      · exact hB k (.inl h)
      · omega
    · exact hB k (.inr (.inl h))
    · exact hB k (.inr (.inr h))
  refine ⟨W1, R1, h1, fun w' s hO => ?_, fun w' r e hO => ?_⟩
  · obtain ⟨W', R', hI, hW, hR, hK⟩ := hO
    exact ⟨⟨W', R', W2, R2, W3, R3, hI, h2.keepF hK h12.1, h3.keepF hK h13.1, h12.step hW hR h2.win h2.rin, h13.step hW hR h3.win h3.rin, h23, fun k hk => ⟨Nat.lt_of_lt_of_le (hN k hk).1 hK.size, fun hw => by
        rcases hW k hw with hw | hw
        · exact (hN k hk).2.1 hw
        · have := (hN k hk).1; omega, (hN k hk).2.2⟩, low hW, KeepF.below hb hK (fun k hk => hB k (.inl hk)) hs⟩, fun k hk => hK.block k (hN k hk).1 (hN k hk).2.1⟩
  · obtain ⟨A, c, W', R', h1', h2', h3', hI, hW, hR, hK, hA⟩ := hO
    refine ⟨A, c, h1', h2', h3', W', R', W2, R2, W3, R3, hI, h2.keepF hK h12.1, h3.keepF hK h13.1, h12.step hW hR h2.win h2.rin, h13.step hW hR h3.win h3.rin, h23, fun k ⟨hn, a, ha, e⟩ => ?_, low hW, KeepF.below hb hK (fun k hk => hB k (.inl hk)) hs⟩
    subst e
    have := hA a ha
    refine ⟨row_lt h3' (by omega) ha, this.2.1, fun hw => ?_, fun hw => ?_⟩
    · have := h2.win _ hw; omega
    · have := h3.win _ hw; omega
end
def cf5 : Cfg := { Cfg.zero with ds := 5 }
theorem cf0_lit : Cfg.zero.arr = #[.int .i64 0, .int .i64 0, .int .u8 0, .int .u8 0, .int .u8 0, .int .u8 0, .int .u8 0, .int .u8 0, .int .u8 0, .int .u8 0, .int .u8 0, .int .u8 0, .int .u8 0, .int .u8 0, .int .u8 0, .int .u8 0, .int .u8 0, .int .u8 0, .int .u8 0, .int .u8 0, .int .u8 0, .int .u8 0, .int .u8 0, .int .u8 0, .int .u8 0, .int .u8 0, .int .u8 0, .int .u8 0, .int .u8 0, .int .u8 0, .int .u8 0, .int .u8 0, .int .u8 0, .int .u8 0, .bool false, .bool false, .bool false, .int .i64 0, .int .i64 0] := by kernel_rfl
def cS : TS := { newS cf5 with now := 4, next := 1 }
end Go.Proofs.YtmdpiajhfohagaaGreat
namespace Go.Proofs.YtmdpiajhfohagaaGreat
open Go.RowKit
set_option linter.unusedVariables false
attribute [local go_sem ↓] Go.wp_at_zero Go.wp_at_succ

end Go.Proofs.YtmdpiajhfohagaaGreat
