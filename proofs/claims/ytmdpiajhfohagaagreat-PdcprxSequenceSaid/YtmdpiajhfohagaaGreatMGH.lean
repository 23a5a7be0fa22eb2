/- pdcptx: what the calls compute, in plain Lean; elements of a slice cleared, elements stored. pdcptx.tick: what has expired is deleted from the queue (slices.DeleteFunc). pdcptx.tick: slices.DeleteFunc. pdcptx.tick. Printed by gen/xzd.py. pdcptx.Submit. Printed by gen/xze.py. pdcptx.build without compression and integrity. Printed by gen/xzf.py. -/
import Derived.Test.YtmdpiajhfohagaaGreatMGE
import Derived.Test.YtmdpiajhfohagaaGreatMGB
import Derived.Test.YtmdpiajhfohagaaGreatMGG
namespace Go.Proofs.YtmdpiajhfohagaaGreat
open Go.RowKit
set_option linter.unusedVariables false

/-- bytes as natural numbers -/
def nf (f : Nat → Int) : Nat → Nat := fun j => (f j).toNat
theorem nf_cast {f : Nat → Int} {n : Nat} (h : ∀ j, j < n → 0 ≤ f j ∧ f j < 256) {j : Nat} (hj : j < n) : ((nf f j : Nat) : Int) = f j := Int.toNat_of_nonneg (h j hj).1
theorem nf_lt {f : Nat → Int} {n : Nat} (h : ∀ j, j < n → 0 ≤ f j ∧ f j < 256) {j : Nat} (hj : j < n) : nf f j < 256 := by
  have := h j hj
  unfold nf
  omega
/-- the header of a COUNT -/
def hdB (ct : Nat) : Nat → Nat := fun j => if j = 0 then 128 + ct / 256 % 16 else ct % 256
theorem hdB_lt (ct j : Nat) : hdB ct j < 256 := by unfold hdB; split <;> omega
/-- byte j of a number of 32 bits -/
def byte4 (v j : Nat) : Nat := v / 2 ^ (24 - 8 * j) % 256
theorem byte4_lt (v j : Nat) : byte4 v j < 256 := Nat.mod_lt _ (by decide)
/-- what is enciphered: the packet and the code -/
def plainN (cf : Cfg) (n : Nat) : Nat := if cf.ig = true then n + 4 else n
def plainZ (cf : Cfg) (ct n : Nat) (z : Nat → Nat) : Nat → Nat := catF z n (byte4 (codeF (nf cf.code) ct cf.b.toNat cf.d.toNat (catF (hdB ct) 2 z) (2 + n)))
theorem plainZ_lt {cf : Cfg} {ct n : Nat} {z : Nat → Nat} (hz : ∀ j, j < n → z j < 256) (j : Nat) : plainZ cf ct n z j < 256 := by
  unfold plainZ catF
  split
  · exact hz _ (by assumption)
  · exact byte4_lt _ _
/-- the PDU -/
def pduN (cf : Cfg) (n : Nat) : Nat := 2 + plainN cf n
def pduZ (cf : Cfg) (ct n : Nat) (z : Nat → Nat) : Nat → Nat := catF (hdB ct) 2 (cryF (nf cf.key) ct cf.b.toNat cf.d.toNat (plainZ cf ct n z))
theorem pduZ_lt {cf : Cfg} (hk : B16 (nf cf.key)) {ct n : Nat} {z : Nat → Nat} (hz : ∀ j, j < n → z j < 256) (j : Nat) : pduZ cf ct n z j < 256 := by
  unfold pduZ catF
  split
  · exact hdB_lt _ _
  · exact cryF_lt hk _ _ _ (plainZ_lt hz _)
/-- the state behind a call -/
def TS.gone (s : TS) (n : Int) (q : QV) : Bool := decide (0 < s.C.ds) && decide (s.C.ds ≤ n - q.at_)
def TS.tick (s : TS) (t : Int) : TS := { s with now := max s.now t, Q := s.Q.filter (fun q => !s.gone (max s.now t) q) }
/-- what holds of a state besides -/
structure TS.Fine (s : TS) : Prop where
  ok : s.C.Ok
  val : s.C.Valid
  at_ : ∀ q, q ∈ s.Q → 0 ≤ q.at_ ∧ q.at_ ≤ s.now
theorem TS.Fine.tick {s : TS} (h : s.Fine) (t : Int) : (s.tick t).Fine :=
  ⟨h.ok, h.val, fun q hq => by
    have := h.at_ q (List.mem_filter.1 hq).1
    show 0 ≤ q.at_ ∧ q.at_ ≤ max s.now t
    omega⟩
/-- what Next answers -/
structure NX where
  n : Nat
  z : Nat → Nat
  ct : Int
  e : Int
  s : TS
section
variable {P : Program}
end
end Go.Proofs.YtmdpiajhfohagaaGreat
namespace Go.Proofs.YtmdpiajhfohagaaGreat
open Go.RowKit
set_option linter.unusedVariables false
attribute [local go_sem ↓] Go.wp_at_zero Go.wp_at_succ

/-- a list in which what is to be deleted is overwritten: j elements looked at, i kept -/
structure DL {α : Type} (l : List α) (p : α → Bool) (j i : Nat) (L : List α) : Prop where
  len : L.length = l.length
  ij : i ≤ j
  jl : j ≤ l.length
  pre : L.take i = (l.take j).filter (fun x => !p x)
  rest : ∀ k, j ≤ k → L[k]? = l[k]?
theorem DL.start {α : Type} {l : List α} {p : α → Bool} {i : Nat} {x : α} (hx : l[i]? = some x) (hp : p x = true) (hno : ∀ k, k < i → ∀ y, l[k]? = some y → p y = false) : DL l p (i + 1) i l := by
  have hil : i < l.length := (List.getElem?_eq_some_iff.1 hx).1
  have hxe : l[i] = x := (List.getElem?_eq_some_iff.1 hx).2
  refine ⟨rfl, by omega, hil, ?_, fun _ _ => rfl⟩
  rw [List.take_succ_eq_append_getElem hil, List.filter_append, hxe]
  have : (l.take i).filter (fun x => !p x) = l.take i := List.filter_eq_self.2 fun y hy => by
    obtain ⟨k, hk, rfl⟩ := List.mem_iff_getElem.1 hy
    have hk2 : k < i := by simp at hk; omega
    rw [List.getElem_take]
    simp [hno k hk2 l[k] (List.getElem?_eq_getElem (by omega))]
  rw [this]
  simp [hp]
theorem DL.keep {α : Type} {l L : List α} {p : α → Bool} {j i : Nat} {x : α} (h : DL l p j i L) (hx : l[j]? = some x) (hp : p x = false) : DL l p (j + 1) (i + 1) (L.set i x) := by
  have hjl : j < l.length := (List.getElem?_eq_some_iff.1 hx).1
  have hxe : l[j] = x := (List.getElem?_eq_some_iff.1 hx).2
  have hij := h.ij
  have hlen := h.len
  refine ⟨by simp [h.len], by omega, by omega, ?_, fun k hk => ?_⟩
  · rw [List.take_succ_eq_append_getElem hjl, List.filter_append, hxe, ← h.pre, List.take_succ_eq_append_getElem (by simp; omega)]
    simp [hp, List.take_set_of_le]
  · rw [List.getElem?_set_ne (by omega)]
    exact h.rest k (by omega)
theorem DL.drop {α : Type} {l L : List α} {p : α → Bool} {j i : Nat} {x : α} (h : DL l p j i L) (hx : l[j]? = some x) (hp : p x = true) : DL l p (j + 1) i L := by
  have hjl : j < l.length := (List.getElem?_eq_some_iff.1 hx).1
  have hxe : l[j] = x := (List.getElem?_eq_some_iff.1 hx).2
  have hij := h.ij
  refine ⟨h.len, by omega, by omega, ?_, fun k hk => h.rest k (by omega)⟩
  rw [List.take_succ_eq_append_getElem hjl, List.filter_append, hxe, ← h.pre]
  simp [hp]
theorem DL.done {α : Type} {l L : List α} {p : α → Bool} {i : Nat} (h : DL l p l.length i L) : L.take i = l.filter (fun x => !p x) := by
  have := h.pre
  rwa [List.take_length] at this
end Go.Proofs.YtmdpiajhfohagaaGreat
namespace Go.Proofs.YtmdpiajhfohagaaGreat
open Go.RowKit
set_option linter.unusedVariables false
attribute [local go_sem ↓] Go.wp_at_zero Go.wp_at_succ

end Go.Proofs.YtmdpiajhfohagaaGreat
namespace Go.Proofs.YtmdpiajhfohagaaGreat
open Go.RowKit
set_option linter.unusedVariables false
attribute [local go_sem ↓] Go.wp_at_zero Go.wp_at_succ

end Go.Proofs.YtmdpiajhfohagaaGreat
namespace Go.Proofs.YtmdpiajhfohagaaGreat
open Go.RowKit
set_option linter.unusedVariables false
attribute [local go_sem ↓] Go.wp_at_zero Go.wp_at_succ

theorem TxO.comp {W R W1 R1 : Nat → Prop} {w w1 w2 : World} {g : Nat} {s : TS} (hW : ∀ k, W1 k → W k ∨ w.heap.size ≤ k) (hR : ∀ k, R1 k → R k ∨ w.heap.size ≤ k) (hK : KeepF W w w1) (h : TxO W1 R1 w1 w2 g s) : TxO W R w w2 g s := by
  obtain ⟨W2, R2, h1, h2, h3, h4⟩ := h
  have hs := hK.size
  refine ⟨W2, R2, h1, fun k hk => ?_, fun k hk => ?_, hK.trans h4 (fun b hb h => ?_)⟩
  · rcases h2 k hk with h | h
    · exact hW k h
    · exact .inr (by omega)
  · rcases h3 k hk with h | h
    · exact hR k h
    · exact .inr (by omega)
  · rcases hW b h with h | h
    · exact h
    · omega
/-- the packet that is handed over lies outside the transmitter -/
structure ArgB (w : World) (W : Nat → Prop) (A : Option Addr) (n : Nat) (z : Nat → Int) : Prop where
  row : Row w w.heap.size A n (fun j => .int .u8 (z j))
  byte : ∀ j, j < n → 0 ≤ z j ∧ z j < 256
  out : ∀ a, A = some a → n ≠ 0 → ¬ W a.block
theorem ArgB.keep {w w1 : World} {W W1 : Nat → Prop} {A : Option Addr} {n : Nat} {z : Nat → Int} (h : ArgB w W A n z) (hk : KeepF W w w1) (hW : ∀ k, W1 k → W k ∨ w.heap.size ≤ k) : ArgB w1 W1 A n z :=
  ⟨(hk.row h.row (Nat.le_refl _) h.out).more hk.size, h.byte, fun a e hn hw => by
    obtain ⟨b, off, e2, hb, _⟩ := h.row (by omega)
    rw [e2] at e
    cases e
    rcases hW _ hw with h1 | h1
    · exact h.out _ e2 hn h1
    · have : b < w.heap.size := hb
      have : w.heap.size ≤ b := h1
      omega⟩

end Go.Proofs.YtmdpiajhfohagaaGreat
namespace Go.Proofs.YtmdpiajhfohagaaGreat
open Go.RowKit
set_option linter.unusedVariables false
attribute [local go_sem ↓] Go.wp_at_zero Go.wp_at_succ

theorem Cfg.Ok.keyN {C : Cfg} (hok : C.Ok) : B16 (nf C.key) := fun j hj => nf_lt hok.key hj
theorem pdu_plain {cf : Cfg} {ct n : Nat} {z : Nat → Nat} (h : cf.ig = false) {j : Nat} (hj : j < n) : cryF (nf cf.key) ct cf.b.toNat cf.d.toNat (plainZ cf ct n z) j = cryF (nf cf.key) ct cf.b.toNat cf.d.toNat z j := by
  unfold cryF plainZ catF
  rw [if_pos hj]
theorem sl_row {w : World} {A : Option Addr} {n c : Nat} {xs : List Value} {v : Nat → Value} (h : SL w 5 1 A n c xs) (hx : ∀ j, j < n → xs[j]? = some (v j)) : Row w w.heap.size A n v := fun hn => by
  obtain ⟨b, o, hA, hb⟩ := h.some_ hn
  exact ⟨b, o, hA, hb, fun j hj => (h.cell hA (by omega)).trans (hx j hj)⟩
end Go.Proofs.YtmdpiajhfohagaaGreat
