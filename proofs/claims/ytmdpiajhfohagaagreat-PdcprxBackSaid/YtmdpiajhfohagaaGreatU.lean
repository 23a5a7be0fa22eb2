/- Words and lemmas that the walks of this seat share: slices, bytes, bits, frames; slices.Clone of bytes. Printed by gen/xu.py. -/
import Derived.Test.YtmdpiajhfohagaaGreatHN
import Derived.Test.YtmdpiajhfohagaaGreatApp
import Derived.Test.YtmdpiajhfohagaaGreatStr
import Derived.RangeFuncNested
import Derived.RangeFuncBound
import Derived.RangeFuncCalls
import Derived.RangeFuncLeaves
import Derived.RangeFuncBox
import Derived.Shelf.Abstract
import Derived.Shelf.RegionOpen
import Derived.WalkKit
import Derived.OwnWalkIn
import Derived.TacticsInMore
import Derived.LoopNIn
import Derived.LoopIn
import Derived.Laws.BitsAllLaws
import Derived.WalkSpells
import Derived.Deep.QuietTactic
import Derived.BigQuiet
import Derived.Deep.RegionHeld3
namespace Go.Proofs.YtmdpiajhfohagaaGreat
open Go.RowKit

theorem Tryz.infoInt : (Tryz.prog.info? 3).map (fun i => (i.zero, i.size, i.bytes)) = some (some (.int .i64 0), 1, 8) := by kernel_rfl
theorem Tryz.infoByte : (Tryz.prog.info? 5).map (fun i => (i.zero, i.size, i.bytes)) = some (some (.int .u8 0), 1, 1) := by kernel_rfl
theorem make_bytes (n : Nat) (hn : n ≤ 1000000) (w : World) : (Instr.makeSlice 41 (.int .i64 (n : Int)) (.int .i64 (n : Int))).run Tryz.prog w = .ok (.slice (some ⟨w.heap.size, 0, none⟩) n n) (w.alloc (.cells (madeCells #[.int .u8 0] n) 5)) := by
  obtain ⟨i, hi, hz, hs, hb⟩ := info_parts Tryz.infoByte
  have h := run_make (P := Tryz.prog) w 41 5 i (.int .u8 0) Tryz.underlying41 hi hz .i64 .i64 (n : Int) (n : Int) (by omega) (by omega) (by rw [hb]; omega) (by omega)
  rw [h, hs]; simp; rfl
/-- a slice of one block, from its start -/
theorem rowIs_row {w : World} {g n B : Nat} {t : TypeId} {f v : Nat → Value} (h : w.rowIs g t n f) (hg : g < B) (e : ∀ j, j < n → f j = v j) : Row w B (some ⟨g, 0, none⟩) n v :=
  fun _ => ⟨g, 0, rfl, hg, fun j hj => by rw [Nat.zero_add, h.cell hj, e j hj]⟩
theorem own_row {w : World} {base e g n cap : Nat} {xs : List Value} {v : Nat → Value} (h : w.ownsRow base e 1 (.slice (some ⟨g, 0, none⟩) n cap) n xs) (hv : ∀ j, j < n → xs[j]? = some (v j)) {B : Nat} (hg : g < B) : Row w B (some ⟨g, 0, none⟩) n v :=
  fun _ => ⟨g, 0, rfl, hg, fun j hj => by
    have := h.cells (g := g) rfl j _ (hv j hj)
    rw [Nat.zero_add]
    have e : (⟨g, 0, none⟩ : Addr).add j = ⟨g, j, none⟩ := by unfold Addr.add; split <;> simp_all
    rw [← e]; exact this⟩
theorem own_form {w : World} {base e size n : Nat} {v : Value} {xs : List Value} (h : w.ownsRow base e size v n xs) (hn : 0 < n) : ∃ g cap, v = .slice (some ⟨g, 0, none⟩) n cap ∧ base ≤ g ∧ g < w.heap.size := by
  rcases h.2 with ⟨_, hz⟩ | ⟨g, cap, cur, hv, hb, hh, _⟩
  · omega
  · exact ⟨g, cap, hv, hb, (Array.getElem?_eq_some_iff.1 hh).1⟩
theorem Row.far {w : World} {g n o : Nat} {v : Nat → Value} (h : Row w w.heap.size (some ⟨g, o, none⟩) n v) {p : Addr} (hg : g ≠ p.block) (u : Value) : Row (w.setCell p u) (w.setCell p u).heap.size (some ⟨g, o, none⟩) n v := fun hn => by
  obtain ⟨b, off, e, hb, hc⟩ := h hn
  obtain ⟨rfl, rfl⟩ : g = b ∧ o = off := by simpa using e
  exact ⟨g, o, rfl, by simpa using hb, fun j hj => (World.cell?_setCell_other w p _ u (fun e => hg (by subst e; rfl))).trans (hc j hj)⟩
theorem own_room {w : World} {base e size n : Nat} {v : Value} {xs : List Value} (h : w.ownsRow base e size v n xs) (hn : 0 < n) : ∃ g cap, v = .slice (some ⟨g, 0, none⟩) n cap ∧ base ≤ g ∧ g < w.heap.size ∧ n ≤ cap := by
  rcases h.2 with ⟨_, hz⟩ | ⟨g, cap, cur, hv, hb, hh, hc, _⟩
  · omega
  · exact ⟨g, cap, hv, hb, (Array.getElem?_eq_some_iff.1 hh).1, hc⟩
/-- a slice of the call's own: its block, if it has one, lies at or beyond base -/
def Fresh (base : Nat) (A : Option Addr) : Prop := ∀ a, A = some a → base ≤ a.block
theorem fresh_none (base : Nat) : Fresh base none := fun _ h => by cases h
theorem fresh_some {base g o : Nat} (h : base ≤ g) : Fresh base (some ⟨g, o, none⟩) := fun _ e => by cases e; exact h
theorem ownsRow_mono {w : World} {b1 b2 e size n : Nat} {v : Value} {xs : List Value} (h : w.ownsRow b2 e size v n xs) (hle : b1 ≤ b2) : w.ownsRow b1 e size v n xs := by
  obtain ⟨h0, h | ⟨g, cap, cur, h1, h2, h3⟩⟩ := h
  · exact ⟨h0, .inl h⟩
  · exact ⟨h0, .inr ⟨g, cap, cur, h1, by omega, h3⟩⟩
theorem own_any {w : World} {base e n : Nat} {v : Value} {xs : List Value} {f : Nat → Value} (h : w.ownsRow base e 1 v n xs) (hv : ∀ j, j < n → xs[j]? = some (f j)) : ∃ A cap, v = .slice A n cap ∧ n ≤ cap ∧ cap ≤ maxLen ∧ Fresh base A ∧ Row w w.heap.size A n f := by
  rcases h.2 with ⟨rfl, rfl⟩ | ⟨g, cap, cur, rfl, hb, hh, hc, hm, _⟩
  · exact ⟨none, 0, rfl, Nat.le_refl _, by decide, fresh_none _, Row.nil⟩
  · exact ⟨_, cap, rfl, hc, hm, fresh_some hb, own_row h hv (Array.getElem?_eq_some_iff.1 hh).1⟩
theorem Blk.put {w : World} {g D : Nat} {t : TypeId} {cs : Array Value} (h : Blk w g t cs) (hne : g ≠ D) (o : Obj) : Blk (w.putObj D o) g t cs := (World.putObj_heap_other hne).trans h
theorem Row.put {w : World} {n D : Nat} {A : Option Addr} {v : Nat → Value} (h : Row w w.heap.size A n v) {o : Obj} (hD : w.heap[D]? = some o) (ho : o.isCells = false) (o' : Obj) : Row (w.putObj D o') (w.putObj D o').heap.size A n v := fun hn => by
  obtain ⟨b, off, e, hb, hc⟩ := h hn
  exact ⟨b, off, e, by rw [World.putObj_size]; exact hb, fun j hj => cell_kept (hc j hj) (grownBy_putObj' w D o') (fun r e => by cases e; exact ⟨o, hD, ho⟩)⟩
theorem or_shift (a b k : Nat) (h : b < 2 ^ k) : a * 2 ^ k ||| b = a * 2 ^ k + b := by
  rw [← Nat.shiftLeft_eq, Nat.shiftLeft_add_eq_or_of_lt h]
/-- what is told of a slice of integers that came in -/
def IsRow (k : IntKind) (w : World) (a : Option Addr) (len cap : Nat) (zs : List Int) : Prop :=
  (a = none ∧ len = 0 ∧ cap = 0 ∧ zs = []) ∨
  ∃ x, a = some x ∧ len ≤ cap ∧ cap ≤ maxLen ∧ zs.length = cap ∧ (∀ i, i < zs.length → w.cell? (x.add i) = some (.int k (zs.getD i 0))) ∧ ∀ n ∈ zs, (Lit.int k n).wf = true
theorem isRow_row {k : IntKind} {w : World} {a : Option Addr} {len cap : Nat} {zs : List Int} (h : IsRow k w a len cap zs) : Row w w.heap.size a len (fun j => .int k (zs.getD j 0)) := by
  intro hn
  rcases h with ⟨_, h0, _⟩ | ⟨⟨b, off, spot⟩, rfl, hl, hm, hz, hc, _⟩
  · omega
  · have c0 := hc 0 (by omega)
    have hspot : spot = none := by simpa [Addr.add] using World.cell?_spot c0
    subst hspot
    have hadd : ∀ j, (⟨b, off, none⟩ : Addr).add j = ⟨b, off + j, none⟩ := fun j => by unfold Addr.add; split <;> simp_all
    refine ⟨b, off, rfl, ?_, fun j hj => ?_⟩
    · rw [hadd] at c0
      exact World.block_lt_of_cell? w _ c0
    · have := hc j (by omega)
      rw [hadd] at this
      exact this
theorem isRow_len {k : IntKind} {w : World} {a : Option Addr} {len cap : Nat} {zs : List Int} (h : IsRow k w a len cap zs) : len ≤ maxLen := by
  rcases h with ⟨_, h0, _⟩ | ⟨x, _, hl, hm, _⟩ <;> unfold maxLen at * <;> omega
theorem owns_empty (w : World) (e : TypeId) : (w.alloc (.cells #[] e)).ownsRow w.heap.size e 1 (.slice (some ⟨w.heap.size, 0, none⟩) 0 0) 0 [] :=
  World.ownsRow_made w #[] 0 (Nat.le_refl _) (by unfold maxLen; omega) rfl
theorem own_some {w w0 : World} {base e n b : Nat} {v : Value} {xs : List Value} (h : w.ownsRow base e 1 v n xs) (hv : v.ownBlock = (Value.slice (some ⟨b, 0, none⟩) 0 0).ownBlock ∨ v.ownBlock = some w0.heap.size) : ∃ g cap, v = .slice (some ⟨g, 0, none⟩) n cap := by
  rcases h.2 with ⟨rfl, _⟩ | ⟨g, cap, cur, hv, _⟩
  · simp [Value.ownBlock] at hv
  · exact ⟨g, cap, hv⟩
theorem copy_below {w w1 : World} {e : TypeId} (h : (w.alloc (.cells #[] e)).grownBy w1 (Value.slice (some ⟨w.heap.size, 0, none⟩) 0 0).ownBlock) : Below w.heap.size w w1 :=
  ((Below.refl w.heap.size w).alloc (Nat.le_refl _) _).grown h (by simp) fun k hk => by
    have : w.heap.size = k := by simpa [Value.ownBlock] using hk
    omega
theorem own_row_map {w : World} {base e g n cap : Nat} {v : Nat → Value} (h : w.ownsRow base e 1 (.slice (some ⟨g, 0, none⟩) (0 + n) cap) (0 + n) ([] ++ (List.range n).map v)) : Row w w.heap.size (some ⟨g, 0, none⟩) n v := by
  rw [Nat.zero_add] at h
  exact own_row h (fun j hj => by simp [hj]) (by have := h.lt g (by simp [Value.ownBlock]); omega)
/-- A row of values that a block does not hold lies in another block. -/
theorem Row.apart {w : World} {A : Option Addr} {n g : Nat} {v : Nat → Value} {t : TypeId} {cs : Array Value} (h : Row w w.heap.size A n v) (hB : Blk w g t cs) (hne : ∀ i : Nat, i < cs.size → ∀ j, cs[i]? ≠ some (v j)) {p : Addr} (hp : p.block = g) (u : Value) : Row (w.setCell p u) (w.setCell p u).heap.size A n v := fun hn => by
  obtain ⟨b, off, e, hb, hc⟩ := h hn
  refine ⟨b, off, e, by simpa using hb, fun j hj => (World.cell?_setCell_other w p _ u (fun e => ?_)).trans (hc j hj)⟩
  have h1 := hc j hj
  obtain rfl : b = g := (congrArg Addr.block e).symm.trans hp
  rw [hB.cell] at h1
  rcases Nat.lt_or_ge (off + j) cs.size with hl | hl
  · exact hne _ hl j h1
  · rw [Array.getElem?_eq_none hl] at h1; cases h1
/-- blocks below n0 lie as they lay, but for block g -/
def KeepBut (n0 g : Nat) (A B : World) : Prop := ∀ b, b < n0 → b ≠ g → B.heap[b]? = A.heap[b]?
theorem KeepBut.refl (n0 g : Nat) (A : World) : KeepBut n0 g A A := fun _ _ _ => rfl
theorem KeepBut.trans {n0 g : Nat} {A B C : World} (h : KeepBut n0 g A B) (k : KeepBut n0 g B C) : KeepBut n0 g A C := fun b h1 h2 => (k b h1 h2).trans (h b h1 h2)
theorem KeepBut.of_below {n0 g : Nat} {A B : World} (h : Below n0 A B) : KeepBut n0 g A B := fun b h1 _ => h.block b h1
theorem keepBut_b {n0 g : Nat} {w : World} (hn : n0 ≤ w.heap.size) (W : World) (l : Nat) (o o' : Obj) (hl : w.heap.size ≤ l) (h : W.heap[l]? = some o) (_ : o.isCells = false) (_ : o.isWalk = false) : KeepBut n0 g W (W.putObj l o') :=
  KeepBut.of_below (belowK_b hn W l o o' hl h ‹_› ‹_›)
theorem cell_of_block {A B : World} {p : Addr} (h : B.heap[p.block]? = A.heap[p.block]?) : B.cell? p = A.cell? p := by simp [World.cell?, h]
theorem KeepBut.blk {n0 g : Nat} {A B : World} (h : KeepBut n0 g A B) {b : Nat} {t : TypeId} {cs : Array Value} (hB : Blk A b t cs) (h1 : b < n0) (h2 : b ≠ g) : Blk B b t cs := (h b h1 h2).trans hB
theorem and_one : ∀ y, y < 256 → (bits BinOp.and .u8 ((y : Nat) : Int) 1 == 1) = (y % 2 == 1) := by decide +kernel
theorem below_step {w w1 w2 : World} (h : Below w.heap.size w w1) (h2 : Below w1.heap.size w1 w2) : Below w.heap.size w w2 := h.trans (h2.mono h.size)
theorem below_new {w w1 : World} (h : Below w.heap.size w w1) (o : Obj) : Below w.heap.size w (w1.alloc o) := h.alloc h.size o
theorem lit_bytes {w : World} {B g : Nat} {t : TypeId} (l : List Int) (h : Blk w g t (l.map (Value.int .u8)).toArray) (hB : g < B) : Row w B (some ⟨g, 0, none⟩) l.length (fun j => .int .u8 (l.getD j 0)) :=
  fun _ => ⟨g, 0, rfl, hB, fun j hj => by rw [Nat.zero_add, h.cell]; simp [hj, List.getD]⟩
theorem lit_bools {w : World} {B g : Nat} {t : TypeId} (l : List Bool) (h : Blk w g t (l.map Value.bool).toArray) (hB : g < B) : Row w B (some ⟨g, 0, none⟩) l.length (fun j => .bool (l.getD j false)) :=
  fun _ => ⟨g, 0, rfl, hB, fun j hj => by rw [Nat.zero_add, h.cell]; simp [hj, List.getD]⟩
theorem isRow_u8 {w : World} {a : Option Addr} {len cap : Nat} {zs : List Int} (h : IsRow .u8 w a len cap zs) : len ≤ cap ∧ ∀ j, j < len → 0 ≤ zs.getD j 0 ∧ zs.getD j 0 < 256 := by
  rcases h with ⟨_, h0, hc, _⟩ | ⟨x, _, hl, hm, hz, _, hw⟩
  · exact ⟨by omega, fun j hj => by omega⟩
  · refine ⟨hl, fun j hj => ?_⟩
    have hj2 : j < zs.length := by omega
    have h1 := hw (zs.getD j 0) (by simp [List.getD, hj2])
    have h2 := (by simpa [Lit.wf] using h1 : IntKind.u8.min ≤ zs.getD j 0 ∧ zs.getD j 0 ≤ IntKind.u8.max)
    rw [show IntKind.u8.min = 0 from rfl, show IntKind.u8.max = 255 from rfl] at h2
    omega
theorem row_new {w : World} {A : Option Addr} {n : Nat} {v : Nat → Value} (h : Row w w.heap.size A n v) (o : Obj) : Row (w.alloc o) (w.alloc o).heap.size A n v := (h.alloc (Nat.le_refl _) o).more (by simp)
theorem last_bounds (b : Nat → Bool) (i : Nat) (h : b i = true) : HM.last b (i + 1) = i + 1 := by unfold HM.last; rw [if_pos h]
theorem last_skip (b : Nat → Bool) (i : Nat) (h : b i = false) : HM.last b (i + 1) = HM.last b i := by
  show (if b i = true then i + 1 else HM.last b i) = _
  rw [if_neg (by simp [h])]
theorem or_bits : ∀ r, r < 8 → ∀ q, q < 2 ^ r → bits BinOp.or .u8 ((q * 2 ^ (8 - r) : Nat) : Int) (128 / 2 ^ r) = ((q * 2 ^ (8 - r) + 2 ^ (7 - r) : Nat) : Int) := by decide +kernel
theorem or_pk (b : Nat → Bool) (i : Nat) (h : b i = true) : bits BinOp.or .u8 ((HM.pk b i (i / 8) : Nat) : Int) (128 / 2 ^ (i % 8)) = ((HM.pk b (i + 1) (i / 8) : Nat) : Int) := by
  obtain ⟨q, hq, e⟩ := HM.pk_form b (i / 8) (i % 8) (by omega)
  rw [show 8 * (i / 8) + i % 8 = i by omega] at e
  rw [HM.pk_hit b i h, e]
  exact or_bits (i % 8) (by omega) q hq
theorem HM.pk_last (b : Nat → Bool) (j : Nat) : ∀ n, HM.pk b n j = HM.pk b (HM.last b n) j
  | 0 => rfl
  | n + 1 => by
    by_cases h : b n = true
    · rw [last_bounds b n h]
    · have h' : b n = false := by simpa using h
      rw [HM.pk_skip b n j h', last_skip b n h', HM.pk_last b j n]
theorem HM.bit_pk (b : Nat → Bool) (n j : Nat) : HM.pk b n (j / 8) / 2 ^ (7 - j % 8) % 2 = if j < n ∧ b j = true then 1 else 0 := by
  by_cases h1 : n ≤ 8 * (j / 8)
  · rw [HM.pk_far b n _ h1, if_neg (by omega)]; simp
  · by_cases h2 : 8 * (j / 8) + 8 ≤ n
    · have hd := HM.pk_done b (n - (8 * (j / 8) + 8)) (8 * (j / 8) + 8) (j / 8) (by omega)
      rw [show 8 * (j / 8) + 8 + (n - (8 * (j / 8) + 8)) = n by omega] at hd
      rw [hd]
      have := HM.pk_bit b (j / 8) 8 (Nat.le_refl _) (j % 8) (by omega)
      rw [show 8 * (j / 8) + j % 8 = j by omega] at this
      rw [this]
      have hj : j < n := by omega
      simp [hj]
    · obtain ⟨r, hr⟩ : ∃ r, n = 8 * (j / 8) + r := ⟨n - 8 * (j / 8), by omega⟩
      by_cases ht : j % 8 < r
      · have := HM.pk_bit b (j / 8) r (by omega) (j % 8) ht
        rw [show 8 * (j / 8) + j % 8 = j by omega, ← hr] at this
        rw [this]
        have hj : j < n := by omega
        simp [hj]
      · obtain ⟨q, _, e⟩ := HM.pk_form b (j / 8) r (by omega)
        rw [← hr] at e
        rw [e, if_neg (by omega)]
        have e2 : 2 ^ (8 - r) = 2 ^ (7 - j % 8) * (2 * 2 ^ (j % 8 - r)) := by
          rw [← Nat.mul_assoc, Nat.mul_comm _ 2, Nat.mul_assoc, ← Nat.pow_add, show 7 - j % 8 + (j % 8 - r) = 7 - r by omega, show 8 - r = (7 - r) + 1 by omega, Nat.pow_succ, Nat.mul_comm]
        rw [e2, ← Nat.mul_assoc, Nat.mul_comm q, Nat.mul_assoc, Nat.mul_div_cancel_left _ (Nat.two_pow_pos _), Nat.mul_comm q, Nat.mul_assoc]
        omega
theorem HM.byte_ext (x y : Nat) (hx : x < 256) (hy : y < 256) (h : ∀ t, t < 8 → x / 2 ^ (7 - t) % 2 = y / 2 ^ (7 - t) % 2) : x = y := by
  have h0 := h 0 (by decide); have h1 := h 1 (by decide); have h2 := h 2 (by decide); have h3 := h 3 (by decide)
  have h4 := h 4 (by decide); have h5 := h 5 (by decide); have h6 := h 6 (by decide); have h7 := h 7 (by decide)
  simp at h0 h1 h2 h3 h4 h5 h6 h7
  omega
theorem HM.hb_at (z : Nat → Int) (J t : Nat) (ht : t < 8) : HM.hb z (8 * J + t) = ((z J).toNat / 2 ^ (7 - t) % 2 == 1) := by
  unfold HM.hb; rw [show (8 * J + t) / 8 = J by omega, show (8 * J + t) % 8 = t by omega]
/-- the bits of a byte, packed: the byte -/
theorem HM.pk_hb (z : Nat → Int) (J : Nat) (h0 : 0 ≤ z J) (h1 : z J < 256) : ((HM.pk (HM.hb z) (8 * J + 8) J : Nat) : Int) = z J := by
  have : HM.pk (HM.hb z) (8 * J + 8) J = (z J).toNat := by
    refine HM.byte_ext _ _ (HM.pk_lt _ _ _) (by omega) fun t ht => ?_
    rw [HM.pk_bit (HM.hb z) J 8 (Nat.le_refl _) t ht, HM.hb_at z J t ht]
    have := Nat.mod_two_eq_zero_or_one ((z J).toNat / 2 ^ (7 - t))
    rcases this with h | h <;> simp [h]
  omega
theorem HM.pk_all (z : Nat → Int) (N J : Nat) (hN : 8 * J + 8 ≤ N) (h0 : 0 ≤ z J) (h1 : z J < 256) : ((HM.pk (HM.hb z) N J : Nat) : Int) = z J := by
  have := HM.pk_done (HM.hb z) (N - (8 * J + 8)) (8 * J + 8) J (Nat.le_refl _)
  rw [show 8 * J + 8 + (N - (8 * J + 8)) = N by omega] at this
  rw [this, HM.pk_hb z J h0 h1]
theorem HM.last_last (b : Nat → Bool) (n : Nat) : HM.last b (HM.last b n) = HM.last b n :=
  HM.last_unique b _ _ (Nat.le_refl _) (fun h => HM.last_set b n h) (fun j h1 h2 => by omega)
theorem bit_hb (z : Nat → Int) (i x : Nat) (hx : z (i / 8) = (x : Int)) (h256 : x < 256) : (bits BinOp.and .u8 ((x : Int) / 2 ^ (7 - i % 8)) 1 == 1) = HM.hb z i := by
  have e : ((x : Int) / 2 ^ (7 - i % 8)) = ((x / 2 ^ (7 - i % 8) : Nat) : Int) := by simp
  rw [e, and_one _ (Nat.lt_of_le_of_lt (Nat.div_le_self _ _) h256)]
  unfold HM.hb
  rw [hx, Int.toNat_natCast]
theorem own_some_cap {w w0 : World} {base e n b : Nat} {v : Value} {xs : List Value} (h : w.ownsRow base e 1 v n xs) (hv : v.ownBlock = (Value.slice (some ⟨b, 0, none⟩) 0 0).ownBlock ∨ v.ownBlock = some w0.heap.size) : ∃ g cap, v = .slice (some ⟨g, 0, none⟩) n cap ∧ n ≤ cap := by
  rcases h.2 with ⟨rfl, _⟩ | ⟨g, cap, cur, hv, _, _, hc, _⟩
  · simp [Value.ownBlock] at hv
  · exact ⟨g, cap, hv, hc⟩
set_option maxRecDepth 100000 in
set_option maxHeartbeats 800000 in
theorem clone_own (A : Option Addr) (n c : Nat) (z : Nat → Int) (w : World) (hn : n ≤ 140737488355328) (hr : Row w w.heap.size A n (fun j => .int .u8 (z j))) :
    Calls Tryz.prog 34 #[.slice A n c] w fun e w' => ∃ A2 c2, e = .returned (.slice A2 n c2) ∧ n ≤ c2 ∧ w'.ownsRow w.heap.size 5 1 (.slice A2 n c2) n ((List.range n).map (fun j => .int .u8 (z j))) ∧ Below w.heap.size w w' := by
  have HR := Lib.hid hr
  clear hr
  obtain ⟨i0, hi, hz0, hz1, hz2⟩ := info_parts Tryz.infoByte
  have hnil := Lib.run_eql_slice_nil (P := Tryz.prog) (t := 41)
  cases A with
  | none =>
    have h0 : n = 0 := by
      rcases Nat.eq_zero_or_pos n with h0 | h0
      · exact h0
      · obtain ⟨b, off, h, _⟩ := HR.out h0
        cases h
    subst h0
    go_enter Tryz.func34, Tryz.ntmps34
    go_wp2
    go_ret
    exact ⟨none, 0, rfl, Nat.le_refl _, World.ownsRow_nil _ _ _ _, Below.refl _ _⟩
  | some ad =>
    go_enter Tryz.func34, Tryz.ntmps34
    go_wp2_with (at_builtin; refine wpList_append_src _ rfl _ _ 41 rfl w.heap.size 5 i0 (.int .u8 0) 1 Tryz.underlying41 hi hz0 hz1 hz2 rfl _ _ _ rfl (owns_empty w 5) w.heap.size (some ad) n c (fun j => .int .u8 (z j)) rfl (HR.out.alloc (Nat.le_refl _) _) (fun _ => rfl) (by unfold maxLen; omega) (by omega) (by simp) ?_; intro v1 w1 hown1 hg1 hv1)
    go_ret
    obtain ⟨g0, c0, rfl, hcap⟩ := own_some_cap hown1 hv1
    exact ⟨some ⟨g0, 0, none⟩, c0, by simp, by omega, by simpa using hown1, copy_below hg1⟩
theorem own_map_row {w : World} {base e n : Nat} {A : Option Addr} {c : Nat} {f : Nat → Value} (h : w.ownsRow base e 1 (.slice A n c) n ((List.range n).map f)) : Fresh base A ∧ Row w w.heap.size A n f := by
  obtain ⟨A', c', hv, _, _, hf, hr⟩ := own_any (f := f) h (fun j hj => by simp [hj])
  cases hv
  exact ⟨hf, hr⟩
theorem clone_any (A : Option Addr) (n c : Nat) (z : Nat → Int) (w : World) (hn : n ≤ 140737488355328) (hr : Row w w.heap.size A n (fun j => .int .u8 (z j))) :
    Calls Tryz.prog 34 #[.slice A n c] w fun e w' => ∃ A2 c2, e = .returned (.slice A2 n c2) ∧ n ≤ c2 ∧ Row w' w'.heap.size A2 n (fun j => .int .u8 (z j)) ∧ Fresh w.heap.size A2 ∧ Below w.heap.size w w' :=
  (clone_own A n c z w hn hr).mono fun _ _ ⟨A2, c2, he, hc, ho, hb⟩ => ⟨A2, c2, he, hc, (own_map_row ho).2, (own_map_row ho).1, hb⟩
end Go.Proofs.YtmdpiajhfohagaaGreat
