/- Words for memory that the walks of this seat share: a slice that reads as a function of its index; a block known whole. No condition. Handover's plain mathematics: bits of bytes, the last set bit, packed bits; no program in sight. append of a slice that came in (nil, empty or not) onto a row of the call's own; slices of one-cell elements. string(b) of a byte slice that reads as a function of its index. Words and lemmas that the walks of this seat share: slices, bytes, bits, frames; slices.Clone of bytes. Printed by gen/xu.py. memory of the transmitter and the receiver: frames by sets of blocks; slices that own their block, at any offset; append onto them. -/
import Derived.Test.YthadfbekfbfkpaaGreatRows
import Derived.WalkKit
import Derived.Laws.OwnMore
import Derived.Deep.Draws
import Derived.Lib.Hide
import Derived.Laws.AppendOwnNone
import Derived.Maps.AppendAt
import Derived.OwnWalk
import Derived.Deep.OwnRows
import Derived.Laws.BytesArg
import Derived.RangeFuncNested
import Derived.RangeFuncBound
import Derived.RangeFuncCalls
import Derived.RangeFuncLeaves
import Derived.RangeFuncBox
import Derived.Shelf.Abstract
import Derived.Shelf.RegionOpen
import Derived.OwnWalkIn
import Derived.TacticsInMore
import Derived.LoopNIn
import Derived.LoopIn
import Derived.Laws.BitsAllLaws
import Derived.WalkSpells
import Derived.Deep.QuietTactic
import Derived.BigQuiet
import Derived.Deep.RegionHeld3
import Derived.Deep.AppendSrc
import Derived.Deep.MidRow
import Derived.Laws.AppendOwn
import Derived.Laws.Rows
namespace Go.Proofs.YthadfbekfbfkpaaGreat
open Go.RowKit

theorem ret_bool {a b : Bool} (h : a = b) : Ending.returned (.bool a) = Ending.returned (.bool b) := by rw [h]
theorem ret_int {k : IntKind} {a b : Int} (h : a = b) : Ending.returned (.int k a) = Ending.returned (.int k b) := by rw [h]
theorem ret_val {a b : Value} (h : a = b) : Ending.returned a = Ending.returned b := by rw [h]

/-- The slice value with address A and n elements of one cell holds v 0, .., v (n - 1), below block B. -/
def Row (w : World) (B : Nat) (A : Option Addr) (n : Nat) (v : Nat → Value) : Prop :=
  0 < n → ∃ b off, A = some ⟨b, off, none⟩ ∧ b < B ∧ ∀ j, j < n → w.cell? ⟨b, off + j, none⟩ = some (v j)

section
variable {w w' : World} {B B' n : Nat} {A : Option Addr} {v v' : Nat → Value}
theorem Row.nil : Row w B A 0 v := fun h => absurd h (by omega)
theorem Row.keep (h : Row w B A n v) (hk : ∀ p : Addr, p.block < B → w'.cell? p = w.cell? p) : Row w' B A n v := fun hn => by
  obtain ⟨b, off, e, hb, hc⟩ := h hn
  exact ⟨b, off, e, hb, fun j hj => (hk _ hb).trans (hc j hj)⟩
theorem Row.more (h : Row w B A n v) (hB : B ≤ B') : Row w B' A n v := fun hn => by
  obtain ⟨b, off, e, hb, hc⟩ := h hn
  exact ⟨b, off, e, by omega, hc⟩
theorem Row.below (h : Row w B A n v) (hb : Below B w w') : Row w' B A n v := h.keep fun _ hp => hb.cell hp
theorem Row.next (h : Row w w.heap.size A n v) (hb : Below w.heap.size w w') : Row w' w'.heap.size A n v := (h.below hb).more hb.size
theorem Row.drew (h : Row w B A n v) : Row w.drew B A n v := h
theorem Row.alloc (h : Row w B A n v) (hB : B ≤ w.heap.size) (o : Obj) : Row (w.alloc o) B A n v := h.keep fun p hp => World.cell?_alloc_lt w o p (by omega)
theorem Row.setCell (h : Row w B A n v) {p : Addr} (hB : B ≤ p.block) (u : Value) : Row (w.setCell p u) B A n v :=
  h.keep fun q hq => World.cell?_setCell_other w p q u (fun e => by subst e; omega)
theorem Row.congr (h : Row w B A n v) (e : ∀ j, j < n → v j = v' j) : Row w B A n v' := fun hn => by
  obtain ⟨b, off, e1, hb, hc⟩ := h hn
  exact ⟨b, off, e1, hb, fun j hj => by rw [hc j hj, e j hj]⟩
theorem Row.take (h : Row w B A n v) {m : Nat} (hm : m ≤ n) : Row w B A m v := fun hn => by
  obtain ⟨b, off, e, hb, hc⟩ := h (by omega)
  exact ⟨b, off, e, hb, fun j hj => hc j (by omega)⟩
end

/-- Block g is just the cells cs of element type t, none frozen. -/
def Blk (w : World) (g : Nat) (t : TypeId) (cs : Array Value) : Prop := w.heap[g]? = some (.cells cs t (0, 0))

section
variable {w w' : World} {g : Nat} {t : TypeId} {cs : Array Value}
theorem Blk.lt (h : Blk w g t cs) : g < w.heap.size := by
  rcases Nat.lt_or_ge g w.heap.size with hlt | hge
  · exact hlt
  · unfold Blk at h; rw [Array.getElem?_eq_none hge] at h; cases h
theorem Blk.cell (h : Blk w g t cs) (i : Nat) : w.cell? ⟨g, i, none⟩ = cs[i]? := cell_of_row w g i cs t (0, 0) h
theorem Blk.frozen (h : Blk w g t cs) (i : Nat) : w.frozen? ⟨g, i, none⟩ = false := by
  unfold Blk at h
  simp [World.frozen?, h]
theorem Blk.new (w : World) (t : TypeId) (cs : Array Value) : Blk (w.alloc (.cells cs t)) w.heap.size t cs := heap_alloc_new w _
theorem Blk.drew (h : Blk w g t cs) : Blk w.drew g t cs := h
theorem Blk.drewN (h : Blk w g t cs) (n : Nat) : Blk (w.drewN n) g t cs := h
theorem Blk.alloc (h : Blk w g t cs) (o : Obj) : Blk (w.alloc o) g t cs := (Below.heap_alloc w o g h.lt).trans h
theorem Blk.set_ (h : Blk w g t cs) (i : Nat) (u : Value) : Blk (w.setCell ⟨g, i, none⟩ u) g t (cs.setIfInBounds i u) := by
  unfold Blk at h ⊢
  simp [World.setCell, Array.getElem?_modify, h]
theorem Blk.far (h : Blk w g t cs) {p : Addr} (hp : g ≠ p.block) (u : Value) : Blk (w.setCell p u) g t cs := (Below.heap_setCell w p u g hp).trans h
theorem Blk.below {B : Nat} (h : Blk w g t cs) (hb : Below B w w') (hg : g < B) : Blk w' g t cs := (hb.block g hg).trans h
theorem Blk.grown {row : Option Nat} (h : Blk w g t cs) (hb : w.grownBy w' row) (hg : some g ≠ row) : Blk w' g t cs := (hb.block g h.lt hg).trans h
end
theorem bcell {W w1 : World} (hb : Below W.heap.size W w1) : (∀ b o, b < W.heap.size → w1.cell? ⟨b, o, none⟩ = W.cell? ⟨b, o, none⟩) ∧ (∀ b o, b < W.heap.size → w1.frozen? ⟨b, o, none⟩ = W.frozen? ⟨b, o, none⟩) :=
  ⟨fun b o h => hb.cell (p := ⟨b, o, none⟩) h, fun b o h => hb.frozen (p := ⟨b, o, none⟩) h⟩
theorem below_drewN {B : Nat} {a w : World} (h : Below B a w) (n : Nat) : Below B a (w.drewN n) := ⟨h.os, h.tape, h.output, h.size, h.block⟩
end Go.Proofs.YthadfbekfbfkpaaGreat
namespace Go.Proofs.YthadfbekfbfkpaaGreat.HM

/-- the j-th bit of the bytes z, the most significant one of each byte first -/
def hb (z : Nat → Int) (j : Nat) : Bool := (z (j / 8)).toNat / 2 ^ (7 - j % 8) % 2 == 1

/-- the number of bits up to the last one that is set, among the first n -/
def last (b : Nat → Bool) : Nat → Nat
  | 0 => 0
  | n + 1 => if b n then n + 1 else last b n

theorem last_le (b : Nat → Bool) : ∀ n, last b n ≤ n
  | 0 => Nat.le_refl _
  | n + 1 => by
    unfold last
    split
    · exact Nat.le_refl _
    · exact Nat.le_succ_of_le (last_le b n)
theorem last_above (b : Nat → Bool) : ∀ n j, last b n ≤ j → j < n → b j = false
  | 0, j, _, h => absurd h (by omega)
  | n + 1, j, h1, h2 => by
    unfold last at h1
    split at h1
    · omega
    · rename_i hn
      by_cases hj : j = n
      · subst hj; simpa using hn
      · exact last_above b n j h1 (by omega)
theorem last_set (b : Nat → Bool) : ∀ n, 0 < last b n → b (last b n - 1) = true
  | 0, h => absurd h (by simp [last])
  | n + 1, h => by
    unfold last at h ⊢
    split at h
    · rename_i hn
      rw [if_pos hn]
      simpa using hn
    · rename_i hn
      rw [if_neg hn]
      exact last_set b n h
theorem last_unique (b : Nat → Bool) (n m : Nat) (hm : m ≤ n) (h0 : 0 < m → b (m - 1) = true) (h1 : ∀ j, m ≤ j → j < n → b j = false) : last b n = m := by
  have h2 := last_le b n
  rcases Nat.lt_trichotomy (last b n) m with h | h | h
  · have := last_above b n (m - 1) (by omega) (by omega)
    rw [h0 (by omega)] at this
    cases this
  · exact h
  · have := last_set b n (by omega)
    rw [h1 _ (by omega) (by omega)] at this
    cases this
theorem last_congr {b c : Nat → Bool} (n : Nat) (h : ∀ j, j < n → b j = c j) : last b n = last c n :=
  (last_unique c n (last b n) (last_le b n) (fun h0 => by rw [← h _ (by have := last_le b n; omega)]; exact last_set b n h0) (fun j h1 h2 => by rw [← h j h2]; exact last_above b n j h1 h2)).symm

/-- byte j of the packed bits b 0, .., b (i - 1) -/
def pk (b : Nat → Bool) : Nat → Nat → Nat
  | 0, _ => 0
  | i + 1, j => pk b i j + if i / 8 = j ∧ b i = true then 2 ^ (7 - i % 8) else 0

theorem pk_far (b : Nat → Bool) : ∀ i j, i ≤ 8 * j → pk b i j = 0
  | 0, _, _ => rfl
  | i + 1, j, h => by
    unfold pk
    rw [pk_far b i j (by omega), if_neg (by omega)]
theorem pk_done (b : Nat → Bool) : ∀ d i j, 8 * j + 8 ≤ i → pk b (i + d) j = pk b i j
  | 0, _, _, _ => rfl
  | d + 1, i, j, h => by
    show pk b (i + d + 1) j = _
    unfold pk
    rw [pk_done b d i j h, if_neg (by omega), Nat.add_zero]
    cases i <;> rfl
theorem pk_skip (b : Nat → Bool) (i j : Nat) (h : b i = false) : pk b (i + 1) j = pk b i j := by
  show pk b i j + _ = _
  rw [if_neg (by simp [h]), Nat.add_zero]
theorem pk_other (b : Nat → Bool) (i j : Nat) (h : i / 8 ≠ j) : pk b (i + 1) j = pk b i j := by
  show pk b i j + _ = _
  rw [if_neg (by simp [h]), Nat.add_zero]
theorem pk_hit (b : Nat → Bool) (i : Nat) (h : b i = true) : pk b (i + 1) (i / 8) = pk b i (i / 8) + 2 ^ (7 - i % 8) := by
  show pk b i (i / 8) + _ = _
  rw [if_pos ⟨rfl, h⟩]
theorem pk_congr {b c : Nat → Bool} : ∀ i j, (∀ t, t < i → b t = c t) → pk b i j = pk c i j
  | 0, _, _ => rfl
  | i + 1, j, h => by
    unfold pk
    rw [pk_congr i j (fun t ht => h t (by omega)), h i (by omega)]

theorem pk_zero (b : Nat → Bool) : ∀ i j, last b i ≤ 8 * j → pk b i j = 0
  | 0, _, _ => rfl
  | i + 1, j, h => by
    by_cases hb : b i = true
    · unfold last at h
      rw [if_pos hb] at h
      exact pk_far b _ _ h
    · unfold last at h
      rw [if_neg hb] at h
      rw [pk_skip b i j (by simpa using hb)]
      exact pk_zero b i j h

/-- after r bits of byte j: a multiple of 2^(8-r), below 256 -/
theorem pk_form (b : Nat → Bool) (j : Nat) : ∀ r, r ≤ 8 → ∃ q, q < 2 ^ r ∧ pk b (8 * j + r) j = q * 2 ^ (8 - r)
  | 0, _ => ⟨0, by simp, (pk_far b _ _ (by omega)).trans (Nat.zero_mul _).symm⟩
  | r + 1, h => by
    obtain ⟨q, hq, e⟩ := pk_form b j r (by omega)
    have e1 : (8 * j + r) / 8 = j := by omega
    have e2 : (8 * j + r) % 8 = r := by omega
    have e3 : 2 ^ (8 - r) = 2 * 2 ^ (8 - (r + 1)) := by
      rw [show 8 - r = (8 - (r + 1)) + 1 by omega, Nat.pow_succ]; omega
    show ∃ q, q < 2 ^ (r + 1) ∧ pk b (8 * j + r + 1) j = _
    by_cases hb : b (8 * j + r) = true
    · refine ⟨2 * q + 1, by rw [Nat.pow_succ]; omega, ?_⟩
      have := pk_hit b (8 * j + r) hb
      rw [e1, e2] at this
      rw [this, e, e3, show 7 - r = 8 - (r + 1) by omega]
      rw [Nat.add_mul, Nat.one_mul, ← Nat.mul_assoc, Nat.mul_comm q 2]
    · refine ⟨2 * q, by rw [Nat.pow_succ]; omega, ?_⟩
      rw [pk_skip b _ _ (by simpa using hb), e, e3, ← Nat.mul_assoc, Nat.mul_comm q 2]
theorem pk_lt (b : Nat → Bool) (i j : Nat) : pk b i j < 256 := by
  by_cases h1 : i ≤ 8 * j
  · rw [pk_far b i j h1]; decide
  · by_cases h2 : 8 * j + 8 ≤ i
    · obtain ⟨q, hq, e⟩ := pk_form b j 8 (by omega)
      have := pk_done b (i - (8 * j + 8)) (8 * j + 8) j (by omega)
      rw [show 8 * j + 8 + (i - (8 * j + 8)) = i by omega] at this
      rw [this, e]; omega
    · obtain ⟨q, hq, e⟩ := pk_form b j (i - 8 * j) (by omega)
      rw [show 8 * j + (i - 8 * j) = i by omega] at e
      rw [e]
      have := Nat.mul_lt_mul_of_pos_right (k := 2 ^ (8 - (i - 8 * j))) hq (Nat.two_pow_pos _)
      rw [← Nat.pow_add, show i - 8 * j + (8 - (i - 8 * j)) = 8 by omega] at this
      exact this
/-- or is plus, where the bit is not set yet -/
theorem or_plus : ∀ r, r < 8 → ∀ q, q < 2 ^ r → q * 2 ^ (8 - r) ||| 128 >>> r = q * 2 ^ (8 - r) + 2 ^ (7 - r) := by decide +kernel
theorem pk_or (b : Nat → Bool) (i : Nat) (h : b i = true) : pk b i (i / 8) ||| 128 >>> (i % 8) = pk b (i + 1) (i / 8) := by
  obtain ⟨q, hq, e⟩ := pk_form b (i / 8) (i % 8) (by omega)
  rw [show 8 * (i / 8) + i % 8 = i by omega] at e
  rw [pk_hit b i h, e]
  exact or_plus (i % 8) (by omega) q hq

/-- the packed byte's bits are the bits -/
theorem bit_form : ∀ r, r < 8 → ∀ q, q < 256 → (q / 2 ^ (7 - r) % 2 == 1) = (q / 2 ^ (7 - r)).testBit 0 := by decide +kernel
theorem pk_bit (b : Nat → Bool) (j : Nat) : ∀ r, r ≤ 8 → ∀ t, t < r → pk b (8 * j + r) j / 2 ^ (7 - t) % 2 = if b (8 * j + t) then 1 else 0
  | 0, _, t, h => absurd h (by omega)
  | r + 1, hr, t, ht => by
    obtain ⟨q, hq, e⟩ := pk_form b j r (by omega)
    have e1 : (8 * j + r) / 8 = j := by omega
    have e2 : (8 * j + r) % 8 = r := by omega
    have ep : pk b (8 * j + (r + 1)) j = pk b (8 * j + r) j + if b (8 * j + r) = true then 2 ^ (7 - r) else 0 := by
      show pk b (8 * j + r) j + (if (8 * j + r) / 8 = j ∧ b (8 * j + r) = true then 2 ^ (7 - (8 * j + r) % 8) else 0) = _
      rw [e1, e2]; simp
    have e3 : 2 ^ (8 - r) = 2 * 2 ^ (7 - r) := by
      rw [show 8 - r = (7 - r) + 1 by omega, Nat.pow_succ]; omega
    by_cases htr : t = r
    · subst htr
      rw [ep, e, e3, ← Nat.mul_assoc]
      split
      · rw [← Nat.succ_mul, Nat.mul_div_cancel _ (Nat.two_pow_pos _)]; omega
      · rw [Nat.add_zero, Nat.mul_div_cancel _ (Nat.two_pow_pos _)]; omega
    · have ih := pk_bit b j r (by omega) t (by omega)
      rw [ep]
      have ed : 2 ^ (7 - t) = 2 ^ (8 - r) * 2 ^ (r - 1 - t) := by rw [← Nat.pow_add]; congr 1; omega
      rw [e, ed, ← Nat.div_div_eq_div_mul, Nat.mul_div_cancel _ (Nat.two_pow_pos _)] at ih
      rw [e, ed, ← Nat.div_div_eq_div_mul]
      have : (q * 2 ^ (8 - r) + if b (8 * j + r) = true then 2 ^ (7 - r) else 0) / 2 ^ (8 - r) = q := by
        split
        · rw [Nat.mul_comm, Nat.mul_add_div (Nat.two_pow_pos _), Nat.div_eq_of_lt (by rw [e3]; have := Nat.two_pow_pos (7 - r); omega), Nat.add_zero]
        · rw [Nat.add_zero, Nat.mul_div_cancel _ (Nat.two_pow_pos _)]
      rw [this]; exact ih
end Go.Proofs.YthadfbekfbfkpaaGreat.HM
namespace Go.Proofs.YthadfbekfbfkpaaGreat
open Go.RowKit

theorem row_cells {w : World} {B m : Nat} {A : Option Addr} {v : Nat → Value} (h : Row w B A m v) {ad : Addr} (e : A = some ad) : ∀ j u, ((List.range m).map v)[j]? = some u → w.cell? (ad.add j) = some u := by
  intro j u hu
  have hj : j < m := by
    rcases Nat.lt_or_ge j m with hlt | hge
    · exact hlt
    · rw [List.getElem?_eq_none (by simpa using hge)] at hu; cases hu
  obtain ⟨b, off, e2, _, hc⟩ := h (by omega)
  rw [e] at e2
  injection e2 with e2
  subst e2
  have hadd : (⟨b, off, none⟩ : Addr).add j = ⟨b, off + j, none⟩ := by unfold Addr.add; split <;> simp_all
  rw [hadd, hc j hj]
  simpa [hj] using hu

section
variable {P : Program} (w : World)
theorem run_append_src (base : Nat) (t ty e : TypeId) (i : TypeInfo) (z : Value) (bytes : Nat) (ht : P.underlying t = some (.slice e)) (hi : P.info? e = some i) (hz : i.zero = some z)
    (hsize : i.size = 1) (hby : i.bytes = bytes) (hzs : z.cells.size = 1)
    (v : Value) (n : Nat) (xs : List Value) (hown : w.ownsRow base e 1 v n xs)
    (B : Nat) (A : Option Addr) (m c : Nat) (nv : Nat → Value) (hr : Row w B A m nv) (h1 : ∀ j, (nv j).oneCell' = true)
    (h63 : n + m ≤ maxLen) (hbytes : (n + m) * bytes ≤ 140737488355328) (hbase : base ≤ w.heap.size) :
    ∃ v' w', (Builtin.append_ #[t, t] ty #[v, .slice A m c]).run P w = .ok v' w' ∧ w'.ownsRow base e 1 v' (n + m) (xs ++ (List.range m).map nv) ∧ w.grownBy w' v.ownBlock ∧
      (v'.ownBlock = v.ownBlock ∨ v'.ownBlock = some w.heap.size) := by
  rcases A with _ | ad
  · have hm : m = 0 := by
      rcases Nat.eq_zero_or_pos m with h0 | h0
      · exact h0
      · obtain ⟨b, off, h, _⟩ := hr h0
        cases h
    subst hm
    refine ⟨v, w, ?_, by simpa using hown, ⟨rfl, rfl, rfl, Nat.le_refl _, fun _ _ _ => rfl⟩, .inl rfl⟩
    rcases hown.2 with ⟨rfl, rfl⟩ | ⟨g, cap, cur, rfl, _, _, hnc, _⟩
    · simp [Builtin.append_, run_underlying ht, sizeOf, typeInfo, hi, Builtin.lenOf, Builtin.firstCells]
    · simp [Builtin.append_, run_underlying ht, sizeOf, typeInfo, hi, Builtin.lenOf, Builtin.firstCells, hnc, storeCells]
  · obtain ⟨v', w', hrun, h2, h3, _, h5⟩ := run_append_own_at (P := P) w base t ty e i z 1 bytes ht hi hz hsize hby hzs (by omega) v n xs hown ad m c ((List.range m).map nv) (by simp) (row_cells hr rfl)
      (by intro u hu; obtain ⟨j, _, rfl⟩ := List.mem_map.1 hu; exact h1 j) h63 hbytes hbase
    exact ⟨v', w', hrun, h2, h3, h5⟩

theorem wp_append_src {o : Oper} {a : Act} {K : Act → World → Prop} {Q : Exit → Act → World → Prop} (s x : Operand) (t : TypeId)
    (ho : o.op = .call { callee := .builtin .append, args := #[s, x], argTypes := #[t, t] })
    (base : Nat) (e : TypeId) (i : TypeInfo) (z : Value) (bytes : Nat) (ht : P.underlying t = some (.slice e)) (hi : P.info? e = some i) (hz : i.zero = some z)
    (hsize : i.size = 1) (hby : i.bytes = bytes) (hzs : z.cells.size = 1)
    (v : Value) (n : Nat) (xs : List Value) (hs : a.eval s = v) (hown : w.ownsRow base e 1 v n xs)
    (B : Nat) (A : Option Addr) (m c : Nat) (nv : Nat → Value) (hx : a.eval x = .slice A m c) (hr : Row w B A m nv) (h1 : ∀ j, (nv j).oneCell' = true)
    (h63 : n + m ≤ maxLen) (hbytes : (n + m) * bytes ≤ 140737488355328) (hbase : base ≤ w.heap.size)
    (h : ∀ v' w', w'.ownsRow base e 1 v' (n + m) (xs ++ (List.range m).map nv) → w.grownBy w' v.ownBlock → (v'.ownBlock = v.ownBlock ∨ v'.ownBlock = some w.heap.size) → K (a.put o.dst v') w') : o.wp P a w K Q := by
  obtain ⟨v', w', hrun, h2, h3, h4⟩ := run_append_src (P := P) w base t o.type e i z bytes ht hi hz hsize hby hzs v n xs hown B A m c nv hr h1 h63 hbytes hbase
  unfold Oper.wp execOp
  simp only [ho, resolve, invoke, builtin, Sem.run_bind, Sem.run_pure, Result.andThen_ok, List.map_toArray, List.map_cons, List.map_nil, hs, hx, hrun]
  exact h v' w' h2 h3 h4

theorem wpList_append_src {ops : Array Oper} {rest : List Oper} {o : Oper} {a : Act} {Q : Exit → Act → World → Prop} (hgd : o.guard = none) (s x : Operand) (t : TypeId)
    (ho : o.op = .call { callee := .builtin .append, args := #[s, x], argTypes := #[t, t] })
    (base : Nat) (e : TypeId) (i : TypeInfo) (z : Value) (bytes : Nat) (ht : P.underlying t = some (.slice e)) (hi : P.info? e = some i) (hz : i.zero = some z)
    (hsize : i.size = 1) (hby : i.bytes = bytes) (hzs : z.cells.size = 1)
    (v : Value) (n : Nat) (xs : List Value) (hs : a.eval s = v) (hown : w.ownsRow base e 1 v n xs)
    (B : Nat) (A : Option Addr) (m c : Nat) (nv : Nat → Value) (hx : a.eval x = .slice A m c) (hr : Row w B A m nv) (h1 : ∀ j, (nv j).oneCell' = true)
    (h63 : n + m ≤ maxLen) (hbytes : (n + m) * bytes ≤ 140737488355328) (hbase : base ≤ w.heap.size)
    (h : ∀ v' w', w'.ownsRow base e 1 v' (n + m) (xs ++ (List.range m).map nv) → w.grownBy w' v.ownBlock → (v'.ownBlock = v.ownBlock ∨ v'.ownBlock = some w.heap.size) → wpList P ops Q rest (a.put o.dst v') w') : wpList P ops Q (o :: rest) a w :=
  wpList_plain hgd fun _ hK => wp_append_src w s x t ho base e i z bytes ht hi hz hsize hby hzs v n xs hs hown B A m c nv hx hr h1 h63 hbytes hbase fun v' w' h2 h3 h4 => hK _ _ (h v' w' h2 h3 h4)

/-- append of one element, which lies in a block that was just laid -/
theorem wpList_append_one {ops : Array Oper} {rest : List Oper} {o : Oper} {a : Act} {Q : Exit → Act → World → Prop} (hgd : o.guard = none) (s x : Operand) (t : TypeId)
    (ho : o.op = .call { callee := .builtin .append, args := #[s, x], argTypes := #[t, t] })
    (base : Nat) (e : TypeId) (i : TypeInfo) (z : Value) (bytes : Nat) (ht : P.underlying t = some (.slice e)) (hi : P.info? e = some i) (hz : i.zero = some z)
    (hsize : i.size = 1) (hby : i.bytes = bytes) (hzs : z.cells.size = 1)
    (v : Value) (n : Nat) (xs : List Value) (hs : a.eval s = v) (hown : w.ownsRow base e 1 v n xs)
    (u : Value) (hx : a.eval x = .slice (some ⟨w.heap.size, 0, none⟩) 1 1) (h1 : u.oneCell' = true)
    (h63 : n + 1 ≤ maxLen) (hbytes : (n + 1) * bytes ≤ 140737488355328) (hbase : base ≤ w.heap.size)
    (h : ∀ v' w', w'.ownsRow base e 1 v' (n + 1) (xs ++ [u]) → Below base w w' → wpList P ops Q rest (a.put o.dst v') w') : wpList P ops Q (o :: rest) a (w.alloc (.cells #[u] e)) := by
  have hr : Row (w.alloc (.cells #[u] e)) (w.heap.size + 1) (some ⟨w.heap.size, 0, none⟩) 1 (fun _ => u) := fun _ => ⟨w.heap.size, 0, rfl, by omega, fun j hj => by
    obtain rfl : j = 0 := by omega
    exact (Blk.new w e #[u]).cell 0⟩
  refine wpList_append_src (P := P) (w.alloc (.cells #[u] e)) hgd s x t ho base e i z bytes ht hi hz hsize hby hzs v n xs hs (hown.alloc _) (w.heap.size + 1) _ 1 1 (fun _ => u) hx hr (fun _ => h1) h63 hbytes (by simp; omega) fun v' w' h2 h3 _ => ?_
  refine h v' w' (by simpa using h2) ?_
  refine ((Below.refl base w).alloc hbase _).grown h3 (by simp; omega) fun k hk => ?_
  exact (hown.lt k hk).1
end
end Go.Proofs.YthadfbekfbfkpaaGreat
namespace Go.Proofs.YthadfbekfbfkpaaGreat
open Go.RowKit

/-- the string of n bytes -/
def bytesOf (n : Nat) (z : Nat → Int) : ByteArray := strOfNums ((List.range n).map z)
theorem bytesOf_size (n : Nat) (z : Nat → Int) : (bytesOf n z).size = n := by simp [bytesOf, strOfNums_size]
theorem bytesOf_congr {n : Nat} {z y : Nat → Int} (h : ∀ j, j < n → z j = y j) : bytesOf n z = bytesOf n y := by
  unfold bytesOf
  congr 1
  exact List.map_congr_left fun j hj => h j (by simpa using hj)

theorem row_string {P : Program} {w : World} {B n : Nat} {A : Option Addr} {z : Nat → Int} (src dst e : TypeId) (hs : P.underlying src = some (.slice e)) (he : P.underlying e = some (.int .u8)) (hd : P.underlying dst = some .string)
    (h : Row w B A n (fun j => .int .u8 (z j))) (c : Nat) : (convert src dst (.slice A n c)).run P w = .ok (.string (bytesOf n z)) w := by
  rcases Nat.eq_zero_or_pos n with h0 | h0
  · subst h0
    rw [run_convert_bytes_string w src dst e A 0 c hs he hd]
    cases A with
    | none => simp [Conv.bytesToString, bytesOf, strOfNums]; rfl
    | some a =>
      rw [run_bytesToString (P := P) w a 0 c [] (by simp [loadCells, loadCellsFrom])]
      rfl
  · obtain ⟨b, off, rfl, _, hc⟩ := h h0
    refine run_convert_bytes_arg (P := P) w src e hs he b off n c ((List.range n).map z) (by simp) (fun i hi => ?_) dst hd
    rw [hc i hi]
    simp [List.getD, hi]
end Go.Proofs.YthadfbekfbfkpaaGreat
namespace Go.Proofs.YthadfbekfbfkpaaGreat
open Go.RowKit

theorem Tryz.infoInt : (Tryz.prog.info? 3).map (fun i => (i.zero, i.size, i.bytes)) = some (some (.int .i64 0), 1, 8) := by kernel_rfl
theorem Tryz.infoByte : (Tryz.prog.info? 5).map (fun i => (i.zero, i.size, i.bytes)) = some (some (.int .u8 0), 1, 1) := by kernel_rfl
theorem make_bytes (n : Nat) (hn : n ≤ 1000000) (w : World) : (Instr.makeSlice 46 (.int .i64 (n : Int)) (.int .i64 (n : Int))).run Tryz.prog w = .ok (.slice (some ⟨w.heap.size, 0, none⟩) n n) (w.alloc (.cells (madeCells #[.int .u8 0] n) 5)) := by
  obtain ⟨i, hi, hz, hs, hb⟩ := info_parts Tryz.infoByte
  have h := run_make (P := Tryz.prog) w 46 5 i (.int .u8 0) Tryz.underlying46 hi hz .i64 .i64 (n : Int) (n : Int) (by omega) (by omega) (by rw [hb]; omega) (by omega)
  rw [h, hs]; simp; rfl
/-- a slice of one block, from its start -/
theorem rowIs_row {w : World} {g n B : Nat} {t : TypeId} {f v : Nat → Value} (h : w.rowIs g t n f) (hg : g < B) (e : ∀ j, j < n → f j = v j) : Row w B (some ⟨g, 0, none⟩) n v :=
  fun _ => ⟨g, 0, rfl, hg, fun j hj => by rw [Nat.zero_add, h.cell hj, e j hj]⟩
theorem own_row {w : World} {base e g n cap : Nat} {xs : List Value} {v : Nat → Value} (h : w.ownsRow base e 1 (.slice (some ⟨g, 0, none⟩) n cap) n xs) (hv : ∀ j, j < n → xs[j]? = some (v j)) {B : Nat} (hg : g < B) : Row w B (some ⟨g, 0, none⟩) n v :=
  fun _ => ⟨g, 0, rfl, hg, fun j hj => by
    have := h.cells (g := g) rfl j _ (hv j hj)
    rw [Nat.zero_add]
    have e : (⟨g, 0, none⟩ : Addr).add j = ⟨g, j, none⟩ := by unfold Addr.add; split <;> simp_all
    rw [← e]; exact this⟩
theorem own_form {w : World} {base e size n : Nat} {v : Value} {xs : List Value} (h : w.ownsRow base e size v n xs) (hn : 0 < n) : ∃ g cap, v = .slice (some ⟨g, 0, none⟩) n cap ∧ base ≤ g ∧ g < w.heap.size := by
  rcases h.2 with ⟨_, hz⟩ | ⟨g, cap, cur, hv, hb, hh, _⟩
  · omega
  · exact ⟨g, cap, hv, hb, (Array.getElem?_eq_some_iff.1 hh).1⟩
theorem Row.far {w : World} {g n o : Nat} {v : Nat → Value} (h : Row w w.heap.size (some ⟨g, o, none⟩) n v) {p : Addr} (hg : g ≠ p.block) (u : Value) : Row (w.setCell p u) (w.setCell p u).heap.size (some ⟨g, o, none⟩) n v := fun hn => by
  obtain ⟨b, off, e, hb, hc⟩ := h hn
  obtain ⟨rfl, rfl⟩ : g = b ∧ o = off := by simpa using e
  exact ⟨g, o, rfl, by simpa using hb, fun j hj => (World.cell?_setCell_other w p _ u (fun e => hg (by subst e; rfl))).trans (hc j hj)⟩
theorem own_room {w : World} {base e size n : Nat} {v : Value} {xs : List Value} (h : w.ownsRow base e size v n xs) (hn : 0 < n) : ∃ g cap, v = .slice (some ⟨g, 0, none⟩) n cap ∧ base ≤ g ∧ g < w.heap.size ∧ n ≤ cap := by
  rcases h.2 with ⟨_, hz⟩ | ⟨g, cap, cur, hv, hb, hh, hc, _⟩
  · omega
  · exact ⟨g, cap, hv, hb, (Array.getElem?_eq_some_iff.1 hh).1, hc⟩
/-- a slice of the call's own: its block, if it has one, lies at or beyond base -/
def Fresh (base : Nat) (A : Option Addr) : Prop := ∀ a, A = some a → base ≤ a.block
theorem fresh_none (base : Nat) : Fresh base none := fun _ h => by cases h
theorem fresh_some {base g o : Nat} (h : base ≤ g) : Fresh base (some ⟨g, o, none⟩) := fun _ e => by cases e; exact h
theorem ownsRow_mono {w : World} {b1 b2 e size n : Nat} {v : Value} {xs : List Value} (h : w.ownsRow b2 e size v n xs) (hle : b1 ≤ b2) : w.ownsRow b1 e size v n xs := by
  obtain ⟨h0, h | ⟨g, cap, cur, h1, h2, h3⟩⟩ := h
  · exact ⟨h0, .inl h⟩
  · exact ⟨h0, .inr ⟨g, cap, cur, h1, by omega, h3⟩⟩
theorem own_any {w : World} {base e n : Nat} {v : Value} {xs : List Value} {f : Nat → Value} (h : w.ownsRow base e 1 v n xs) (hv : ∀ j, j < n → xs[j]? = some (f j)) : ∃ A cap, v = .slice A n cap ∧ n ≤ cap ∧ cap ≤ maxLen ∧ Fresh base A ∧ Row w w.heap.size A n f := by
  rcases h.2 with ⟨rfl, rfl⟩ | ⟨g, cap, cur, rfl, hb, hh, hc, hm, _⟩
  · exact ⟨none, 0, rfl, Nat.le_refl _, by decide, fresh_none _, Row.nil⟩
  · exact ⟨_, cap, rfl, hc, hm, fresh_some hb, own_row h hv (Array.getElem?_eq_some_iff.1 hh).1⟩
theorem Blk.put {w : World} {g D : Nat} {t : TypeId} {cs : Array Value} (h : Blk w g t cs) (hne : g ≠ D) (o : Obj) : Blk (w.putObj D o) g t cs := (World.putObj_heap_other hne).trans h
theorem Row.put {w : World} {n D : Nat} {A : Option Addr} {v : Nat → Value} (h : Row w w.heap.size A n v) {o : Obj} (hD : w.heap[D]? = some o) (ho : o.isCells = false) (o' : Obj) : Row (w.putObj D o') (w.putObj D o').heap.size A n v := fun hn => by
  obtain ⟨b, off, e, hb, hc⟩ := h hn
  exact ⟨b, off, e, by rw [World.putObj_size]; exact hb, fun j hj => cell_kept (hc j hj) (grownBy_putObj' w D o') (fun r e => by cases e; exact ⟨o, hD, ho⟩)⟩
theorem or_shift (a b k : Nat) (h : b < 2 ^ k) : a * 2 ^ k ||| b = a * 2 ^ k + b := by
  rw [← Nat.shiftLeft_eq, Nat.shiftLeft_add_eq_or_of_lt h]
/-- what is told of a slice of integers that came in -/
def IsRow (k : IntKind) (w : World) (a : Option Addr) (len cap : Nat) (zs : List Int) : Prop :=
  (a = none ∧ len = 0 ∧ cap = 0 ∧ zs = []) ∨
  ∃ x, a = some x ∧ len ≤ cap ∧ cap ≤ maxLen ∧ zs.length = cap ∧ (∀ i, i < zs.length → w.cell? (x.add i) = some (.int k (zs.getD i 0))) ∧ ∀ n ∈ zs, (Lit.int k n).wf = true
theorem isRow_row {k : IntKind} {w : World} {a : Option Addr} {len cap : Nat} {zs : List Int} (h : IsRow k w a len cap zs) : Row w w.heap.size a len (fun j => .int k (zs.getD j 0)) := by
  intro hn
  rcases h with ⟨_, h0, _⟩ | ⟨⟨b, off, spot⟩, rfl, hl, hm, hz, hc, _⟩
  · omega
  · have c0 := hc 0 (by omega)
    have hspot : spot = none := by simpa [Addr.add] using World.cell?_spot c0
    subst hspot
    have hadd : ∀ j, (⟨b, off, none⟩ : Addr).add j = ⟨b, off + j, none⟩ := fun j => by unfold Addr.add; split <;> simp_all
    refine ⟨b, off, rfl, ?_, fun j hj => ?_⟩
    · rw [hadd] at c0
      exact World.block_lt_of_cell? w _ c0
    · have := hc j (by omega)
      rw [hadd] at this
      exact this
theorem isRow_len {k : IntKind} {w : World} {a : Option Addr} {len cap : Nat} {zs : List Int} (h : IsRow k w a len cap zs) : len ≤ maxLen := by
  rcases h with ⟨_, h0, _⟩ | ⟨x, _, hl, hm, _⟩ <;> unfold maxLen at * <;> omega
theorem owns_empty (w : World) (e : TypeId) : (w.alloc (.cells #[] e)).ownsRow w.heap.size e 1 (.slice (some ⟨w.heap.size, 0, none⟩) 0 0) 0 [] :=
  World.ownsRow_made w #[] 0 (Nat.le_refl _) (by unfold maxLen; omega) rfl
theorem own_some {w w0 : World} {base e n b : Nat} {v : Value} {xs : List Value} (h : w.ownsRow base e 1 v n xs) (hv : v.ownBlock = (Value.slice (some ⟨b, 0, none⟩) 0 0).ownBlock ∨ v.ownBlock = some w0.heap.size) : ∃ g cap, v = .slice (some ⟨g, 0, none⟩) n cap := by
  rcases h.2 with ⟨rfl, _⟩ | ⟨g, cap, cur, hv, _⟩
  · simp [Value.ownBlock] at hv
  · exact ⟨g, cap, hv⟩
theorem copy_below {w w1 : World} {e : TypeId} (h : (w.alloc (.cells #[] e)).grownBy w1 (Value.slice (some ⟨w.heap.size, 0, none⟩) 0 0).ownBlock) : Below w.heap.size w w1 :=
  ((Below.refl w.heap.size w).alloc (Nat.le_refl _) _).grown h (by simp) fun k hk => by
    have : w.heap.size = k := by simpa [Value.ownBlock] using hk
    omega
theorem own_row_map {w : World} {base e g n cap : Nat} {v : Nat → Value} (h : w.ownsRow base e 1 (.slice (some ⟨g, 0, none⟩) (0 + n) cap) (0 + n) ([] ++ (List.range n).map v)) : Row w w.heap.size (some ⟨g, 0, none⟩) n v := by
  rw [Nat.zero_add] at h
  exact own_row h (fun j hj => by simp [hj]) (by have := h.lt g (by simp [Value.ownBlock]); omega)
/-- A row of values that a block does not hold lies in another block. -/
theorem Row.apart {w : World} {A : Option Addr} {n g : Nat} {v : Nat → Value} {t : TypeId} {cs : Array Value} (h : Row w w.heap.size A n v) (hB : Blk w g t cs) (hne : ∀ i : Nat, i < cs.size → ∀ j, cs[i]? ≠ some (v j)) {p : Addr} (hp : p.block = g) (u : Value) : Row (w.setCell p u) (w.setCell p u).heap.size A n v := fun hn => by
  obtain ⟨b, off, e, hb, hc⟩ := h hn
  refine ⟨b, off, e, by simpa using hb, fun j hj => (World.cell?_setCell_other w p _ u (fun e => ?_)).trans (hc j hj)⟩
  have h1 := hc j hj
  obtain rfl : b = g := (congrArg Addr.block e).symm.trans hp
  rw [hB.cell] at h1
  rcases Nat.lt_or_ge (off + j) cs.size with hl | hl
  · exact hne _ hl j h1
  · rw [Array.getElem?_eq_none hl] at h1; cases h1
/-- blocks below n0 lie as they lay, but for block g -/
def KeepBut (n0 g : Nat) (A B : World) : Prop := ∀ b, b < n0 → b ≠ g → B.heap[b]? = A.heap[b]?
theorem KeepBut.refl (n0 g : Nat) (A : World) : KeepBut n0 g A A := fun _ _ _ => rfl
theorem KeepBut.trans {n0 g : Nat} {A B C : World} (h : KeepBut n0 g A B) (k : KeepBut n0 g B C) : KeepBut n0 g A C := fun b h1 h2 => (k b h1 h2).trans (h b h1 h2)
theorem KeepBut.of_below {n0 g : Nat} {A B : World} (h : Below n0 A B) : KeepBut n0 g A B := fun b h1 _ => h.block b h1
theorem keepBut_b {n0 g : Nat} {w : World} (hn : n0 ≤ w.heap.size) (W : World) (l : Nat) (o o' : Obj) (hl : w.heap.size ≤ l) (h : W.heap[l]? = some o) (_ : o.isCells = false) (_ : o.isWalk = false) : KeepBut n0 g W (W.putObj l o') :=
  KeepBut.of_below (belowK_b hn W l o o' hl h ‹_› ‹_›)
theorem cell_of_block {A B : World} {p : Addr} (h : B.heap[p.block]? = A.heap[p.block]?) : B.cell? p = A.cell? p := by simp [World.cell?, h]
theorem KeepBut.blk {n0 g : Nat} {A B : World} (h : KeepBut n0 g A B) {b : Nat} {t : TypeId} {cs : Array Value} (hB : Blk A b t cs) (h1 : b < n0) (h2 : b ≠ g) : Blk B b t cs := (h b h1 h2).trans hB
theorem and_one : ∀ y, y < 256 → (bits BinOp.and .u8 ((y : Nat) : Int) 1 == 1) = (y % 2 == 1) := by decide +kernel
theorem below_step {w w1 w2 : World} (h : Below w.heap.size w w1) (h2 : Below w1.heap.size w1 w2) : Below w.heap.size w w2 := h.trans (h2.mono h.size)
theorem below_new {w w1 : World} (h : Below w.heap.size w w1) (o : Obj) : Below w.heap.size w (w1.alloc o) := h.alloc h.size o
theorem lit_bytes {w : World} {B g : Nat} {t : TypeId} (l : List Int) (h : Blk w g t (l.map (Value.int .u8)).toArray) (hB : g < B) : Row w B (some ⟨g, 0, none⟩) l.length (fun j => .int .u8 (l.getD j 0)) :=
  fun _ => ⟨g, 0, rfl, hB, fun j hj => by rw [Nat.zero_add, h.cell]; simp [hj, List.getD]⟩
theorem lit_bools {w : World} {B g : Nat} {t : TypeId} (l : List Bool) (h : Blk w g t (l.map Value.bool).toArray) (hB : g < B) : Row w B (some ⟨g, 0, none⟩) l.length (fun j => .bool (l.getD j false)) :=
  fun _ => ⟨g, 0, rfl, hB, fun j hj => by rw [Nat.zero_add, h.cell]; simp [hj, List.getD]⟩
theorem isRow_u8 {w : World} {a : Option Addr} {len cap : Nat} {zs : List Int} (h : IsRow .u8 w a len cap zs) : len ≤ cap ∧ ∀ j, j < len → 0 ≤ zs.getD j 0 ∧ zs.getD j 0 < 256 := by
  rcases h with ⟨_, h0, hc, _⟩ | ⟨x, _, hl, hm, hz, _, hw⟩
  · exact ⟨by omega, fun j hj => by omega⟩
  · refine ⟨hl, fun j hj => ?_⟩
    have hj2 : j < zs.length := by omega
    have h1 := hw (zs.getD j 0) (by simp [List.getD, hj2])
    have h2 := (by simpa [Lit.wf] using h1 : IntKind.u8.min ≤ zs.getD j 0 ∧ zs.getD j 0 ≤ IntKind.u8.max)
    rw [show IntKind.u8.min = 0 from rfl, show IntKind.u8.max = 255 from rfl] at h2
    omega
theorem row_new {w : World} {A : Option Addr} {n : Nat} {v : Nat → Value} (h : Row w w.heap.size A n v) (o : Obj) : Row (w.alloc o) (w.alloc o).heap.size A n v := (h.alloc (Nat.le_refl _) o).more (by simp)
theorem last_bounds (b : Nat → Bool) (i : Nat) (h : b i = true) : HM.last b (i + 1) = i + 1 := by unfold HM.last; rw [if_pos h]
theorem last_skip (b : Nat → Bool) (i : Nat) (h : b i = false) : HM.last b (i + 1) = HM.last b i := by
  show (if b i = true then i + 1 else HM.last b i) = _
  rw [if_neg (by simp [h])]
theorem or_bits : ∀ r, r < 8 → ∀ q, q < 2 ^ r → bits BinOp.or .u8 ((q * 2 ^ (8 - r) : Nat) : Int) (128 / 2 ^ r) = ((q * 2 ^ (8 - r) + 2 ^ (7 - r) : Nat) : Int) := by decide +kernel
theorem or_pk (b : Nat → Bool) (i : Nat) (h : b i = true) : bits BinOp.or .u8 ((HM.pk b i (i / 8) : Nat) : Int) (128 / 2 ^ (i % 8)) = ((HM.pk b (i + 1) (i / 8) : Nat) : Int) := by
  obtain ⟨q, hq, e⟩ := HM.pk_form b (i / 8) (i % 8) (by omega)
  rw [show 8 * (i / 8) + i % 8 = i by omega] at e
  rw [HM.pk_hit b i h, e]
  exact or_bits (i % 8) (by omega) q hq
theorem HM.pk_last (b : Nat → Bool) (j : Nat) : ∀ n, HM.pk b n j = HM.pk b (HM.last b n) j
  | 0 => rfl
  | n + 1 => by
    by_cases h : b n = true
    · rw [last_bounds b n h]
    · have h' : b n = false := by simpa using h
      rw [HM.pk_skip b n j h', last_skip b n h', HM.pk_last b j n]
theorem HM.bit_pk (b : Nat → Bool) (n j : Nat) : HM.pk b n (j / 8) / 2 ^ (7 - j % 8) % 2 = if j < n ∧ b j = true then 1 else 0 := by
  by_cases h1 : n ≤ 8 * (j / 8)
  · rw [HM.pk_far b n _ h1, if_neg (by omega)]; simp
  · by_cases h2 : 8 * (j / 8) + 8 ≤ n
    · have hd := HM.pk_done b (n - (8 * (j / 8) + 8)) (8 * (j / 8) + 8) (j / 8) (by omega)
      rw [show 8 * (j / 8) + 8 + (n - (8 * (j / 8) + 8)) = n by omega] at hd
      rw [hd]
      have := HM.pk_bit b (j / 8) 8 (Nat.le_refl _) (j % 8) (by omega)
      rw [show 8 * (j / 8) + j % 8 = j by omega] at this
      rw [this]
      have hj : j < n := by omega
      simp [hj]
    · obtain ⟨r, hr⟩ : ∃ r, n = 8 * (j / 8) + r := ⟨n - 8 * (j / 8), by omega⟩
      by_cases ht : j % 8 < r
      · have := HM.pk_bit b (j / 8) r (by omega) (j % 8) ht
        rw [show 8 * (j / 8) + j % 8 = j by omega, ← hr] at this
        rw [this]
        have hj : j < n := by omega
        simp [hj]
      · obtain ⟨q, _, e⟩ := HM.pk_form b (j / 8) r (by omega)
        rw [← hr] at e
        rw [e, if_neg (by omega)]
        have e2 : 2 ^ (8 - r) = 2 ^ (7 - j % 8) * (2 * 2 ^ (j % 8 - r)) := by
          rw [← Nat.mul_assoc, Nat.mul_comm _ 2, Nat.mul_assoc, ← Nat.pow_add, show 7 - j % 8 + (j % 8 - r) = 7 - r by omega, show 8 - r = (7 - r) + 1 by omega, Nat.pow_succ, Nat.mul_comm]
        rw [e2, ← Nat.mul_assoc, Nat.mul_comm q, Nat.mul_assoc, Nat.mul_div_cancel_left _ (Nat.two_pow_pos _), Nat.mul_comm q, Nat.mul_assoc]
        omega
theorem HM.byte_ext (x y : Nat) (hx : x < 256) (hy : y < 256) (h : ∀ t, t < 8 → x / 2 ^ (7 - t) % 2 = y / 2 ^ (7 - t) % 2) : x = y := by
  have h0 := h 0 (by decide); have h1 := h 1 (by decide); have h2 := h 2 (by decide); have h3 := h 3 (by decide)
  have h4 := h 4 (by decide); have h5 := h 5 (by decide); have h6 := h 6 (by decide); have h7 := h 7 (by decide)
  simp at h0 h1 h2 h3 h4 h5 h6 h7
  omega
theorem HM.hb_at (z : Nat → Int) (J t : Nat) (ht : t < 8) : HM.hb z (8 * J + t) = ((z J).toNat / 2 ^ (7 - t) % 2 == 1) := by
  unfold HM.hb; rw [show (8 * J + t) / 8 = J by omega, show (8 * J + t) % 8 = t by omega]
/-- the bits of a byte, packed: the byte -/
theorem HM.pk_hb (z : Nat → Int) (J : Nat) (h0 : 0 ≤ z J) (h1 : z J < 256) : ((HM.pk (HM.hb z) (8 * J + 8) J : Nat) : Int) = z J := by
  have : HM.pk (HM.hb z) (8 * J + 8) J = (z J).toNat := by
    refine HM.byte_ext _ _ (HM.pk_lt _ _ _) (by omega) fun t ht => ?_
    rw [HM.pk_bit (HM.hb z) J 8 (Nat.le_refl _) t ht, HM.hb_at z J t ht]
    have := Nat.mod_two_eq_zero_or_one ((z J).toNat / 2 ^ (7 - t))
    rcases this with h | h <;> simp [h]
  omega
theorem HM.pk_all (z : Nat → Int) (N J : Nat) (hN : 8 * J + 8 ≤ N) (h0 : 0 ≤ z J) (h1 : z J < 256) : ((HM.pk (HM.hb z) N J : Nat) : Int) = z J := by
  have := HM.pk_done (HM.hb z) (N - (8 * J + 8)) (8 * J + 8) J (Nat.le_refl _)
  rw [show 8 * J + 8 + (N - (8 * J + 8)) = N by omega] at this
  rw [this, HM.pk_hb z J h0 h1]
theorem HM.last_last (b : Nat → Bool) (n : Nat) : HM.last b (HM.last b n) = HM.last b n :=
  HM.last_unique b _ _ (Nat.le_refl _) (fun h => HM.last_set b n h) (fun j h1 h2 => by omega)
theorem bit_hb (z : Nat → Int) (i x : Nat) (hx : z (i / 8) = (x : Int)) (h256 : x < 256) : (bits BinOp.and .u8 ((x : Int) / 2 ^ (7 - i % 8)) 1 == 1) = HM.hb z i := by
  have e : ((x : Int) / 2 ^ (7 - i % 8)) = ((x / 2 ^ (7 - i % 8) : Nat) : Int) := by simp
  rw [e, and_one _ (Nat.lt_of_le_of_lt (Nat.div_le_self _ _) h256)]
  unfold HM.hb
  rw [hx, Int.toNat_natCast]
theorem own_some_cap {w w0 : World} {base e n b : Nat} {v : Value} {xs : List Value} (h : w.ownsRow base e 1 v n xs) (hv : v.ownBlock = (Value.slice (some ⟨b, 0, none⟩) 0 0).ownBlock ∨ v.ownBlock = some w0.heap.size) : ∃ g cap, v = .slice (some ⟨g, 0, none⟩) n cap ∧ n ≤ cap := by
  rcases h.2 with ⟨rfl, _⟩ | ⟨g, cap, cur, hv, _, _, hc, _⟩
  · simp [Value.ownBlock] at hv
  · exact ⟨g, cap, hv, hc⟩
set_option maxRecDepth 100000 in
set_option maxHeartbeats 800000 in
theorem clone_own (A : Option Addr) (n c : Nat) (z : Nat → Int) (w : World) (hn : n ≤ 140737488355328) (hr : Row w w.heap.size A n (fun j => .int .u8 (z j))) :
    Calls Tryz.prog 79 #[.slice A n c] w fun e w' => ∃ A2 c2, e = .returned (.slice A2 n c2) ∧ n ≤ c2 ∧ w'.ownsRow w.heap.size 5 1 (.slice A2 n c2) n ((List.range n).map (fun j => .int .u8 (z j))) ∧ Below w.heap.size w w' := by
  have HR := Lib.hid hr
  clear hr
  obtain ⟨i0, hi, hz0, hz1, hz2⟩ := info_parts Tryz.infoByte
  have hnil := Lib.run_eql_slice_nil (P := Tryz.prog) (t := 46)
  cases A with
  | none =>
    have h0 : n = 0 := by
      rcases Nat.eq_zero_or_pos n with h0 | h0
      · exact h0
      · obtain ⟨b, off, h, _⟩ := HR.out h0
        cases h
    subst h0
    go_enter Tryz.func79, Tryz.ntmps79
    go_wp2
    go_ret
    exact ⟨none, 0, rfl, Nat.le_refl _, World.ownsRow_nil _ _ _ _, Below.refl _ _⟩
  | some ad =>
    go_enter Tryz.func79, Tryz.ntmps79
    go_wp2_with (at_builtin; refine wpList_append_src _ rfl _ _ 46 rfl w.heap.size 5 i0 (.int .u8 0) 1 Tryz.underlying46 hi hz0 hz1 hz2 rfl _ _ _ rfl (owns_empty w 5) w.heap.size (some ad) n c (fun j => .int .u8 (z j)) rfl (HR.out.alloc (Nat.le_refl _) _) (fun _ => rfl) (by unfold maxLen; omega) (by omega) (by simp) ?_; intro v1 w1 hown1 hg1 hv1)
    go_ret
    obtain ⟨g0, c0, rfl, hcap⟩ := own_some_cap hown1 hv1
    exact ⟨some ⟨g0, 0, none⟩, c0, by simp, by omega, by simpa using hown1, copy_below hg1⟩
theorem own_map_row {w : World} {base e n : Nat} {A : Option Addr} {c : Nat} {f : Nat → Value} (h : w.ownsRow base e 1 (.slice A n c) n ((List.range n).map f)) : Fresh base A ∧ Row w w.heap.size A n f := by
  obtain ⟨A', c', hv, _, _, hf, hr⟩ := own_any (f := f) h (fun j hj => by simp [hj])
  cases hv
  exact ⟨hf, hr⟩
theorem clone_any (A : Option Addr) (n c : Nat) (z : Nat → Int) (w : World) (hn : n ≤ 140737488355328) (hr : Row w w.heap.size A n (fun j => .int .u8 (z j))) :
    Calls Tryz.prog 79 #[.slice A n c] w fun e w' => ∃ A2 c2, e = .returned (.slice A2 n c2) ∧ n ≤ c2 ∧ Row w' w'.heap.size A2 n (fun j => .int .u8 (z j)) ∧ Fresh w.heap.size A2 ∧ Below w.heap.size w w' :=
  (clone_own A n c z w hn hr).mono fun _ _ ⟨A2, c2, he, hc, ho, hb⟩ => ⟨A2, c2, he, hc, (own_map_row ho).2, (own_map_row ho).1, hb⟩
end Go.Proofs.YthadfbekfbfkpaaGreat
namespace Go.Proofs.YthadfbekfbfkpaaGreat
open Go.RowKit
set_option linter.unusedVariables false

theorem wp_let {P : Program} {c : Code} {Q : Exit → Act → World → Prop} {a : Act} {w : World} (R : World → Prop) (h : R w) (k : ∀ w', R w' → c.wp P Q a w') : c.wp P Q a w := k w h
theorem then_let {K : Act → World → Prop} {Q : Exit → Act → World → Prop} {a : Act} {w : World} (R : World → Prop) (h : R w) (k : ∀ w', R w' → Exit.then K Q .normal a w') : Exit.then K Q .normal a w := k w h
/-- a guarded operation that is wanted; a load of a row among them -/
theorem wpList_want {P : Program} {ops : Array Oper} {rest : List Oper} {o : Oper} {a : Act} {w : World} {Q : Exit → Act → World → Prop} (hw : Region.wanted o (yielded ops a.tmps) = true) (h : ∀ K : Act → World → Prop, (∀ a w, wpList P ops Q rest a w → K a w) → o.wp P a w K Q) : wpList P ops Q (o :: rest) a w :=
  wpList_step fun K hK => by simp only [hw, if_true]; exact h K hK
theorem wpList_load_rowG {P : Program} {ops : Array Oper} {rest : List Oper} {o : Oper} {a : Act} {w : World} {Q : Exit → Act → World → Prop} (hgd : Region.wanted o (yielded ops a.tmps) = true) (ty : TypeId) (x : Operand) (ho : o.op = .load ty x)
    (g : Nat) (hx : a.eval x = .pointer (some ⟨g, 0, none⟩)) (t : TypeId) (cs : Array Value) (fr : Nat × Nat) (d : TypeDesc) (hg : w.heap[g]? = some (.cells cs t fr))
    (hu : P.underlying ty = some d) (hd : (match d with | .struct _ | .array _ _ => true | _ => false) = true) (hi : (P.info? ty).map (·.size) = some cs.size)
    (h : wpList P ops Q rest (a.put o.dst (.agg cs)) w) : wpList P ops Q (o :: rest) a w :=
  wpList_want hgd fun _ hK => wp_load_row ty x ho g hx t cs fr d hg hu hd hi (hK _ _ h)
/-- a world that has W's blocks unchanged -/
structure ExtT (W : World) where
  v : World
  h : Below W.heap.size W v
instance ExtT.inh (W : World) : Nonempty (ExtT W) := ⟨⟨W, Below.refl _ _⟩⟩
theorem ExtT.cell {W : World} (e : ExtT W) {p : Addr} {x : Value} (hc : W.cell? p = some x) (hp : p.block < W.heap.size) : e.v.cell? p = some x := (e.h.cell hp).trans hc
def ExtT.next {W : World} (e : ExtT W) {w' : World} (h : Below e.v.heap.size e.v w') : ExtT W := ⟨w', e.h.trans (h.mono e.h.size)⟩
theorem wp_region_extT {P : Program} {id : Nat} {Q : Exit → Act → World → Prop} {a : Act} {w : World} {l : List Oper} (hm : P.follows .mixedOrders = true) (hB : Region.lexB .any l.toArray = true)
    (h : wpQuiet P l.toArray (fun w' => ∃ e : ExtT w, w' = e.v) (fun a' => ∀ w', (∃ e : ExtT w, w' = e.v) → Q .normal a' w') l a) : (Code.region id l.toArray true).wp P Q a w :=
  wp_region_quiet (C := fun w' => ∃ e : ExtT w, w' = e.v) hm hB ⟨⟨w.drew, (Below.refl _ w).drew⟩, rfl⟩ (by simpa using h)
/-- a callee's contract among them -/
theorem Calls.ext_ofT {P : Program} {f : FuncId} {args : Array Value} {W : World} {e : ExtT W} {v : Value} (h : Calls P f args e.v fun en w' => en = .returned v ∧ Below e.v.heap.size e.v w') : Calls P f args e.v fun en w'' => en = .returned v ∧ ∃ e' : ExtT W, w'' = e'.v :=
  h.mono fun _ _ ⟨h1, h2⟩ => ⟨h1, e.next h2, rfl⟩
/-- blocks outside F are as they were -/
structure KeepF (F : Nat → Prop) (w w' : World) : Prop where
  os : w'.os = w.os
  tape : w'.tape = w.tape
  output : w'.output = w.output
  size : w.heap.size ≤ w'.heap.size
  block : ∀ k, k < w.heap.size → ¬ F k → w'.heap[k]? = w.heap[k]?
section
variable {F G : Nat → Prop} {w w1 w2 w' : World}
theorem KeepF.refl : KeepF F w w := ⟨rfl, rfl, rfl, Nat.le_refl _, fun _ _ _ => rfl⟩
theorem KeepF.of_below (h : Below w.heap.size w w') : KeepF F w w' := ⟨h.os, h.tape, h.output, h.size, fun k hk _ => h.block k hk⟩
theorem KeepF.of_row {g : Nat} (h : w.grownBy w' (some g)) (hg : F g) : KeepF F w w' := ⟨h.os, h.tape, h.output, h.size, fun k hk hn => h.block k hk (fun e => by cases e; exact hn hg)⟩
theorem KeepF.of_own {v : Value} (h : w.grownBy w' v.ownBlock) (hg : ∀ k, v.ownBlock = some k → F k) : KeepF F w w' := ⟨h.os, h.tape, h.output, h.size, fun k hk hn => h.block k hk (fun e => hn (hg k e.symm))⟩
theorem KeepF.trans (h : KeepF F w w1) (k : KeepF G w1 w2) (hs : ∀ b, b < w.heap.size → G b → F b) : KeepF F w w2 :=
  ⟨k.os.trans h.os, k.tape.trans h.tape, k.output.trans h.output, Nat.le_trans h.size k.size, fun b hb hn => (k.block b (Nat.lt_of_lt_of_le hb h.size) (fun hg => hn (hs b hb hg))).trans (h.block b hb hn)⟩
theorem KeepF.mono (h : KeepF F w w') (hs : ∀ b, F b → G b) : KeepF G w w' := ⟨h.os, h.tape, h.output, h.size, fun b hb hn => h.block b hb (fun hf => hn (hs b hf))⟩
theorem KeepF.below {B : Nat} (hb : Below B w w1) (h : KeepF F w1 w') (hF : ∀ k, F k → B ≤ k) (hB : B ≤ w1.heap.size) : Below B w w' :=
  ⟨h.os.trans hb.os, h.tape.trans hb.tape, h.output.trans hb.output, Nat.le_trans hb.size h.size, fun k hk => (h.block k (by omega) (fun hf => by have := hF k hf; omega)).trans (hb.block k hk)⟩
theorem KeepF.blk {b : Nat} {t : TypeId} {cs : Array Value} (h : KeepF F w w') (hB : Blk w b t cs) (hn : ¬ F b) : Blk w' b t cs := (h.block b hB.lt hn).trans hB
theorem KeepF.row {B n : Nat} {A : Option Addr} {v : Nat → Value} (h : KeepF F w w') (hr : Row w B A n v) (hB : B ≤ w.heap.size) (hg : ∀ a, A = some a → n ≠ 0 → ¬ F a.block) : Row w' B A n v := fun hn => by
  obtain ⟨b, off, e, hb, hc⟩ := hr hn
  refine ⟨b, off, e, hb, fun j hj => ?_⟩
  exact (World.cell?_of_block (a := ⟨b, off + j, none⟩) (h.block b (by omega) (hg _ e (by omega)))).trans (hc j hj)
theorem KeepF.drew (h : KeepF F w w') : KeepF F w w'.drew := ⟨h.os, h.tape, h.output, h.size, h.block⟩
theorem KeepF.alloc (h : KeepF F w w') (o : Obj) : KeepF F w (w'.alloc o) :=
  ⟨h.os, h.tape, h.output, Nat.le_trans h.size (by simp), fun k hk hn => (Below.heap_alloc w' o k (Nat.lt_of_lt_of_le hk h.size)).trans (h.block k hk hn)⟩
theorem KeepF.setCell (h : KeepF F w w') {p : Addr} (hp : F p.block) (u : Value) : KeepF F w (w'.setCell p u) :=
  ⟨h.os, h.tape, h.output, by simpa using h.size, fun k hk hn => (Below.heap_setCell w' p u k (fun e => hn (e ▸ hp))).trans (h.block k hk hn)⟩
theorem KeepF.cell {p : Addr} (h : KeepF F w w') (hp : p.block < w.heap.size) (hn : ¬ F p.block) : w'.cell? p = w.cell? p := World.cell?_of_block (h.block _ hp hn)
end

/-- the cells of a row behind many stores -/
def tsAll (cs : Array Value) : Nat → List Value → Array Value
  | _, [] => cs
  | o, v :: r => tsAll (cs.setIfInBounds o v) (o + 1) r
theorem tsAll_size : ∀ (vs : List Value) (o : Nat) (cs : Array Value), (tsAll cs o vs).size = cs.size
  | [], _, _ => rfl
  | v :: r, o, cs => by rw [tsAll, tsAll_size r]; simp
theorem tsAll_out : ∀ (vs : List Value) (o : Nat) (cs : Array Value) (j : Nat), j < o ∨ o + vs.length ≤ j → (tsAll cs o vs)[j]? = cs[j]?
  | [], _, _, _, _ => rfl
  | v :: r, o, cs, j, h => by
    rw [tsAll, tsAll_out r (o + 1) _ j (by simp at h; omega), Array.getElem?_setIfInBounds, if_neg (by simp at h; omega)]
theorem tsAll_in : ∀ (vs : List Value) (o : Nat) (cs : Array Value) (j : Nat), j < vs.length → o + j < cs.size → (tsAll cs o vs)[o + j]? = vs[j]?
  | [], _, _, _, h, _ => by simp at h
  | v :: r, o, cs, j, h, hs => by
    rw [tsAll]
    cases j with
    | zero =>
      rw [tsAll_out r (o + 1) _ (o + 0) (by omega), Array.getElem?_setIfInBounds, if_pos (by omega), if_pos (by omega)]; rfl
    | succ j =>
      have := tsAll_in r (o + 1) (cs.setIfInBounds o v) j (by simpa using h) (by simp; omega)
      rw [show o + (j + 1) = o + 1 + j by omega, this]; rfl
theorem ts_setCells {g : Nat} {t : TypeId} : ∀ (vs : List Value) (o : Nat) (w : World) (cs : Array Value), Blk w g t cs → Blk (w.setCells g o vs) g t (tsAll cs o vs)
  | [], _, _, _, h => h
  | v :: r, o, w, cs, h => ts_setCells r (o + 1) (w.setCell ⟨g, o, none⟩ v) (cs.setIfInBounds o v) (h.set_ o v)
theorem ts_keep {F : Nat → Prop} {b : Nat} (hb : F b) : ∀ (vs : List Value) (o : Nat) (w : World), KeepF F w (w.setCells b o vs)
  | [], _, _ => KeepF.refl
  | v :: r, o, w => ((KeepF.refl (F := F) (w := w)).setCell (p := ⟨b, o, none⟩) hb v).trans (ts_keep hb r (o + 1) _) (fun _ _ h => h)

/-- the slice (A, n, c) of elements of sz cells, type e, is a piece of a block and holds xs -/
structure SL (w : World) (e : TypeId) (sz : Nat) (A : Option Addr) (n c : Nat) (xs : List Value) : Prop where
  len : xs.length = n * sz
  at_ : (A = none ∧ n = 0 ∧ c = 0) ∨ ∃ b o cur, A = some ⟨b, o, none⟩ ∧ w.heap[b]? = some (.cells cur e (0, 0)) ∧ n ≤ c ∧ c ≤ maxLen ∧ o + c * sz ≤ cur.size ∧ ∀ j, j < n * sz → cur[o + j]? = xs[j]?
section
variable {w w' : World} {e : TypeId} {sz : Nat} {A : Option Addr} {n c : Nat} {xs : List Value}
theorem SL.nil (w : World) (e : TypeId) (sz : Nat) : SL w e sz none 0 0 [] := ⟨by simp, .inl ⟨rfl, rfl, rfl⟩⟩
theorem SL.le (h : SL w e sz A n c xs) : n ≤ c := by
  rcases h.at_ with ⟨_, rfl, rfl⟩ | ⟨_, _, _, _, _, hc, _⟩
  · exact Nat.le_refl _
  · exact hc
theorem SL.cmax (h : SL w e sz A n c xs) : c ≤ maxLen := by
  rcases h.at_ with ⟨_, _, rfl⟩ | ⟨_, _, _, _, _, _, hm, _⟩
  · exact Nat.zero_le _
  · exact hm
theorem SL.keep (h : SL w e sz A n c xs) (hk : ∀ a, A = some a → w'.heap[a.block]? = w.heap[a.block]?) : SL w' e sz A n c xs :=
  ⟨h.len, h.at_.imp id fun ⟨b, o, cur, h1, h2, h3⟩ => ⟨b, o, cur, h1, (hk _ h1).trans h2, h3⟩⟩
theorem SL.lt (h : SL w e sz A n c xs) {a : Addr} (ha : A = some a) : a.block < w.heap.size := by
  rcases h.at_ with ⟨h1, _⟩ | ⟨b, o, cur, h1, h2, _⟩
  · rw [h1] at ha; cases ha
  · rw [h1] at ha; cases ha
    exact (Array.getElem?_eq_some_iff.1 h2).1
theorem SL.below {B : Nat} (h : SL w e sz A n c xs) (hb : Below B w w') (hB : ∀ a, A = some a → a.block < B) : SL w' e sz A n c xs := h.keep fun a ha => hb.block _ (hB a ha)
theorem SL.next (h : SL w e sz A n c xs) (hb : Below w.heap.size w w') : SL w' e sz A n c xs := h.below hb fun a ha => h.lt ha
theorem SL.keepF {F : Nat → Prop} (h : SL w e sz A n c xs) (hk : KeepF F w w') (hF : ∀ a, A = some a → ¬ F a.block) : SL w' e sz A n c xs := h.keep fun a ha => hk.block _ (h.lt ha) (hF a ha)
theorem SL.cell (h : SL w e sz A n c xs) {b o : Nat} (hA : A = some ⟨b, o, none⟩) {j : Nat} (hj : j < n * sz) : w.cell? ⟨b, o + j, none⟩ = xs[j]? := by
  rcases h.at_ with ⟨h1, _⟩ | ⟨b', o', cur, h1, h2, _, _, _, h6⟩
  · rw [h1] at hA; cases hA
  · rw [h1] at hA; cases hA
    exact ((Blk.cell (show Blk w b e cur from h2) (o + j))).trans (h6 j hj)
theorem SL.some_ (h : SL w e sz A n c xs) (hn : 0 < n) : ∃ b o, A = some ⟨b, o, none⟩ ∧ b < w.heap.size := by
  rcases h.at_ with ⟨_, h1, _⟩ | ⟨b', o', cur, h1, h2, _⟩
  · omega
  · exact ⟨b', o', h1, (Array.getElem?_eq_some_iff.1 h2).1⟩
theorem SL.frozen (h : SL w e sz A n c xs) {b o : Nat} (hA : A = some ⟨b, o, none⟩) (j : Nat) : w.frozen? ⟨b, j, none⟩ = false := by
  rcases h.at_ with ⟨h1, _⟩ | ⟨b', o', cur, h1, h2, _⟩
  · rw [h1] at hA; cases hA
  · rw [h1] at hA; cases hA
    exact Blk.frozen (show Blk w b e cur from h2) j
end

section
variable {P : Program}
/-- append onto such a slice -/
theorem sl_append (w : World) (t tx ty e : TypeId) (i : TypeInfo) (z : Value) (sz bytes : Nat) (ht : P.underlying t = some (.slice e)) (hi : P.info? e = some i) (hz : i.zero = some z) (hsize : i.size = sz) (hby : i.bytes = bytes) (hzs : z.cells.size = sz)
    {A : Option Addr} {n c : Nat} {xs : List Value} (h : SL w e sz A n c xs) (x : Value) (m : Nat) (news : List Value) (hs : Src P sz tx x m news w) (hm : 0 < m) (h63 : n + m ≤ maxLen) (hbytes : (n + m) * bytes ≤ 140737488355328) :
    ∃ A' c' w', (Builtin.append_ #[t, tx] ty #[.slice A n c, x]).run P w = .ok (.slice A' (n + m) c') w' ∧ SL w' e sz A' (n + m) c' (xs ++ news) ∧ KeepF (fun k => ∃ a, A = some a ∧ k = a.block) w w' ∧ (∀ a, A' = some a → (∃ a', A = some a' ∧ a.block = a'.block) ∨ w.heap.size ≤ a.block) := by
  subst hsize hby
  have hlen : (xs ++ news).length = (n + m) * i.size := by rw [List.length_append, h.len, hs.newsLen, Nat.add_mul]
  by_cases hroom : n + m ≤ c
  · rcases h.at_ with ⟨rfl, rfl, rfl⟩ | ⟨b, o, cur, rfl, h2, h3, h4, h5, h6⟩
    · omega
    · have hB : Blk w b e cur := h2
      have hle : o + (n + m) * i.size ≤ cur.size := Nat.le_trans (Nat.add_le_add_left (Nat.mul_le_mul_right _ hroom) _) h5
      have hnl := hs.newsLen
      have hadd : (n + m) * i.size = n * i.size + news.length := by rw [Nat.add_mul, hnl]
      have hr := run_append_room_src (P := P) w t tx ty e i ht hi b o n c x m news hs hroom (fun j hj => by rw [hB.cell]; rw [Array.getElem?_eq_getElem (by omega)]; rfl) (fun j _ => hB.frozen _)
      refine ⟨_, _, _, hr, ⟨hlen, .inr ⟨b, o, _, rfl, ts_setCells news (o + n * i.size) w cur hB, hroom, h4, by rw [tsAll_size]; exact h5, fun j hj => ?_⟩⟩, ts_keep ⟨_, rfl, rfl⟩ news _ w, fun a ha => .inl ⟨_, rfl, by cases ha; rfl⟩⟩
      by_cases hjn : j < n * i.size
      · rw [tsAll_out news _ cur _ (.inl (by omega)), h6 j hjn, List.getElem?_append_left (by rw [h.len]; exact hjn)]
      · have := tsAll_in news (o + n * i.size) cur (j - n * i.size) (by omega) (by omega)
        rw [show o + n * i.size + (j - n * i.size) = o + j by omega] at this
        rw [this, List.getElem?_append_right (by rw [h.len]; omega), h.len]
  · have hold : (Builtin.firstCells i.size n (.slice A n c)).run P w.drew = .ok xs.toArray w.drew := by
      rcases h.at_ with ⟨rfl, rfl, rfl⟩ | ⟨b, o, cur, rfl, h2, h3, h4, h5, h6⟩
      · have : xs = [] := List.eq_nil_of_length_eq_zero (by rw [h.len]; simp)
        subst this
        exact run_firstCells_none w.drew i.size 0 0 0
      · refine run_firstCells_some w.drew i.size n ⟨b, o, none⟩ n c xs h.len (fun j u hu => ?_)
        have hj : j < n * i.size := by have := (List.getElem?_eq_some_iff.1 hu).1; rwa [h.len] at this
        rw [Addr.add_lit]
        exact (h.cell rfl hj).trans hu
    have hr := run_append_grow_src (P := P) w t tx ty e i z ht hi hz A n c xs hold x m news hs (by omega) (by unfold maxLen at h63; omega) (growslice_fits (by omega) hbytes)
    have hge := grownCap_ge w (n + m) c e
    have hcm : grownCap w (n + m) c e ≤ maxLen := grownCap_le_maxLen w (n + m) c e h63
    refine ⟨_, _, _, hr, ⟨hlen, .inr ⟨w.heap.size, 0, _, rfl, heap_alloc_new w.drew _, hge, hcm, ?_, fun j hj => ?_⟩⟩, (KeepF.refl (w := w)).drew.alloc _, fun a ha => .inr (by cases ha; exact Nat.le_refl _)⟩
    · simp only [Array.size_append, List.size_toArray, size_zeroCells, hzs, hlen, Nat.zero_add]
      rw [← Nat.add_mul]
      exact Nat.mul_le_mul_right _ (by omega)
    · rw [Nat.zero_add, Array.getElem?_append_left (by simp only [List.size_toArray]; rw [hlen]; exact hj)]
      simp

theorem wp_sl_append {o : Oper} {a : Act} {K : Act → World → Prop} {Q : Exit → Act → World → Prop} (s x : Operand) (t tx : TypeId) (ho : o.op = .call { callee := .builtin .append, args := #[s, x], argTypes := #[t, tx] })
    (w : World) (e : TypeId) (i : TypeInfo) (z : Value) (sz bytes : Nat) (ht : P.underlying t = some (.slice e)) (hi : P.info? e = some i) (hz : i.zero = some z) (hsize : i.size = sz) (hby : i.bytes = bytes) (hzs : z.cells.size = sz)
    (A : Option Addr) (n c : Nat) (xs : List Value) (hsv : a.eval s = .slice A n c) (h : SL w e sz A n c xs) (xv : Value) (hxv : a.eval x = xv) (m : Nat) (news : List Value) (hs : Src P sz tx xv m news w) (hm : 0 < m) (h63 : n + m ≤ maxLen) (hbytes : (n + m) * bytes ≤ 140737488355328)
    (hK : ∀ A' c' w', SL w' e sz A' (n + m) c' (xs ++ news) → KeepF (fun k => ∃ a, A = some a ∧ k = a.block) w w' → (∀ a, A' = some a → (∃ a', A = some a' ∧ a.block = a'.block) ∨ w.heap.size ≤ a.block) → K (a.put o.dst (.slice A' (n + m) c')) w') : o.wp P a w K Q := by
  obtain ⟨A', c', w', hrun, h1, h2, h3⟩ := sl_append w t tx o.type e i z sz bytes ht hi hz hsize hby hzs h xv m news hs hm h63 hbytes
  unfold Oper.wp execOp
  simp only [ho, resolve, invoke, builtin, Sem.run_bind, Sem.run_pure, Result.andThen_ok, List.map_toArray, List.map_cons, List.map_nil, hsv, hxv, hrun]
  exact hK A' c' w' h1 h2 h3
theorem wpList_sl_append {ops : Array Oper} {rest : List Oper} {o : Oper} {a : Act} {Q : Exit → Act → World → Prop} (hgd : o.guard = none) (s x : Operand) (t tx : TypeId) (ho : o.op = .call { callee := .builtin .append, args := #[s, x], argTypes := #[t, tx] })
    (w : World) (e : TypeId) (i : TypeInfo) (z : Value) (sz bytes : Nat) (ht : P.underlying t = some (.slice e)) (hi : P.info? e = some i) (hz : i.zero = some z) (hsize : i.size = sz) (hby : i.bytes = bytes) (hzs : z.cells.size = sz)
    (A : Option Addr) (n c : Nat) (xs : List Value) (hsv : a.eval s = .slice A n c) (h : SL w e sz A n c xs) (xv : Value) (hxv : a.eval x = xv) (m : Nat) (news : List Value) (hs : Src P sz tx xv m news w) (hm : 0 < m) (h63 : n + m ≤ maxLen) (hbytes : (n + m) * bytes ≤ 140737488355328)
    (hK : ∀ A' c' w', SL w' e sz A' (n + m) c' (xs ++ news) → KeepF (fun k => ∃ a, A = some a ∧ k = a.block) w w' → (∀ a, A' = some a → (∃ a', A = some a' ∧ a.block = a'.block) ∨ w.heap.size ≤ a.block) → wpList P ops Q rest (a.put o.dst (.slice A' (n + m) c')) w') : wpList P ops Q (o :: rest) a w :=
  wpList_plain hgd fun K hK' => wp_sl_append s x t tx ho w e i z sz bytes ht hi hz hsize hby hzs A n c xs hsv h xv hxv m news hs hm h63 hbytes fun A' c' w' h1 h2 h3 => hK' _ _ (hK A' c' w' h1 h2 h3)
end

/-- cells of a list of elements of sz cells each -/
theorem flat_len {α : Type} (f : α → List Value) (sz : Nat) (hf : ∀ x, (f x).length = sz) : ∀ l : List α, (l.flatMap f).length = l.length * sz
  | [] => by simp
  | x :: r => by rw [List.flatMap_cons, List.length_append, hf, flat_len f sz hf r, List.length_cons, Nat.add_mul]; omega
theorem flat_at {α : Type} (f : α → List Value) (sz : Nat) (hf : ∀ x, (f x).length = sz) : ∀ (l : List α) (k j : Nat) (x : α), l[k]? = some x → j < sz → (l.flatMap f)[k * sz + j]? = (f x)[j]?
  | [], k, j, x, h, _ => by simp at h
  | y :: r, 0, j, x, h, hj => by
    have : y = x := by simpa using h
    subst this
    rw [List.flatMap_cons, Nat.zero_mul, Nat.zero_add, List.getElem?_append_left (by rw [hf]; exact hj)]
  | y :: r, k + 1, j, x, h, hj => by
    rw [List.flatMap_cons, List.getElem?_append_right (by rw [hf, Nat.add_mul]; omega), hf, show (k + 1) * sz + j - sz = k * sz + j by rw [Nat.add_mul]; omega]
    exact flat_at f sz hf r k j x (by simpa using h) hj
end Go.Proofs.YthadfbekfbfkpaaGreat
