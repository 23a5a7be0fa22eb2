/- Counter mode and message codes in plain Lean: the program's way of computing them. No program in sight. -/
import Derived.Test.YtiffminhlimajaaGreatVA
namespace Go.Proofs.YtiffminhlimajaaGreat
open Go
set_option linter.unusedVariables false

/-- the 8 bytes of a number, the most significant one first -/
def halfB (v j : Nat) : Nat := v / 2 ^ (56 - 8 * j) % 256
theorem halfB_lt (v j : Nat) : halfB v j < 256 := Nat.mod_lt _ (by decide)
/-- the first half of a counter block, as a number -/
def pfx (ct b d : Nat) : Nat := ct * 2 ^ 32 + b * 2 ^ 27 + d * 2 ^ 26
theorem pfx_lt {ct b d : Nat} (hc : ct < 4294967296) (hb : b < 32) (hd : d < 2) : pfx ct b d < 18446744073709551616 := by unfold pfx; omega
def ctrB (ct b d i : Nat) : Nat → Nat := fun j => if j < 8 then halfB (pfx ct b d) j else halfB i (j - 8)
theorem ctrB_lt (ct b d i : Nat) : B16 (ctrB ct b d i) := fun j _ => by
  unfold ctrB
  split <;> exact halfB_lt _ _
/-- the key stream; a message's encryption -/
def ksF (key : Nat → Nat) (ct b d : Nat) : Nat → Nat := fun j => aesF key (ctrB ct b d (j / 16)) (j % 16)
theorem ksF_lt {key : Nat → Nat} (hk : B16 key) (ct b d j : Nat) : ksF key ct b d j < 256 := aesF_lt hk (ctrB_lt _ _ _ _) _ (Nat.mod_lt _ (by decide))
def cryF (key : Nat → Nat) (ct b d : Nat) (z : Nat → Nat) : Nat → Nat := fun j => z j ^^^ ksF key ct b d j
theorem cryF_lt {key : Nat → Nat} (hk : B16 key) (ct b d : Nat) {z : Nat → Nat} {j : Nat} (h : z j < 256) : cryF key ct b d z j < 256 := xor_lt h (ksF_lt hk _ _ _ _)
theorem cryF_back (key : Nat → Nat) (ct b d : Nat) (z : Nat → Nat) (j : Nat) : cryF key ct b d (cryF key ct b d z) j = z j := by
  unfold cryF
  rw [Nat.xor_assoc, Nat.xor_self, Nat.xor_zero]
/-- a block doubled -/
def dblB (b : Nat → Nat) : Nat → Nat := fun i => if i < 15 then (b i * 2 % 256) ||| (b (i + 1) / 128) else (b i * 2 % 256) ^^^ (b 0 / 128 * 135 % 256)
theorem dblB_lt {b : Nat → Nat} (h : B16 b) : B16 (dblB b) := fun i hi => by
  unfold dblB
  split
  · exact Nat.or_lt_two_pow (n := 8) (Nat.mod_lt _ (by decide)) (by have := h (i + 1) (by omega); omega)
  · exact xor_lt (Nat.mod_lt _ (by decide)) (Nat.mod_lt _ (by decide))
def zB : Nat → Nat := fun _ => 0
theorem zB_lt : B16 zB := fun _ _ => by show 0 < 256; decide
def key1 (key : Nat → Nat) : Nat → Nat := dblB (aesF key zB)
def key2 (key : Nat → Nat) : Nat → Nat := dblB (key1 key)
theorem key1_lt {key : Nat → Nat} (hk : B16 key) : B16 (key1 key) := dblB_lt (aesF_lt hk zB_lt)
theorem key2_lt {key : Nat → Nat} (hk : B16 key) : B16 (key2 key) := dblB_lt (key1_lt hk)
/-- block q of a message of n bytes, zeros behind it -/
def blkAt (z : Nat → Nat) (n q : Nat) : Nat → Nat := fun j => if 16 * q + j < n then z (16 * q + j) else 0
theorem blkAt_lt {z : Nat → Nat} {n : Nat} (hz : ∀ j, j < n → z j < 256) (q : Nat) : B16 (blkAt z n q) := fun j _ => by
  unfold blkAt
  split
  · exact hz _ (by assumption)
  · decide
def plusB (a b : Nat → Nat) : Nat → Nat := fun i => a i ^^^ b i
theorem plusB_lt {a b : Nat → Nat} (ha : B16 a) (hb : B16 b) : B16 (plusB a b) := fun j hj => xor_lt (ha j hj) (hb j hj)
/-- the last block, of r bytes -/
def lastB (key : Nat → Nat) (b : Nat → Nat) (r : Nat) : Nat → Nat := if r = 16 then plusB b (key1 key) else plusB (upd b r 128) (key2 key)
theorem upd_lt16 {b : Nat → Nat} {i v : Nat} (hb : B16 b) (hv : v < 256) : B16 (upd b i v) := fun j hj => by
  unfold upd
  split
  · exact hv
  · exact hb j hj
theorem lastB_lt {key b : Nat → Nat} {r : Nat} (hk : B16 key) (hb : B16 b) : B16 (lastB key b r) := by
  unfold lastB
  split
  · exact plusB_lt hb (key1_lt hk)
  · exact plusB_lt (upd_lt16 hb (by decide)) (key2_lt hk)
/-- what block q adds: the last one is made so that it tells -/
def macB (key z : Nat → Nat) (n q : Nat) : Nat → Nat := if n ≤ 16 * q + 16 then lastB key (blkAt z n q) (n - 16 * q) else blkAt z n q
theorem macB_lt {key z : Nat → Nat} {n : Nat} (hk : B16 key) (hz : ∀ j, j < n → z j < 256) (q : Nat) : B16 (macB key z n q) := by
  unfold macB
  split
  · exact lastB_lt hk (blkAt_lt hz q)
  · exact blkAt_lt hz q
/-- the state behind q blocks -/
def macS (key z : Nat → Nat) (n : Nat) : Nat → Nat → Nat
  | 0 => zB
  | q + 1 => aesF key (plusB (macS key z n q) (macB key z n q))
theorem macS_lt {key z : Nat → Nat} {n : Nat} (hk : B16 key) (hz : ∀ j, j < n → z j < 256) : ∀ q, B16 (macS key z n q)
  | 0 => zB_lt
  | q + 1 => aesF_lt hk (plusB_lt (macS_lt hk hz q) (macB_lt hk hz q))
/-- how many blocks a message has -/
def nBlk (n : Nat) : Nat := if n = 0 then 1 else (n + 15) / 16
def macF (key z : Nat → Nat) (n : Nat) : Nat → Nat := macS key z n (nBlk n)
theorem macF_lt {key z : Nat → Nat} {n : Nat} (hk : B16 key) (hz : ∀ j, j < n → z j < 256) : B16 (macF key z n) := macS_lt hk hz _
/-- a function's values in front of another's -/
def catF (a : Nat → Nat) (n : Nat) (b : Nat → Nat) : Nat → Nat := fun j => if j < n then a j else b (j - n)
/-- the integrity code -/
def codeF (key : Nat → Nat) (ct b d : Nat) (z : Nat → Nat) (n : Nat) : Nat :=
  let s := macF key (catF (halfB (pfx ct b d)) 8 z) (8 + n)
  s 0 * 16777216 + s 1 * 65536 + s 2 * 256 + s 3
theorem catF_lt {a b : Nat → Nat} {n m : Nat} (ha : ∀ j, j < n → a j < 256) (hb : ∀ j, j < m → b j < 256) : ∀ j, j < n + m → catF a n b j < 256 := fun j hj => by
  unfold catF
  split
  · exact ha j (by assumption)
  · exact hb _ (by omega)
theorem codeF_lt {key : Nat → Nat} (ct b d : Nat) {z : Nat → Nat} {n : Nat} (hk : B16 key) (hz : ∀ j, j < n → z j < 256) : codeF key ct b d z n < 4294967296 := by
  have h := macF_lt (n := 8 + n) hk (catF_lt (fun j _ => halfB_lt (pfx ct b d) j) hz)
  have h0 := h 0 (by decide); have h1 := h 1 (by decide); have h2 := h 2 (by decide); have h3 := h 3 (by decide)
  unfold codeF
  simp only
  omega
end Go.Proofs.YtiffminhlimajaaGreat
