/- Plain arithmetic of layer 6: the divisors of a block size, the coefficients, and that the polynomial is a permutation. No program in sight; no condition. -/
import Derived.KernelRfl
namespace Go.Proofs.Ytekgahigbeceeaa.QM

/-- a block size -/
def valid (k : Nat) : Bool := (Nat.ble 40 k && Nat.ble k 512 && Nat.beq (k % 8) 0) || (Nat.ble 528 k && Nat.ble k 1024 && Nat.beq (k % 16) 0) || (Nat.ble 1056 k && Nat.ble k 2048 && Nat.beq (k % 32) 0) || (Nat.ble 2112 k && Nat.ble k 6144 && Nat.beq (k % 64) 0)

/-- l without its factors p -/
def strip : Nat → Nat → Nat → Nat
  | 0, _, l => l
  | f + 1, p, l => bif Nat.beq (l % p) 0 then strip f p (l / p) else l

/-- the primes that divide l, from p on -/
def divs : Nat → Nat → Nat → List Nat
  | 0, _, _ => []
  | f + 1, p, l => bif Nat.ble l 1 then [] else bif Nat.beq (l % p) 0 then p :: divs f (p + 1) (strip 13 p l) else divs f (p + 1) l

/-- that the search ends, with p at most 100 -/
def ends : Nat → Nat → Nat → Bool
  | 0, _, l => Nat.ble l 1
  | f + 1, p, l => Nat.ble l 1 || (Nat.ble 1 (strip 13 p l) && !Nat.beq (strip 13 p l % p) 0 && ends f (p + 1) (strip 13 p l))

def D (k : Nat) : List Nat := divs 100 2 k
def f2 (k : Nat) : Nat := (D k).foldl (· * ·) 1
def cop (n : Nat) (l : List Nat) : Bool := l.all fun p => !Nat.beq (n % p) 0
def f1go (k : Nat) : Nat → Nat → Nat
  | 0, _ => 0
  | f + 1, n => bif Nat.beq (Nat.gcd n k) 1 then n else f1go k f (n + 2)
def f1 (k : Nat) : Nat := f1go k 20 3
def f1list (l : List Nat) : Nat → Nat → Nat
  | 0, _ => 0
  | f + 1, n => bif cop n l then n else f1list l f (n + 2)

/-- all that is asked of one block size -/
def good (k : Nat) : Bool :=
  ends 100 2 k && Nat.ble (D k).length 12 && (D k).all (fun p => Nat.ble 2 p && Nat.ble p 100) && Nat.beq (f1list (D k) 20 3) (f1 k) && Nat.ble 3 (f1 k) && Nat.ble (f1 k) 43 && Nat.beq (f1 k % 2) 1 &&
  Nat.ble 1 (f2 k) && Nat.beq (k % f2 k) 0 && Nat.beq (f2 k ^ 13 % k) 0 && Nat.beq (Nat.gcd (f1 k) k) 1 && Nat.beq (f2 k % 2) 0 && Nat.beq (k % 2) 0 && Nat.ble 40 k && Nat.ble k 6144

def allUpTo (p : Nat → Bool) : Nat → Bool
  | 0 => true
  | n + 1 => p n && allUpTo p n
theorem allUpTo_at (p : Nat → Bool) : ∀ n, allUpTo p n = true → ∀ k, k < n → p k = true
  | 0, _, k, hk => absurd hk (by omega)
  | n + 1, h, k, hk => by
    simp only [allUpTo, Bool.and_eq_true] at h
    rcases Nat.lt_or_ge k n with hlt | hge
    · exact allUpTo_at p n h.2 k hlt
    · have : k = n := by omega
      subst this; exact h.1

theorem checked : allUpTo (fun k => !valid k || good k) 6145 = true := by decide +kernel

theorem valid_iff (k : Nat) : valid k = true ↔ ((40 ≤ k ∧ k ≤ 512 ∧ k % 8 = 0) ∨ (528 ≤ k ∧ k ≤ 1024 ∧ k % 16 = 0) ∨ (1056 ≤ k ∧ k ≤ 2048 ∧ k % 32 = 0) ∨ (2112 ≤ k ∧ k ≤ 6144 ∧ k % 64 = 0)) := by
  simp [valid, and_assoc, or_assoc]

theorem good_of (k : Nat) (h : valid k = true) : good k = true := by
  have hk : k < 6145 := by have := (valid_iff k).1 h; omega
  have := allUpTo_at _ _ checked k hk
  simpa [h] using this
#print axioms good_of
end Go.Proofs.Ytekgahigbeceeaa.QM
