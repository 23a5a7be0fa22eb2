/- Contracts of the polynomial's method at, of Params and At, and of the reference's Valid, common, Params, At. -/
import Derived.Test.YtekgahigbeceeaaQC
import Derived.Deep.QuietTactic
import Derived.BigQuiet
namespace Go.Proofs.Ytekgahigbeceeaa
open Go.RowKit

/-- the permutation -/
def pi (k i : Nat) : Nat := (QM.f1 k * i + QM.f2 k * i % k * i) % k

set_option maxHeartbeats 400000 in
theorem at_any (k a b i : Nat) (w : World) (hk : 1 ≤ k) (hk2 : k ≤ 6144) (ha : a ≤ 6144) (hb : b ≤ 6144) (hi : i ≤ 6144) :
    Calls Try.prog 49 #[.agg #[.int .i64 k, .int .i64 a, .int .i64 b], .int .i64 i] w fun e w' => e = .returned (.int .i64 (((a * i + b * i % k * i) % k : Nat) : Int)) ∧ Below w.heap.size w w' := by
  have h1 : 0 ≤ (a : Int) * (i : Int) := by rw [← Int.natCast_mul]; omega
  have h2 : (a : Int) * (i : Int) ≤ 37748736 := by rw [← Int.natCast_mul]; have := Nat.mul_le_mul ha hi; omega
  have h3 : 0 ≤ (b : Int) * (i : Int) := by rw [← Int.natCast_mul]; omega
  have h4 : (b : Int) * (i : Int) ≤ 37748736 := by rw [← Int.natCast_mul]; have := Nat.mul_le_mul hb hi; omega
  have h5 : 0 ≤ (b : Int) * (i : Int) % (k : Int) * (i : Int) := by rw [← Int.natCast_mul, ← Int.natCast_emod, ← Int.natCast_mul]; omega
  have h6 : (b : Int) * (i : Int) % (k : Int) * (i : Int) ≤ 37748736 := by
    rw [← Int.natCast_mul, ← Int.natCast_emod, ← Int.natCast_mul]
    have : b * i % k ≤ 6144 := by have := Nat.mod_lt (b * i) (show k > 0 by omega); omega
    have := Nat.mul_le_mul this hi
    omega
  have e1 : ((k : Int) == 0) = false := by simp; omega
  go_enter Try.func49, Try.ntmps49
  go_wp2
  go_quiet (fail)
  go_wp2
  go_ret
  refine ⟨ret_int ?_, ?_⟩
  · simp
  · exact below_drewN ((Below.refl w.heap.size w).alloc (Nat.le_refl _) _) _

theorem validI_true {k : Int} (h : (40 ≤ k ∧ k ≤ 512 ∧ k % 8 = 0) ∨ (528 ≤ k ∧ k ≤ 1024 ∧ k % 16 = 0) ∨ (1056 ≤ k ∧ k ≤ 2048 ∧ k % 32 = 0) ∨ (2112 ≤ k ∧ k ≤ 6144 ∧ k % 64 = 0)) : validI k = true := by unfold validI; exact decide_eq_true h
theorem validI_false {k : Int} (h : ¬ ((40 ≤ k ∧ k ≤ 512 ∧ k % 8 = 0) ∨ (528 ≤ k ∧ k ≤ 1024 ∧ k % 16 = 0) ∨ (1056 ≤ k ∧ k ≤ 2048 ∧ k % 32 = 0) ∨ (2112 ≤ k ∧ k ≤ 6144 ∧ k % 64 = 0))) : validI k = false := by unfold validI; exact decide_eq_false h

set_option maxHeartbeats 1600000 in
theorem refvalid_any (k : Int) (w : World) :
    Calls Try.prog 39 #[.int .i64 k] w fun e w' => e = .returned (.bool (validI k)) ∧ w = w' := by
  by_cases h0 : k < 40
  · have hv := validI_false (k := k) (by omega)
    go_enter Try.func39, Try.ntmps39
    go_wp2
    go_ret
    exact ⟨ret_bool (by first | rfl | exact hv.symm), rfl⟩
  by_cases h1 : k ≤ 512
  · by_cases m : k % 8 = 0
    · have hv := validI_true (k := k) (by omega)
      have e : (k % 8 == 0) = true := by simp; omega
      go_enter Try.func39, Try.ntmps39
      go_wp2
      go_ret
      exact ⟨ret_bool (by first | rfl | exact hv.symm), rfl⟩
    · have hv := validI_false (k := k) (by omega)
      have e : (k % 8 == 0) = false := by simp; omega
      go_enter Try.func39, Try.ntmps39
      go_wp2
      go_ret
      exact ⟨ret_bool (by first | rfl | exact hv.symm), rfl⟩
  by_cases h2 : k < 528
  · have hv := validI_false (k := k) (by omega)
    go_enter Try.func39, Try.ntmps39
    go_wp2
    go_ret
    exact ⟨ret_bool (by first | rfl | exact hv.symm), rfl⟩
  by_cases h3 : k ≤ 1024
  · by_cases m : k % 16 = 0
    · have hv := validI_true (k := k) (by omega)
      have e : (k % 16 == 0) = true := by simp; omega
      go_enter Try.func39, Try.ntmps39
      go_wp2
      go_ret
      exact ⟨ret_bool (by first | rfl | exact hv.symm), rfl⟩
    · have hv := validI_false (k := k) (by omega)
      have e : (k % 16 == 0) = false := by simp; omega
      go_enter Try.func39, Try.ntmps39
      go_wp2
      go_ret
      exact ⟨ret_bool (by first | rfl | exact hv.symm), rfl⟩
  by_cases h4 : k < 1056
  · have hv := validI_false (k := k) (by omega)
    go_enter Try.func39, Try.ntmps39
    go_wp2
    go_ret
    exact ⟨ret_bool (by first | rfl | exact hv.symm), rfl⟩
  by_cases h5 : k ≤ 2048
  · by_cases m : k % 32 = 0
    · have hv := validI_true (k := k) (by omega)
      have e : (k % 32 == 0) = true := by simp; omega
      go_enter Try.func39, Try.ntmps39
      go_wp2
      go_ret
      exact ⟨ret_bool (by first | rfl | exact hv.symm), rfl⟩
    · have hv := validI_false (k := k) (by omega)
      have e : (k % 32 == 0) = false := by simp; omega
      go_enter Try.func39, Try.ntmps39
      go_wp2
      go_ret
      exact ⟨ret_bool (by first | rfl | exact hv.symm), rfl⟩
  by_cases h6 : k < 2112
  · have hv := validI_false (k := k) (by omega)
    go_enter Try.func39, Try.ntmps39
    go_wp2
    go_ret
    exact ⟨ret_bool (by first | rfl | exact hv.symm), rfl⟩
  by_cases h7 : k ≤ 6144
  · by_cases m : k % 64 = 0
    · have hv := validI_true (k := k) (by omega)
      have e : (k % 64 == 0) = true := by simp; omega
      go_enter Try.func39, Try.ntmps39
      go_wp2
      go_ret
      exact ⟨ret_bool (by first | rfl | exact hv.symm), rfl⟩
    · have hv := validI_false (k := k) (by omega)
      have e : (k % 64 == 0) = false := by simp; omega
      go_enter Try.func39, Try.ntmps39
      go_wp2
      go_ret
      exact ⟨ret_bool (by first | rfl | exact hv.symm), rfl⟩
  have hv := validI_false (k := k) (by omega)
  go_enter Try.func39, Try.ntmps39
  go_wp2
  go_ret
  exact ⟨ret_bool (by first | rfl | exact hv.symm), rfl⟩

set_option maxHeartbeats 400000 in
theorem common_any (a b : Nat) (w : World) (ha : a ≤ 6144) (hb : b ≤ 6144) :
    Calls Try.prog 47 #[.int .i64 a, .int .i64 b] w fun e w' => e = .returned (.int .i64 (Nat.gcd a b : Nat)) ∧ Below w.heap.size w w' := by
  go_enter Try.func47, Try.ntmps47
  go_wp2
  go_loopw [0, 1] (fun v0 v1 wr => ∃ x y : Nat, x ≤ 6144 ∧ y ≤ 6144 ∧ v0 = .int .i64 x ∧ v1 = .int .i64 y ∧ Hid (Nat.gcd x y = Nat.gcd a b) ∧ Below w.heap.size w wr) (fun _ v1 _ => (intOf v1).toNat)
  case atStart => exact ⟨a, b, ha, hb, rfl, rfl, rfl, Below.refl _ _⟩
  case round =>
    obtain ⟨x, y, hx, hy, rfl, rfl, hg, hW⟩ := hrel
    by_cases h0 : 0 < y
    · have hm := Nat.mod_lt x h0
      have hgs : Hid (Nat.gcd y (x % y) = Nat.gcd a b) := by
        rw [Nat.gcd_comm y, ← Nat.gcd_rec]
        exact (Nat.gcd_comm y x).trans hg.out
      have e0 : ((y : Int) == 0) = false := by simp; omega
      go_wp2
      go_quiet (fail)
      go_roundw
      case rel => (repeat apply Exists.intro); exact ⟨⟨y, x % y, by omega, by omega, rfl, by go_num, hgs, below_drewN hW _⟩, rfl⟩
      case measure => simp [intOf]; omega
    · have hy0 : y = 0 := by omega
      have hx0 : x = Nat.gcd a b := by rw [← hg.out, hy0, Nat.gcd_zero_right]
      have HX := Lib.hid hx0
      clear hx0 hy0
      go_wp2
      go_ret
      exact ⟨ret_int (by rw [HX.out]), hW⟩
end Go.Proofs.Ytekgahigbeceeaa
