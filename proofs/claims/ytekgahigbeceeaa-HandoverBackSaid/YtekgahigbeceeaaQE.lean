/- Contracts of qpp.Params, qpp.At and of the reference's Params, At. -/
import Derived.Test.YtekgahigbeceeaaQD
import Derived.Handy
namespace Go.Proofs.Ytekgahigbeceeaa
open Go.RowKit

theorem validI_nat (k : Nat) : validI (k : Int) = QM.valid k := by
  rw [Bool.eq_iff_iff, QM.valid_iff]
  unfold validI
  simp only [decide_eq_true_eq]
  omega
theorem validI_pos {k : Int} (h : validI k = true) : ∃ n : Nat, k = n ∧ QM.valid n = true := by
  have h0 : 0 ≤ k := by unfold validI at h; simp only [decide_eq_true_eq] at h; omega
  obtain ⟨n, rfl⟩ := Int.eq_ofNat_of_zero_le h0
  exact ⟨n, rfl, by rw [← validI_nat]; exact h⟩

theorem params_bad (k : Int) (hv : validI k = false) (w : World) :
    Calls Try.prog 21 #[.int .i64 k] w fun e w' => e = .returned (.tuple #[.int .i64 0, .int .i64 0, .int .i64 2]) ∧ Below w.heap.size w w' := by
  go_enter Try.func21, Try.ntmps21
  go_wp2_with (go_at_call 46; refine (of_bad k hv _).mono ?_; rintro e w1 ⟨rfl, hb⟩)
  go_quiet (fail)
  go_wp2
  go_ret3
  exact ⟨rfl, below_drewN (hb.alloc hb.size _) _⟩
theorem params_good (k : Nat) (hv : QM.valid k = true) (w : World) :
    Calls Try.prog 21 #[.int .i64 k] w fun e w' => e = .returned (.tuple #[.int .i64 (QM.f1 k : Nat), .int .i64 (QM.f2 k : Nat), .int .i64 0]) ∧ Below w.heap.size w w' := by
  go_enter Try.func21, Try.ntmps21
  go_wp2_with (go_at_call 46; refine (of_good k hv _).mono ?_; rintro e w1 ⟨rfl, hb⟩; unfold permV)
  go_quiet (fail)
  go_wp2
  go_ret3
  exact ⟨rfl, below_drewN (hb.alloc hb.size _) _⟩

theorem all_two (b : Nat) (x y : Bool) (w : World) (h0 : w.cell? ⟨b, 0, none⟩ = some (.bool x)) (h1 : w.cell? ⟨b, 1, none⟩ = some (.bool y)) :
    Calls Try.prog 48 #[.slice (some ⟨b, 0, none⟩) 2 2] w fun e w' => e = .returned (.bool (x && y)) ∧ w = w' := by
  cases x <;> cases y
  all_goals
    go_enter Try.func48, Try.ntmps48
    go_wp2
    go_rounds 3
    go_ret
    exact ⟨rfl, rfl⟩

theorem pat_bad (k i : Int) (hv : validI k = false) (w : World) :
    Calls Try.prog 23 #[.int .i64 k, .int .i64 i] w fun e w' => e = .returned (.tuple #[.int .i64 0, .int .i64 2]) ∧ Below w.heap.size w w' := by
  go_enter Try.func23, Try.ntmps23
  go_wp2_with (go_at_call 46; refine (of_bad k hv _).mono ?_; rintro e w1 ⟨rfl, hb⟩)
  go_ret2
  exact ⟨rfl, hb.alloc hb.size _⟩
set_option maxHeartbeats 400000 in
theorem pat_out (k : Nat) (i : Int) (hv : QM.valid k = true) (hi : i < 0 ∨ (k : Int) ≤ i) (w : World) :
    Calls Try.prog 23 #[.int .i64 k, .int .i64 i] w fun e w' => e = .returned (.tuple #[.int .i64 0, .int .i64 6]) ∧ Below w.heap.size w w' := by
  have hk := (good_facts k hv).1
  rcases hi with hi | hi
  · have e1 : decide ((0 : Int) ≤ i) = false := by simp; omega
    have e2 : decide (i < (k : Int)) = true := by simp; omega
    go_enter Try.func23, Try.ntmps23
    go_wp2_with (first
      | (go_at_call 46; refine (of_good k hv _).mono ?_; rintro e w1 ⟨rfl, hb⟩; unfold permV)
      | (go_at_call 48; refine (all_two _ false true _ (by simp [go_sem]) (by simp [go_sem])).mono ?_; rintro e w2 ⟨rfl, rfl⟩))
    go_ret2
    exact ⟨rfl, (hb.alloc hb.size _).alloc (by have := hb.size; simp; omega) _⟩
  · have e1 : decide ((0 : Int) ≤ i) = true := by simp; omega
    have e2 : decide (i < (k : Int)) = false := by simp; omega
    go_enter Try.func23, Try.ntmps23
    go_wp2_with (first
      | (go_at_call 46; refine (of_good k hv _).mono ?_; rintro e w1 ⟨rfl, hb⟩; unfold permV)
      | (go_at_call 48; refine (all_two _ true false _ (by simp [go_sem]) (by simp [go_sem])).mono ?_; rintro e w2 ⟨rfl, rfl⟩))
    go_ret2
    exact ⟨rfl, (hb.alloc hb.size _).alloc (by have := hb.size; simp; omega) _⟩

set_option maxHeartbeats 400000 in
theorem pat_good (k i : Nat) (hv : QM.valid k = true) (hi : i < k) (w : World) :
    Calls Try.prog 23 #[.int .i64 k, .int .i64 i] w fun e w' => e = .returned (.tuple #[.int .i64 (pi k i : Nat), .int .i64 0]) ∧ Below w.heap.size w w' := by
  obtain ⟨hk, hk2, _, _, _, _, hf1, _, hf2⟩ := good_facts k hv
  have e1 : decide ((0 : Int) ≤ (i : Int)) = true := by simp
  have e2 : decide ((i : Int) < (k : Int)) = true := by simp; omega
  go_enter Try.func23, Try.ntmps23
  go_wp2_with (first
    | (go_at_call 46; refine (of_good k hv _).mono ?_; rintro e w1 ⟨rfl, hb⟩; unfold permV)
    | (go_at_call 48; refine (all_two _ true true _ (by simp [go_sem]) (by simp [go_sem])).mono ?_; rintro e w2 ⟨rfl, rfl⟩)
    | (go_at_call 49; refine (at_any k (QM.f1 k) (QM.f2 k) i _ (by omega) (by omega) (by omega) (by omega) (by omega)).mono ?_; rintro e w3 ⟨rfl, hb3⟩))
  go_ret2
  exact ⟨rfl, ((hb.alloc hb.size _).alloc (by have := hb.size; simp; omega) _).trans (hb3.mono (by have := hb.size; simp; omega))⟩

theorem refparams_bad (k : Int) (hv : validI k = false) (w : World) :
    Calls Try.prog 22 #[.int .i64 k] w fun e w' => e = .returned (.tuple #[.int .i64 0, .int .i64 0, .int .i64 2]) ∧ Below w.heap.size w w' := by
  go_enter Try.func22, Try.ntmps22
  go_wp2_with (go_at_call 39; refine (refvalid_any k _).mono ?_; rintro e w1 ⟨rfl, rfl⟩; rw [hv])
  go_ret3
  exact ⟨rfl, Below.refl _ _⟩
end Go.Proofs.Ytekgahigbeceeaa
