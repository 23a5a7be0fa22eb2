/- Contracts of qpp.Free and of the reference's Free: at a block size and a number of windows that divides it both say true. -/
import Derived.Test.YtekgahigbeceeaaQH
import Derived.Test.YtekgahigbeceeaaQN
import Derived.BigGuardPart
namespace Go.Proofs.Ytekgahigbeceeaa
open Go.RowKit

theorem at_pi (k n : Nat) (x : Int) (hx : x = (n : Nat)) (hv : QM.valid k = true) (hn : n ≤ 6144) (w : World) :
    Calls Try.prog 49 #[.agg #[.int .i64 (k : Int), .int .i64 (QM.f1 k : Int), .int .i64 (QM.f2 k : Int)], .int .i64 x] w fun e w' => e = .returned (.int .i64 ((pi k n : Nat) : Int)) ∧ Below w.heap.size w w' := by
  subst hx
  obtain ⟨hk, hk2, _, _, _, _, ha, _, hb⟩ := good_facts k hv
  exact at_any k (QM.f1 k) (QM.f2 k) n w (by omega) hk2 (by omega) hb hn

/-- after j windows: is window x taken? -/
def seen (k s i : Nat) : Nat → Nat → Bool
  | 0, _ => false
  | j + 1, x => if x = pi k (i + j * s) / s then true else seen k s i j x
theorem seen_true (k s i : Nat) : ∀ j x, seen k s i j x = true → ∃ j', j' < j ∧ x = pi k (i + j' * s) / s
  | 0, x, h => by simp [seen] at h
  | j + 1, x, h => by
    simp only [seen] at h
    by_cases e : x = pi k (i + j * s) / s
    · exact ⟨j, by omega, e⟩
    · rw [if_neg e] at h
      obtain ⟨j', h1, h2⟩ := seen_true k s i j x h
      exact ⟨j', by omega, h2⟩
theorem seen_free (k w i j : Nat) (hv : QM.valid k = true) (hw : k % w = 0) (hi : i < k / w) (hj : j < w) : seen k (k / w) i j (pi k (i + j * (k / w)) / (k / w)) = false := by
  rw [← Bool.not_eq_true]
  intro h
  obtain ⟨j', h1, h2⟩ := seen_true _ _ _ _ _ h
  have := QM.free k w i j j' hv hw hi hj (by omega) h2
  omega

theorem free_bad (k v : Int) (hv : validI k = false) (w : World) :
    Calls Try.prog 32 #[.int .i64 k, .int .i64 v] w fun e w' => e = .returned (.tuple #[.bool false, .int .i64 2]) ∧ Below w.heap.size w w' := by
  go_enter Try.func32, Try.ntmps32
  go_wp2_with (go_at_call 46; refine (of_bad k hv _).mono ?_; rintro e w1 ⟨rfl, hb⟩)
  go_ret2
  exact ⟨rfl, hb.alloc hb.size _⟩
theorem free_low (k : Nat) (v : Int) (hv : QM.valid k = true) (h : v < 1) (w : World) :
    Calls Try.prog 32 #[.int .i64 k, .int .i64 v] w fun e w' => e = .returned (.tuple #[.bool false, .int .i64 2]) ∧ Below w.heap.size w w' := by
  go_enter Try.func32, Try.ntmps32
  go_wp2_with (go_at_call 46; refine (of_good k hv _).mono ?_; rintro e w1 ⟨rfl, hb⟩; unfold permV)
  go_ret2
  exact ⟨rfl, hb.alloc hb.size _⟩
theorem free_not (k v : Nat) (hv : QM.valid k = true) (h1 : 1 ≤ v) (h : k % v ≠ 0) (w : World) :
    Calls Try.prog 32 #[.int .i64 k, .int .i64 v] w fun e w' => e = .returned (.tuple #[.bool false, .int .i64 2]) ∧ Below w.heap.size w w' := by
  have e0 : ((k : Int) % (v : Int) != 0) = true := by simp; omega
  have e1 : ((k : Int) % (v : Int) == 0) = false := by simp; omega
  have HV := Lib.hid hv
  clear hv
  go_enter Try.func32, Try.ntmps32
  go_wp2_with (go_at_call 46; refine (of_good k HV.out _).mono ?_; rintro e w1 ⟨rfl, hb⟩; unfold permV)
  go_ret2
  exact ⟨rfl, hb.alloc hb.size _⟩
set_option maxRecDepth 100000 in
set_option maxHeartbeats 1600000 in
theorem free_good (k v : Nat) (hv : QM.valid k = true) (h1 : 1 ≤ v) (h : k % v = 0) (w : World) :
    Calls Try.prog 32 #[.int .i64 k, .int .i64 v] w fun e w' => e = .returned (.tuple #[.bool true, .int .i64 0]) ∧ Below w.heap.size w w' := by
  obtain ⟨hk1, hk2, _, _, _, _, _, _, _⟩ := good_facts k hv
  have e0 : ((k : Int) % (v : Int) != 0) = false := by simp; omega
  have hvk : v ≤ k := Nat.le_of_dvd (by omega) (Nat.dvd_of_mod_eq_zero h)
  obtain ⟨s, hs⟩ : ∃ s, s = k / v := ⟨_, rfl⟩
  have es : (k : Int) / (v : Int) = (s : Int) := by rw [hs]; simp
  have hsv : s * v = k := by rw [hs]; exact Nat.div_mul_cancel (Nat.dvd_of_mod_eq_zero h)
  have hs1 : 1 ≤ s := by rw [hs]; exact Nat.div_pos hvk (by omega)
  have hsk : s ≤ k := by rw [hs]; exact Nat.div_le_self _ _
  have ez : ((s : Int) == 0) = false := by simp; omega
  have hmk := make_bools v (by omega)
  have HV := Lib.hid hv
  have HS := Lib.hid hs
  have HSV := Lib.hid hsv
  have HM := Lib.hid h
  clear hv hs hsv h
  go_enter Try.func32, Try.ntmps32
  go_wp2_with (go_at_call 46; refine (of_good k HV.out _).mono ?_; rintro e w1 ⟨rfl, hb⟩; unfold permV; have hsz1 := hb.size)
  have B0 := Blk.new w1 79 #[.int .i64 k, .int .i64 (QM.f1 k : Nat), .int .i64 (QM.f2 k : Nat)]
  go_loopw [34] (fun v34 wr => ∃ i : Nat, i ≤ s ∧ v34 = .int .i64 i ∧ Blk wr w1.heap.size 79 #[.int .i64 k, .int .i64 (QM.f1 k : Nat), .int .i64 (QM.f2 k : Nat)] ∧ w1.heap.size + 1 ≤ wr.heap.size ∧ Below w.heap.size w wr) (fun v34 _ => s - (intOf v34).toNat)
  case atStart => exact ⟨0, Nat.zero_le _, rfl, B0, by simp, hb.alloc hsz1 _⟩
  case round =>
    obtain ⟨i, hi, rfl, hB, hsz, hW⟩ := hrel
    by_cases hlt : i < s
    · go_wp2
      obtain ⟨wo, hwo⟩ : ∃ wo : World, wo = wr := ⟨_, rfl⟩
      subst hwo
      have R0 := World.rowIs_made wo (.bool false) v 4
      go_loopw [40] (fun v40 wr => ∃ j : Nat, j ≤ v ∧ v40 = .int .i64 j ∧ Blk wr w1.heap.size 79 #[.int .i64 k, .int .i64 (QM.f1 k : Nat), .int .i64 (QM.f2 k : Nat)] ∧ wo.heap.size + 1 ≤ wr.heap.size ∧ Below w.heap.size w wr ∧
          wr.rowIs wo.heap.size 4 v (fun x => .bool (seen k s i j x))) (fun v40 _ => v - (intOf v40).toNat)
      case atStart => exact ⟨0, Nat.zero_le _, rfl, hB.alloc _, by simp, hW.alloc hW.size _, R0⟩
      case round =>
        obtain ⟨j, hj, rfl, hB, hsz2, hW, hR⟩ := hrel
        obtain ⟨c0, c1, c2, _, _, _⟩ := hB.three
        by_cases hlj : j < v
        · have hjs : j * s + s ≤ k := by
            have := Nat.mul_le_mul_right s (show j + 1 ≤ v by omega)
            rw [Nat.mul_comm v s, HSV.out, Nat.add_mul] at this
            omega
          have m0 : 0 ≤ (j : Int) * (s : Int) := by rw [← Int.natCast_mul]; omega
          have m1 : (j : Int) * (s : Int) ≤ 6144 := by rw [← Int.natCast_mul]; omega
          obtain ⟨p, hp⟩ : ∃ p, p = pi k (i + j * s) := ⟨_, rfl⟩
          have hpk : p < k := by rw [hp]; exact pi_lt _ _ (by omega)
          have hps : p / s < v := by rw [Nat.div_lt_iff_lt_mul (by omega), Nat.mul_comm, HSV.out]; exact hpk
          have hseen : seen k s i j (p / s) = false := by
            rw [hp, HS.out]; exact seen_free k v i j HV.out HM.out (by rw [← HS.out]; exact hlt) hlj
          have cc := hR.cell hps
          rw [hseen] at cc
          have ff := hR.frozen (p / s)
          have d0 : (0 : Int) ≤ (p : Int) / (s : Int) := by rw [← Int.natCast_ediv]; exact Int.natCast_nonneg _
          have d1 : (p : Int) / (s : Int) < (v : Int) := by rw [← Int.natCast_ediv]; exact Int.ofNat_lt.2 hps
          have HP := Lib.hid hp
          have HSE := Lib.hid hseen
          clear hp hseen
          go_wp2_with (go_at_call 49; refine (at_pi k (i + j * s) _ (by simp) HV.out (by omega) _).mono ?_; rintro e w3 ⟨rfl, hb3⟩; rw [← HP.out]; have hR3 := hR.of_block (hb3.block _ (by omega)); have hB3 := hB.below hb3 (by omega); have hW3 := hW.trans (hb3.mono hW.size); have cc3 := (hb3.cell (p := ⟨wo.heap.size, p / s, none⟩) (by simp; omega)).trans cc; have ff3 := (hb3.frozen (p := ⟨wo.heap.size, p / s, none⟩) (by simp; omega)).trans ff; have hs3 := hb3.size)
          go_roundw
          case rel =>
            refine ⟨j + 1, by omega, by go_num, hB3.far (by simp; omega) _, by simp; omega, hW3.setCell (by simp; have := hW.size; omega) _, ?_⟩
            refine (hR3.set _ _).congr fun x hx => ?_
            simp only [seen, ← HP.out]
            split <;> rfl
          case measure => simp [intOf]; omega
        · go_wp2
          go_roundw
          case rel => exact ⟨i + 1, by omega, by go_num, hB, by omega, hW⟩
          case measure => simp [intOf]; omega
    · go_wp2
      go_ret2
      exact ⟨rfl, hW⟩

theorem refree_bad (k v : Int) (hv : validI k = false) (w : World) :
    Calls Try.prog 33 #[.int .i64 k, .int .i64 v] w fun e w' => e = .returned (.tuple #[.bool false, .int .i64 2]) ∧ Below w.heap.size w w' := by
  go_enter Try.func33, Try.ntmps33
  go_wp2_with (go_at_call 29; refine (reforder_bad k hv _).mono ?_; rintro e w1 ⟨rfl, hb⟩)
  go_ret2
  exact ⟨rfl, hb⟩
theorem refree_low (k : Nat) (v : Int) (hv : QM.valid k = true) (h : v < 1) (w : World) :
    Calls Try.prog 33 #[.int .i64 k, .int .i64 v] w fun e w' => e = .returned (.tuple #[.bool false, .int .i64 2]) ∧ Below w.heap.size w w' := by
  go_enter Try.func33, Try.ntmps33
  go_wp2_with (go_at_call 29; refine (reforder_good k hv _).mono ?_; rintro e w1 ⟨g, cap, rfl, hg, hR, hb⟩)
  go_ret2
  exact ⟨rfl, hb⟩
theorem refree_not (k v : Nat) (hv : QM.valid k = true) (h1 : 1 ≤ v) (h : k % v ≠ 0) (w : World) :
    Calls Try.prog 33 #[.int .i64 k, .int .i64 v] w fun e w' => e = .returned (.tuple #[.bool false, .int .i64 2]) ∧ Below w.heap.size w w' := by
  have e0 : ((k : Int) % (v : Int) != 0) = true := by simp; omega
  have e1 : ((k : Int) % (v : Int) == 0) = false := by simp; omega
  have HV := Lib.hid hv
  clear hv
  go_enter Try.func33, Try.ntmps33
  go_wp2_with (go_at_call 29; refine (reforder_good k HV.out _).mono ?_; rintro e w1 ⟨g, cap, rfl, hg, hR, hb⟩)
  go_ret2
  exact ⟨rfl, hb⟩
set_option maxRecDepth 100000 in
set_option maxHeartbeats 1600000 in
theorem refree_good (k v : Nat) (hv : QM.valid k = true) (h1 : 1 ≤ v) (h : k % v = 0) (w : World) :
    Calls Try.prog 33 #[.int .i64 k, .int .i64 v] w fun e w' => e = .returned (.tuple #[.bool true, .int .i64 0]) ∧ Below w.heap.size w w' := by
  obtain ⟨hk1, hk2, _, _, _, _, _, _, _⟩ := good_facts k hv
  have e0 : ((k : Int) % (v : Int) != 0) = false := by simp; omega
  have hvk : v ≤ k := Nat.le_of_dvd (by omega) (Nat.dvd_of_mod_eq_zero h)
  obtain ⟨s, hs⟩ : ∃ s, s = k / v := ⟨_, rfl⟩
  have es : (k : Int) / (v : Int) = (s : Int) := by rw [hs]; simp
  have hsv : s * v = k := by rw [hs]; exact Nat.div_mul_cancel (Nat.dvd_of_mod_eq_zero h)
  have hs1 : 1 ≤ s := by rw [hs]; exact Nat.div_pos hvk (by omega)
  have hsk : s ≤ k := by rw [hs]; exact Nat.div_le_self _ _
  have ez : ((s : Int) == 0) = false := by simp; omega
  have hmk := make_ints v (by omega)
  have HV := Lib.hid hv
  have HS := Lib.hid hs
  have HSV := Lib.hid hsv
  have HM := Lib.hid h
  clear hv hs hsv h
  go_enter Try.func33, Try.ntmps33
  go_wp2_with (go_at_call 29; refine (reforder_good k HV.out _).mono ?_; rintro e w1 ⟨g, cap, rfl, hg, hRow, hb⟩; have hsz1 := hb.size)
  obtain ⟨_, _, q0, hgl, hc⟩ := hRow (by omega)
  injection q0 with q0
  injection q0 with q0 q1
  subst q0 q1
  have hcell := Lib.hid hc
  clear hc hRow
  go_loopw [9] (fun v34 wr => ∃ i : Nat, i ≤ s ∧ v34 = .int .i64 i ∧ Below w1.heap.size w1 wr) (fun v34 _ => s - (intOf v34).toNat)
  case atStart => exact ⟨0, Nat.zero_le _, rfl, Below.refl _ _⟩
  case round =>
    obtain ⟨i, hi, rfl, hW⟩ := hrel
    by_cases hlt : i < s
    · go_wp2
      obtain ⟨wo, hwo⟩ : ∃ wo : World, wo = wr := ⟨_, rfl⟩
      subst hwo
      have R0 := World.rowIs_made wo (.int .i64 0) v 3
      go_loopw [11] (fun v40 wr => ∃ j : Nat, j ≤ v ∧ v40 = .int .i64 j ∧ Below w1.heap.size w1 wr ∧
          wr.rowIs wo.heap.size 3 v (fun x => .int .i64 (if seen k s i j x then 1 else 0))) (fun v40 _ => v - (intOf v40).toNat)
      case atStart => exact ⟨0, Nat.zero_le _, rfl, hW.alloc hW.size _, R0⟩
      case round =>
        obtain ⟨j, hj, rfl, hW2, hR⟩ := hrel
        by_cases hlj : j < v
        · have hjs : j * s + s ≤ k := by
            have := Nat.mul_le_mul_right s (show j + 1 ≤ v by omega)
            rw [Nat.mul_comm v s, HSV.out, Nat.add_mul] at this
            omega
          have m0 : 0 ≤ (j : Int) * (s : Int) := by rw [← Int.natCast_mul]; omega
          have m1 : (j : Int) * (s : Int) ≤ 6144 := by rw [← Int.natCast_mul]; omega
          have m2 : (i : Int) + (j : Int) * (s : Int) < (k : Int) := by rw [← Int.natCast_mul]; omega
          have m3 : ((i : Int) + (j : Int) * (s : Int)).toNat = i + j * s := by rw [← Int.natCast_mul]; omega
          obtain ⟨p, hp⟩ : ∃ p, p = pi k (i + j * s) := ⟨_, rfl⟩
          have hpk : p < k := by rw [hp]; exact pi_lt _ _ (by omega)
          have hps : p / s < v := by rw [Nat.div_lt_iff_lt_mul (by omega), Nat.mul_comm, HSV.out]; exact hpk
          have hseen : seen k s i j (p / s) = false := by
            rw [hp, HS.out]; exact seen_free k v i j HV.out HM.out (by rw [← HS.out]; exact hlt) hlj
          have cc := hR.cell hps
          rw [hseen] at cc
          have ff := hR.frozen (p / s)
          have cr : wr.cell? ⟨g, i + j * s, none⟩ = some (.int .i64 (p : Nat)) := by
            rw [hp]
            have := hcell.out (i + j * s) (by omega)
            rw [Nat.zero_add] at this
            exact (hW2.cell (p := ⟨g, i + j * s, none⟩) hgl).trans this
          have d0 : (0 : Int) ≤ (p : Int) / (s : Int) := by rw [← Int.natCast_ediv]; exact Int.natCast_nonneg _
          have d1 : (p : Int) / (s : Int) < (v : Int) := by rw [← Int.natCast_ediv]; exact Int.ofNat_lt.2 hps
          have HP := Lib.hid hp
          have HSE := Lib.hid hseen
          have hne : ¬ wo.heap.size = g := by have := hW.size; omega
          clear hp hseen
          go_wp2
          go_roundw
          case rel =>
            refine ⟨j + 1, by omega, by go_num, hW2.setCell (by simp; have := hW.size; omega) _, ?_⟩
            refine (hR.set _ _).congr fun x hx => ?_
            simp only [seen, ← HP.out]
            by_cases hx : x = p / s
            · simp [hx]
            · simp [hx]
          case measure => simp [intOf]; omega
        · go_wp2
          go_roundw
          case rel => exact ⟨i + 1, by omega, by go_num, hW2⟩
          case measure => simp [intOf]; omega
    · go_wp2
      go_ret2
      exact ⟨rfl, hb.trans (hW.mono hb.size)⟩
end Go.Proofs.Ytekgahigbeceeaa
