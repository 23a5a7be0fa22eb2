/- the reference's Valid; equality of configurations. -/
import Derived.Test.YtiffminhlimajaaGreatZM
import Derived.Laws.StructEq
import Derived.ChangeKeysEq
namespace Go.Proofs.YtiffminhlimajaaGreat
open Go.RowKit
set_option linter.unusedVariables false
attribute [local go_sem ↓] Go.wp_at_zero Go.wp_at_succ

set_option maxRecDepth 100000 in
set_option maxHeartbeats 1600000 in
theorem rvalid45_ok (c : Cfg) (w : World) : Calls Tryz.prog 16 #[.agg c.arr] w fun e w' => e = .returned (.bool (decide c.Valid)) ∧ Below w.heap.size w w' := by
  have h0 : c.arr[0]? = some (.int .i64 c.b) := c.arr_at (by decide)
  have h1 : c.arr[1]? = some (.int .i64 c.d) := c.arr_at (by decide)
  have h2 : c.arr[37]? = some (.int .i64 c.ds) := c.arr_at (by decide)
  have h3 : c.arr[38]? = some (.int .i64 c.ro) := c.arr_at (by decide)
  have HV := Lib.hid (show c.Valid ↔ (0 ≤ c.b ∧ c.b ≤ 31 ∧ (c.d = 0 ∨ c.d = 1) ∧ 0 ≤ c.ds ∧ c.ds ≤ 1073741824 ∧ 0 ≤ c.ro ∧ c.ro ≤ 1073741824) from Iff.rfl)
  obtain ⟨V, hV⟩ : ∃ V, V = decide c.Valid := ⟨_, rfl⟩
  have HD := Lib.hid (show V = true ↔ c.Valid from by rw [hV]; exact decide_eq_true_iff)
  obtain ⟨Z, hZ⟩ : ∃ Z, Z = c.arr := ⟨_, rfl⟩
  rw [← hV]
  rw [← hZ] at h0 h1 h2 h3 ⊢
  obtain ⟨b, hb⟩ : ∃ b, b = c.b := ⟨_, rfl⟩
  obtain ⟨d, hd⟩ : ∃ d, d = c.d := ⟨_, rfl⟩
  obtain ⟨ds, hds⟩ : ∃ ds, ds = c.ds := ⟨_, rfl⟩
  obtain ⟨ro, hro⟩ : ∃ ro, ro = c.ro := ⟨_, rfl⟩
  rw [← hb] at h0 HV
  rw [← hd] at h1 HV
  rw [← hds] at h2 HV
  rw [← hro] at h3 HV
  clear hZ hV hb hd hds hro
  go_enter Tryz.func16, Tryz.ntmps16
  go_upto_region 1 with (fail)
  refine wp_let (fun W => Blk W w.heap.size 25 Z ∧ Below w.heap.size w W) ⟨Blk.new _ _ _, (Below.refl _ w).alloc (Nat.le_refl _) _⟩ ?_
  rintro W1 ⟨b1, b2⟩
  have x0 := (b1.cell 0).trans h0
  have x1 := (b1.cell 1).trans h1
  have x2 := (b1.cell 37).trans h2
  have x3 := (b1.cell 38).trans h3
  have HB := Lib.hid b2
  clear b1 b2 h0 h1 h2 h3
  have hout : ∀ r : Bool, (r = true ↔ (0 ≤ b ∧ b ≤ 31 ∧ (d = 0 ∨ d = 1) ∧ 0 ≤ ds ∧ ds ≤ 1073741824 ∧ 0 ≤ ro ∧ ro ≤ 1073741824)) → r = V := fun r hr => by
    rw [Bool.eq_iff_iff, hr, HD.out, HV.out]
  have HO := Lib.hid hout
  clear hout
  by_cases c0 : 0 ≤ b
  rotate_left
  · go_wp2
    go_ret
    exact ⟨ret_bool (HO.out _ ⟨fun h => (by cases h), fun h => (by omega)⟩), HB.out⟩
  by_cases c1 : b ≤ 31
  rotate_left
  · go_wp2
    go_ret
    exact ⟨ret_bool (HO.out _ ⟨fun h => (by cases h), fun h => (by omega)⟩), HB.out⟩
  by_cases c2 : d = 0 ∨ d = 1
  rotate_left
  · have d0 : (d == 0) = false := by simp; exact fun h => c2 (.inl h)
    have d1 : (d == 1) = false := by simp; exact fun h => c2 (.inr h)
    have HC2 := Lib.hid c2
    clear c2
    go_wp2
    go_ret
    exact ⟨ret_bool (HO.out _ ⟨fun h => (by cases h), fun h => (absurd h.2.2.1 HC2.out)⟩), HB.out⟩
  by_cases c3 : 0 ≤ ds
  rotate_left
  · rcases c2 with rfl | rfl
    · go_wp2
      go_ret
      exact ⟨ret_bool (HO.out _ ⟨fun h => (by cases h), fun h => (by omega)⟩), HB.out⟩
    · go_wp2
      go_ret
      exact ⟨ret_bool (HO.out _ ⟨fun h => (by cases h), fun h => (by omega)⟩), HB.out⟩
  by_cases c4 : ds ≤ 1073741824
  rotate_left
  · rcases c2 with rfl | rfl
    · go_wp2
      go_ret
      exact ⟨ret_bool (HO.out _ ⟨fun h => (by cases h), fun h => (by omega)⟩), HB.out⟩
    · go_wp2
      go_ret
      exact ⟨ret_bool (HO.out _ ⟨fun h => (by cases h), fun h => (by omega)⟩), HB.out⟩
  by_cases c5 : 0 ≤ ro
  rotate_left
  · rcases c2 with rfl | rfl
    · go_wp2
      go_ret
      exact ⟨ret_bool (HO.out _ ⟨fun h => (by cases h), fun h => (by omega)⟩), HB.out⟩
    · go_wp2
      go_ret
      exact ⟨ret_bool (HO.out _ ⟨fun h => (by cases h), fun h => (by omega)⟩), HB.out⟩
  by_cases c6 : ro ≤ 1073741824
  · rcases c2 with rfl | rfl
    · go_wp2
      go_ret
      exact ⟨ret_bool (HO.out _ ⟨fun h => ⟨by omega, by omega, by simp, by omega, by omega, by omega, by omega⟩, fun h => rfl⟩), HB.out⟩
    · go_wp2
      go_ret
      exact ⟨ret_bool (HO.out _ ⟨fun h => ⟨by omega, by omega, by simp, by omega, by omega, by omega, by omega⟩, fun h => rfl⟩), HB.out⟩
  · rcases c2 with rfl | rfl
    · go_wp2
      go_ret
      exact ⟨ret_bool (HO.out _ ⟨fun h => (by cases h), fun h => (by omega)⟩), HB.out⟩
    · go_wp2
      go_ret
      exact ⟨ret_bool (HO.out _ ⟨fun h => (by cases h), fun h => (by omega)⟩), HB.out⟩
theorem cells5 : Tryz.prog.cellsOf 5 = 1 := by kernel_rfl
theorem k_part (f : Nat → Int) (i : Nat) (hi : i < 16) (w : World) : (part 5 (kArr f) (i * 1)).run Tryz.prog w = .ok (.int .u8 (f i)) w := by
  obtain ⟨q, hq, _, hqs, _⟩ := info_parts Tryz.infoByte
  have h := kArr_at f i hi
  simp [part, Sem.run_bind, sizeOf, typeInfo, hq, hqs, h]
theorem k_items (f : Nat → Int) (d : Nat) : ∀ (is : List Nat) (_ : ∀ i, i ∈ is → i < 16) (w : World), (Op.eqItems (d + 1) 5 1 (kArr f) (kArr f) is).run Tryz.prog w = .ok true w
  | [], _, w => by simp [Op.eqItems]
  | i :: is, h, w => by
    simp only [Op.eqItems, Sem.run_bind, k_part f i (h i (by simp)) w, Result.andThen_ok]
    have hr := k_items f d is (fun j hj => h j (by simp [hj])) w
    simp [go_sem, hr]
theorem k_self (f : Nat → Int) (d : Nat) (w : World) : (Op.equalIn (d + 2) 23 (.agg (kArr f)) (.agg (kArr f))).run Tryz.prog w = .ok true w := by
  obtain ⟨q, hq, _⟩ := info_parts Tryz.infoByte
  rw [run_equalIn_array w (d + 1) (kArr f) (kArr f) Tryz.underlying23 hq, cells5, k_items f d (List.range 16) (fun i hi => by simpa using hi) w]
set_option maxRecDepth 100000 in
set_option maxHeartbeats 4000000 in
theorem cfg_self (c : Cfg) (w : World) : (binOp .eql 25 (.agg c.arr) (.agg c.arr)).run Tryz.prog w = .ok (.bool true) w := by
  have h1 := fun w => k_self c.key 9997 w
  have h2 := fun w => k_self c.code 9997 w
  rw [cfgLit_eq]
  unfold cfgLit
  simp only [kArr] at h1 h2
  simp [go_sem, h1, h2]
end Go.Proofs.YtiffminhlimajaaGreat
