/- Contracts of qpp.Interleave, Deinterleave, Bits, and of the reference's Interleave, Deinterleave. Written by gen/qo.py. -/
import Derived.Test.YtekgahigbeceeaaQL
import Derived.Test.YtekgahigbeceeaaApp
import Derived.RegionTactic
import Derived.ChangeAlike
namespace Go.Proofs.Ytekgahigbeceeaa
open Go.RowKit


theorem interleave_bad (A : Option Addr) (n c : Nat) (hv : validI (n : Int) = false) (w : World) :
    Calls Try.prog 35 #[.slice A n c] w fun e w' => e = .returned (.tuple #[.slice none 0 0, .int .i64 2]) ∧ Below w.heap.size w w' := by
  go_enter Try.func35, Try.ntmps35
  go_wp2_with (go_at_call 52; refine (minter_bad n _ hv _).mono ?_; rintro e w1 ⟨rfl, hb⟩)
  go_ret2
  exact ⟨rfl, ((Below.refl w.heap.size w).alloc (Nat.le_refl _) _).trans (hb.mono (by simp))⟩
theorem interleave_good (k : Nat) (hv : QM.valid k = true) (A : Option Addr) (c B : Nat) (z : Nat → Int) (w : World) (hr : Row w B A k (fun j => .int .i64 (z j))) (hB : B ≤ w.heap.size) :
    Calls Try.prog 35 #[.slice A k c] w (SlicePost .i64 k (fun i => z (pi k i)) 0 w) := by
  have hk := (good_facts k hv).1
  obtain ⟨b, off, rfl, hbB, hc⟩ := hr (by omega)
  have HV := Lib.hid hv
  have HC : Hid (∀ j, j < k → (w.alloc (.cells #[.slice (some ⟨b, off, none⟩) k c] 53)).cell? ⟨b, off + j, none⟩ = some (.int .i64 (z j))) := fun j hj => by
    rw [World.cell?_alloc_lt _ _ _ (by simp; omega)]; exact hc j hj
  clear hv hc hr
  go_enter Try.func35, Try.ntmps35
  go_wp2_with (go_at_call 52; refine (minter_good k w.heap.size b off c z HV.out _ (by simp) (by simp; omega) (by simp [go_sem]) HC).mono ?_; rintro e w1 ⟨g, rfl, hg, hR, hb⟩)
  go_ret2
  refine ⟨g, k, rfl, ?_, rowIs_row hR hR.lt (fun j hj => ?_), ((Below.refl w.heap.size w).alloc (Nat.le_refl _) _).trans (hb.mono (by simp))⟩
  · simp at hg; omega
  · rw [cont_id, if_pos hj]

theorem deinterleave_bad (A : Option Addr) (n c : Nat) (hv : validI (n : Int) = false) (w : World) :
    Calls Try.prog 36 #[.slice A n c] w fun e w' => e = .returned (.tuple #[.slice none 0 0, .int .i64 2]) ∧ Below w.heap.size w w' := by
  go_enter Try.func36, Try.ntmps36
  go_wp2_with (go_at_call 52; refine (mdeinter_bad n _ hv _).mono ?_; rintro e w1 ⟨rfl, hb⟩)
  go_ret2
  exact ⟨rfl, ((Below.refl w.heap.size w).alloc (Nat.le_refl _) _).trans (hb.mono (by simp))⟩
theorem deinterleave_good (k : Nat) (hv : QM.valid k = true) (A : Option Addr) (c B : Nat) (z : Nat → Int) (w : World) (hr : Row w B A k (fun j => .int .i64 (z j))) (hB : B ≤ w.heap.size) :
    Calls Try.prog 36 #[.slice A k c] w (SlicePost .i64 k (cont (pi k) z k) 0 w) := by
  have hk := (good_facts k hv).1
  obtain ⟨b, off, rfl, hbB, hc⟩ := hr (by omega)
  have HV := Lib.hid hv
  have HC : Hid (∀ j, j < k → (w.alloc (.cells #[.slice (some ⟨b, off, none⟩) k c] 53)).cell? ⟨b, off + j, none⟩ = some (.int .i64 (z j))) := fun j hj => by
    rw [World.cell?_alloc_lt _ _ _ (by simp; omega)]; exact hc j hj
  clear hv hc hr
  go_enter Try.func36, Try.ntmps36
  go_wp2_with (go_at_call 52; refine (mdeinter_good k w.heap.size b off c z HV.out _ (by simp) (by simp; omega) (by simp [go_sem]) HC).mono ?_; rintro e w1 ⟨g, rfl, hg, hR, hb⟩)
  go_ret2
  refine ⟨g, k, rfl, ?_, rowIs_row hR hR.lt (fun j hj => ?_), ((Below.refl w.heap.size w).alloc (Nat.le_refl _) _).trans (hb.mono (by simp))⟩
  · simp at hg; omega
  · rfl

theorem qbits_bad (A : Option Addr) (n c : Nat) (hv : validI (n : Int) = false) (w : World) :
    Calls Try.prog 34 #[.slice A n c] w fun e w' => e = .returned (.tuple #[.slice none 0 0, .int .i64 2]) ∧ Below w.heap.size w w' := by
  go_enter Try.func34, Try.ntmps34
  go_wp2_with (go_at_call 55; refine (mbits_bad n _ hv _).mono ?_; rintro e w1 ⟨rfl, hb⟩)
  go_ret2
  exact ⟨rfl, ((Below.refl w.heap.size w).alloc (Nat.le_refl _) _).trans (hb.mono (by simp))⟩
theorem qbits_good (k : Nat) (hv : QM.valid k = true) (A : Option Addr) (c B : Nat) (z : Nat → Int) (w : World) (hr : Row w B A k (fun j => .int .u8 (z j))) (hB : B ≤ w.heap.size) :
    Calls Try.prog 34 #[.slice A k c] w (SlicePost .u8 k (fun i => z (pi k i)) 0 w) := by
  have hk := (good_facts k hv).1
  obtain ⟨b, off, rfl, hbB, hc⟩ := hr (by omega)
  have HV := Lib.hid hv
  have HC : Hid (∀ j, j < k → (w.alloc (.cells #[.slice (some ⟨b, off, none⟩) k c] 22)).cell? ⟨b, off + j, none⟩ = some (.int .u8 (z j))) := fun j hj => by
    rw [World.cell?_alloc_lt _ _ _ (by simp; omega)]; exact hc j hj
  clear hv hc hr
  go_enter Try.func34, Try.ntmps34
  go_wp2_with (go_at_call 55; refine (mbits_good k w.heap.size b off c z HV.out _ (by simp) (by simp; omega) (by simp [go_sem]) HC).mono ?_; rintro e w1 ⟨g, rfl, hg, hR, hb⟩)
  go_ret2
  refine ⟨g, k, rfl, ?_, rowIs_row hR hR.lt (fun j hj => ?_), ((Below.refl w.heap.size w).alloc (Nat.le_refl _) _).trans (hb.mono (by simp))⟩
  · simp at hg; omega
  · rw [cont_id, if_pos hj]
end Go.Proofs.Ytekgahigbeceeaa
