/- Contracts of the reference's Interleave and Deinterleave. -/
import Derived.Test.YtekgahigbeceeaaQO
namespace Go.Proofs.Ytekgahigbeceeaa
open Go.RowKit

def pickList (k : Nat) (z : Nat → Int) (i : Nat) : List Value := (List.range i).map (fun j => Value.int .i64 (z (pi k j)))
theorem pickList_succ (k : Nat) (z : Nat → Int) (i : Nat) : pickList k z (i + 1) = pickList k z i ++ [.int .i64 (z (pi k i))] := by simp [pickList, List.range_succ]
theorem pickList_at (k : Nat) (z : Nat → Int) (i j : Nat) (h : j < i) : (pickList k z i)[j]? = some (.int .i64 (z (pi k j))) := by simp [pickList, h]

set_option maxRecDepth 100000 in
set_option maxHeartbeats 800000 in
theorem refinter_good (k : Nat) (hv : QM.valid k = true) (A : Option Addr) (c B : Nat) (z : Nat → Int) (w : World) (hr : Row w B A k (fun j => .int .i64 (z j))) (hB : B ≤ w.heap.size) :
    Calls Try.prog 37 #[.slice A k c] w (SlicePost .i64 k (fun i => z (pi k i)) 0 w) := by
  obtain ⟨hk, hk2, _, _, _, _, _, _, _⟩ := good_facts k hv
  obtain ⟨lb, lo, rfl, hlb, hlc⟩ := hr (by omega)
  have HV := Lib.hid hv
  have HL := Lib.hid hlc
  clear hv hlc hr
  obtain ⟨i0, hi, hz0, hz1, hz2⟩ := info_parts Try.infoInt
  go_enter Try.func37, Try.ntmps37
  go_wp2_with (go_at_call 29; refine (reforder_good k HV.out _).mono ?_; rintro e w1 ⟨g, cap, rfl, hg, hR, hb⟩)
  have hs1 := hb.size
  obtain ⟨_, _, e0, hgl, hc⟩ := hR (by omega)
  injection e0 with e0
  injection e0 with e0 e1
  subst e0 e1
  have HC := Lib.hid hc
  clear hc hR
  go_loopw [6, 7] (fun v6 v7 wr => ∃ i : Nat, i ≤ k ∧ v7 = .int .i64 i ∧ wr.ownsRow w1.heap.size 3 1 v6 i (pickList k z i) ∧ Below w1.heap.size w1 wr) (fun _ v7 _ => k - (intOf v7).toNat)
  case atStart => exact ⟨0, Nat.zero_le _, rfl, World.ownsRow_nil _ _ _ _, Below.refl _ _⟩
  case round =>
    obtain ⟨i, hik, rfl, hown, hW⟩ := hrel
    by_cases hlt : i < k
    · have hci : wr.cell? ⟨g, i, none⟩ = some (.int .i64 (pi k i : Nat)) := (hW.cell (p := ⟨g, i, none⟩) hgl).trans (by simpa using HC.out i hlt)
      have hpl := pi_lt k i (by omega)
      have hcl : wr.cell? ⟨lb, lo + pi k i, none⟩ = some (.int .i64 (z (pi k i))) := (hW.cell (p := ⟨lb, lo + pi k i, none⟩) (by simp; omega)).trans ((hb.cell (p := ⟨lb, lo + pi k i, none⟩) (by simp; omega)).trans (HL.out _ hpl))
      obtain ⟨p, hp⟩ : ∃ p, p = pi k i := ⟨_, rfl⟩
      have HP := Lib.hid hp
      rw [← hp] at hci hpl hcl
      clear hp
      go_wp2_with (at_builtin; refine wpList_append_one _ rfl _ _ 53 rfl w1.heap.size 3 i0 (.int .i64 0) 8 Try.underlying53 hi hz0 hz1 hz2 rfl _ _ _ rfl hown _ rfl rfl (by unfold maxLen; omega) (by omega) hW.size ?_; intro v' w2 hown' hg2)
      have hW' := hW.trans hg2
      go_roundw
      case rel => exact ⟨i + 1, by omega, by go_num, by rw [pickList_succ, ← HP.out]; exact hown', hW'⟩
      case measure => simp [intOf]; omega
    · have hik2 : i = k := by omega
      have HK := Lib.hid hik2
      clear hik2
      go_wp2
      go_ret2
      have := HK.out
      subst this
      obtain ⟨g2, cap2, hv2, hg2, hlt2⟩ := own_form hown (by omega)
      refine ⟨g2, cap2, ?_, by omega, ?_, hb.trans (hW.mono hs1)⟩
      · simp [hv2]
      · rw [hv2] at hown
        exact own_row hown (fun j hj => pickList_at _ _ _ _ hj) hlt2

set_option maxRecDepth 100000 in
set_option maxHeartbeats 1600000 in
theorem refdeinter_good (k : Nat) (hv : QM.valid k = true) (A : Option Addr) (c B : Nat) (z : Nat → Int) (w : World) (hr : Row w B A k (fun j => .int .i64 (z j))) (hB : B ≤ w.heap.size) :
    Calls Try.prog 38 #[.slice A k c] w (SlicePost .i64 k (cont (pi k) z k) 0 w) := by
  obtain ⟨hk, hk2, _, _, _, _, _, _, _⟩ := good_facts k hv
  obtain ⟨lb, lo, rfl, hlb, hlc⟩ := hr (by omega)
  have HV := Lib.hid hv
  have HL := Lib.hid hlc
  have hmk := make_ints k (by omega)
  clear hv hlc hr
  go_enter Try.func38, Try.ntmps38
  go_wp2_with (go_at_call 29; refine (reforder_good k HV.out _).mono ?_; rintro e w1 ⟨g, cap, rfl, hg, hR, hb⟩)
  have hs1 := hb.size
  obtain ⟨_, _, e0, hgl, hc⟩ := hR (by omega)
  injection e0 with e0
  injection e0 with e0 e1
  subst e0 e1
  have HC := Lib.hid hc
  clear hc hR
  have R0 := World.rowIs_made w1 (.int .i64 0) k 3
  go_loopw [7] (fun v wr => ∃ i : Nat, i ≤ k ∧ v = .int .i64 i ∧ w1.heap.size + 1 ≤ wr.heap.size ∧ wr.rowIs w1.heap.size 3 k (fun j => .int .i64 (cont (pi k) z i j)) ∧ Below w1.heap.size w1 wr) (fun v _ => k - (intOf v).toNat)
  case atStart => exact ⟨0, Nat.zero_le _, rfl, by simp, R0, (Below.refl _ _).alloc (Nat.le_refl _) _⟩
  case round =>
    obtain ⟨i, hi, rfl, hsz, hR, hW⟩ := hrel
    by_cases hlt : i < k
    · have hci : wr.cell? ⟨g, i, none⟩ = some (.int .i64 (pi k i : Nat)) := (hW.cell (p := ⟨g, i, none⟩) hgl).trans (by simpa using HC.out i hlt)
      have hcl : wr.cell? ⟨lb, lo + i, none⟩ = some (.int .i64 (z i)) := (hW.cell (p := ⟨lb, lo + i, none⟩) (by simp; omega)).trans ((hb.cell (p := ⟨lb, lo + i, none⟩) (by simp; omega)).trans (HL.out _ hlt))
      have hpl := pi_lt k i (by omega)
      obtain ⟨p, hp⟩ : ∃ p, p = pi k i := ⟨_, rfl⟩
      have HP := Lib.hid hp
      rw [← hp] at hci hpl
      clear hp
      have hcc := hR.cell hpl
      have hff := hR.frozen p
      have gi : (0 : Int) ≤ (i : Int) := by omega
      have gi2 : (i : Int) < (k : Int) := by omega
      have gp : (0 : Int) ≤ (p : Int) := by omega
      have gp2 : (p : Int) < (k : Int) := by omega
      go_wp2
      go_region
      all_goals go_wp2
      all_goals go_roundw
      case rel =>
        refine ⟨i + 1, by omega, by go_num, by simpa using hsz, ?_, (hW.drew).setCell (by simp) _⟩
        refine ((hR.drew).set _ _).congr fun j hj => ?_
        simp only [cont, ← HP.out]
        split <;> rfl
      case measure => simp [intOf]; omega
    · have hik2 : i = k := by omega
      have HK := Lib.hid hik2
      clear hik2
      go_wp2
      go_ret2
      have := HK.out
      subst this
      exact ⟨_, _, rfl, by omega, rowIs_row hR hR.lt (fun j hj => rfl), hb.trans (hW.mono hs1)⟩

theorem refinter_bad (A : Option Addr) (n c : Nat) (hv : validI (n : Int) = false) (w : World) :
    Calls Try.prog 37 #[.slice A n c] w fun e w' => e = .returned (.tuple #[.slice none 0 0, .int .i64 2]) ∧ Below w.heap.size w w' := by
  go_enter Try.func37, Try.ntmps37
  go_wp2_with (go_at_call 29; refine (reforder_bad n hv _).mono ?_; rintro e w1 ⟨rfl, hb⟩)
  go_rounds 1
  go_ret2
  exact ⟨rfl, hb⟩
theorem refdeinter_bad (A : Option Addr) (n c : Nat) (hv : validI (n : Int) = false) (w : World) :
    Calls Try.prog 38 #[.slice A n c] w fun e w' => (∃ g cap, e = .returned (.tuple #[.slice (some ⟨g, 0, none⟩) 0 cap, .int .i64 2])) ∧ Below w.heap.size w w' := by
  have hmk := make_int0
  go_enter Try.func38, Try.ntmps38
  go_wp2_with (go_at_call 29; refine (reforder_bad n hv _).mono ?_; rintro e w1 ⟨rfl, hb⟩)
  have hs1 := hb.size
  go_rounds 1
  go_ret2
  exact ⟨⟨_, _, rfl⟩, hb.alloc hs1 _⟩
end Go.Proofs.Ytekgahigbeceeaa
