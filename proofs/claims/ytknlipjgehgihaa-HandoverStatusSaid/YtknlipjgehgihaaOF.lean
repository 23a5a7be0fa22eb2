/- pdcprx.Status. -/
import Derived.Test.YtknlipjgehgihaaOE
import Derived.OwnWalk
namespace Go.Proofs.Ytknlipjgehgihaa
open Go.RowKit

attribute [local go_sem ↓] Go.wp_at_zero Go.wp_at_succ

theorem rnone_made (rb : Nat) (w : World) (h : w.cell? ⟨rb, 39, none⟩ = some (.bool true)) : Calls Try.prog 54 #[.pointer (some ⟨rb, 0, none⟩)] w fun e w' => e = .returned (.bool false) ∧ w = w' := by
  go_enter Try.func54, Try.ntmps54
  go_wp2
  go_ret
  exact ⟨rfl, rfl⟩
def stN (d nx : Int) : Nat := (nx - d - 1).toNat
def stB (L : List Int) (d : Int) (j : Nat) : Bool := decide (d + 1 + j ∈ L)

set_option maxRecDepth 100000 in
set_option maxHeartbeats 3200000 in
theorem rxstat_ok (rb mS mU eb : Nat) (d nx : Int) (L : List Int) (w : World) (hR : Blk w rb 75 (rxArr d nx mS mU eb)) (hS : UB w mS L) (hd : 0 ≤ d) (hh : headOk d nx) :
    Calls Try.prog 30 #[.pointer (some ⟨rb, 0, none⟩)] w fun e w' => ∃ A c, e = .returned (.tuple #[.int .u64 d, .slice A (stN d nx) c]) ∧ stN d nx ≤ c ∧ Row w' w'.heap.size A (stN d nx) (fun j => .bool (stB L d j)) ∧ Below w.heap.size w w' := by
  obtain ⟨h1, h2, h3⟩ := hh
  obtain ⟨i0, hi0, hz0, hz1, hz2⟩ := info_parts Try.infoBool
  have HN := Lib.hid (rnone_made rb w (hR.cell 39))
  have RR := Lib.hid hR
  have SS := Lib.hid hS
  have hsn : (stN d nx : Int) = if nx = d then 0 else nx - d - 1 := by unfold stN; split <;> omega
  have x0 : w.cell? ⟨rb, 41, none⟩ = some (.int .u64 d) := hR.cell 41
  have hw1 : IntKind.u64.wrap (d + 1) = d + 1 := by simp [IntKind.wrap_u64]; omega
  have d0 : 0 ≤ d + 1 := by omega
  have HSN := Lib.hid hsn
  clear hR hS hsn
  go_enter Try.func30, Try.ntmps30
  go_wp2_with (go_at_call 54; refine (HN.out).mono ?_; rintro e w1 ⟨rfl, rfl⟩)
  go_loopw [4, 5] (fun v4 v5 wr => ∃ (k : Nat), k ≤ stN d nx ∧ v5 = .int .u64 (d + 1 + k) ∧ wr.ownsRow w.heap.size 4 1 v4 k ((List.range k).map fun j => Value.bool (stB L d j)) ∧ Below w.heap.size w wr) (fun _ v5 _ => (nx - intOf v5).toNat)
  case atStart => exact ⟨0, by omega, by simp, World.ownsRow_nil _ _ _ _, Below.refl _ _⟩
  case round =>
    obtain ⟨k, hk, rfl, hown, hB⟩ := hrel
    have hs := HSN.out
    have y0 := (RR.out.below hB RR.out.lt).cell 42
    have y1 := (RR.out.below hB RR.out.lt).cell 43
    have y2 := (RR.out.below hB RR.out.lt).cell 41
    change wr.cell? ⟨rb, 42, none⟩ = some (.int .u64 nx) at y0
    change wr.cell? ⟨rb, 43, none⟩ = some (.map (some mS)) at y1
    change wr.cell? ⟨rb, 41, none⟩ = some (.int .u64 d) at y2
    obtain ⟨v0, hget⟩ := uget wr mS L (d + 1 + k) (SS.out.below hB SS.out.lt)
    have HOW := Lib.hid hown
    have BR := Lib.hid hB
    have hbs := hB.size
    by_cases hlt : k < stN d nx
    · have t1 : d + 1 + (k : Int) < nx := by split at hs <;> omega
      have tw : IntKind.u64.wrap (d + 1 + (k : Int) + 1) = d + 1 + (k : Int) + 1 := by simp [IntKind.wrap_u64]; omega
      have t2 : 0 ≤ d + 1 + (k : Int) := by omega
      have hk2 : k ≤ 2048 := by split at hs <;> omega
      have HBB := Lib.hid (show stB L d k = decide (d + 1 + (k : Int) ∈ L) from rfl)
      obtain ⟨bv, hbv⟩ : ∃ bv, bv = decide (d + 1 + (k : Int) ∈ L) := ⟨_, rfl⟩
      rw [← hbv] at hget HBB
      obtain ⟨n, hn⟩ : ∃ n, n = d + 1 + (k : Int) := ⟨_, rfl⟩
      have HNN := Lib.hid hn
      rw [← hn] at hget t1 tw t2 ⊢
      clear hs hn hbv hB
      go_wp2_with (at_builtin; refine wpList_append_own _ rfl _ _ 43 rfl w.heap.size 4 i0 (.bool false) 1 1 Try.underlying43 hi0 hz0 hz1 hz2 rfl (by decide) _ _ _ rfl (HOW.out.alloc _) ⟨wr.heap.size, 0, none⟩ 1 1 [.bool bv] rfl rfl (cell_one_new _ _ _) (by simp [Value.oneCell']) (by unfold maxLen; omega) (by omega) (by simp; omega) ?_; intro v' w2 hown' hgrow _; have HO2 := Lib.hid hown'; have HG2 := Lib.hid hgrow; clear hown' hgrow)
      have BF := Lib.hid (show Below w.heap.size w w2 from BR.out.trans (((Below.refl _ wr).alloc hbs _).grown HG2.out (by simp; omega) (fun j e => (HOW.out.lt j e).1)))
      have OF := Lib.hid (show w2.ownsRow w.heap.size 4 1 v' (k + 1) ((List.range (k + 1)).map fun j => Value.bool (stB L d j)) from by
        rw [List.range_succ, List.map_append]
        have := HO2.out
        simpa [HBB.out] using this)
      go_roundw
      case rel => first | exact ⟨k + 1, by omega, by rw [HNN.out]; go_num, OF.out, BF.out⟩ | ((repeat apply Exists.intro); exact ⟨⟨k + 1, by omega, by rw [HNN.out]; go_num, OF.out, BF.out⟩, rfl⟩)
      case measure => simp [intOf]; omega
    · have hke : k = stN d nx := by omega
      have t1 : ¬ d + 1 + (k : Int) < nx := by split at hs <;> omega
      obtain ⟨A, cp, rfl, hcp, _, _, hrow⟩ := own_any (f := fun j => .bool (stB L d j)) hown (fun j hj => by simp [hj])
      have HRW := Lib.hid hrow
      have HKE := Lib.hid hke
      clear hs hown hrow hke
      go_wp2
      go_ret2
      exact ⟨A, cp, by rw [← HKE.out]; rfl, by rw [← HKE.out]; exact hcp, by rw [← HKE.out]; exact HRW.out, BR.out⟩
end Go.Proofs.Ytknlipjgehgihaa
