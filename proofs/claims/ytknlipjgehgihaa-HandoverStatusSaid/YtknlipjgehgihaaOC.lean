/- pdcprx.Resume. -/
import Derived.Test.YtknlipjgehgihaaOB
namespace Go.Proofs.Ytknlipjgehgihaa
open Go.RowKit

attribute [local go_sem ↓] Go.wp_at_zero Go.wp_at_succ

set_option maxRecDepth 100000 in
set_option maxHeartbeats 6400000 in
theorem rresume_no (A : Option Addr) (m c : Nat) (d nx : Int) (ct : Nat → Int) (PA : Nat → Option Addr) (pn pc : Nat → Nat) (z : Nat → Nat → Int) (w : World) (hd : 0 ≤ d) (hnx : 0 ≤ nx ∧ nx < 18446744073709551616) (hd2 : d < 18446744073709551616) (hm : m ≤ maxLen) (h : Cnts w A m ct PA pn pc z) (hw : ¬ Whole d nx m ct pn) :
    Calls Try.prog 7 #[.agg z39, .agg #[.int .u64 d, .int .u64 nx, .slice A m c]] w fun e w' => e = .returned (.tuple #[.pointer none, .int .i64 2]) ∧ Below w.heap.size w w' := by
  have HV := Lib.hid (fun W => rvalid_zero W)
  have HW := Lib.hid (fun W (hW : Cnts W A m ct PA pn pc z) => whole_no A m c d nx ct PA pn pc z W hd hnx hd2 hm hW hw)
  have HC := Lib.hid h
  have HS : Hid ((Try.prog.info? 38).map (·.size) = some z39.size) := Lib.hid sizePd
  obtain ⟨Z, hZ⟩ : ∃ Z, Z = z39 := ⟨_, rfl⟩
  rw [← hZ] at HV HS ⊢
  have HU := Lib.hid Try.underlying38
  clear h hw hZ
  go_enter Try.func7, Try.ntmps7
  go_upto_region 1 with (fail)
  refine wp_world (fun W => Blk W w.heap.size 38 Z ∧ Blk W (w.heap.size + 1) 25 #[.int .u64 d, .int .u64 nx, .slice A m c] ∧ Below w.heap.size w W) ⟨(Blk.new _ _ _).alloc _, blk_at _ _ _ _ (by simp), ((Below.refl _ w).alloc (Nat.le_refl _) _).alloc (by simp) _⟩ ?_
  rintro W1 ⟨b1, b2, b3⟩
  have B1 := Lib.hid b1
  have B2 := Lib.hid b2
  have B3 := Lib.hid b3
  clear b1 b2 b3
  go_wp2_with (first
    | (refine wpList_load_row rfl _ _ rfl w.heap.size rfl 38 Z (0, 0) _ B1.out HU.out rfl HS.out ?_)
    | (go_at_call 25; refine (HV.out _).mono ?_; rintro e w2 ⟨rfl, hB⟩; have E2 := Lib.hid hB; have D2 := Lib.hid (below_step B3.out hB); have x0 := (B2.out.below hB B2.out.lt).cell 0; have x1 := (B2.out.below hB B2.out.lt).cell 1; have x2 := (B2.out.below hB B2.out.lt).cell 2; simp at x0 x1 x2; clear hB)
    | (go_at_call 26; refine (HW.out _ (HC.out.below D2.out)).mono ?_; rintro e w3 ⟨rfl, hB⟩; have D3 := Lib.hid (below_step D2.out hB); clear hB))
  go_ret2
  exact ⟨rfl, D3.out⟩
end Go.Proofs.Ytknlipjgehgihaa
