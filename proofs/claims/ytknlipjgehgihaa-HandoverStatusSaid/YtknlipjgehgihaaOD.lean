/- expand.New; the map literal of one key (zero key). -/
import Derived.Test.YtknlipjgehgihaaOC
namespace Go.Proofs.Ytknlipjgehgihaa
open Go.RowKit

attribute [local go_sem ↓] Go.wp_at_zero Go.wp_at_succ

set_option maxRecDepth 100000 in
theorem exp_new (w : World) : Calls Try.prog 27 #[] w fun e w' => e = .returned (.pointer (some ⟨w.heap.size, 0, none⟩)) ∧ Below w.heap.size w w' := by
  go_enter Try.func27, Try.ntmps27
  go_wp2
  go_ret
  exact ⟨rfl, (Below.refl _ w).alloc (Nat.le_refl _) _⟩
def k16 : Array Value := #[.int .u8 0, .int .u8 0, .int .u8 0, .int .u8 0, .int .u8 0, .int .u8 0, .int .u8 0, .int .u8 0, .int .u8 0, .int .u8 0, .int .u8 0, .int .u8 0, .int .u8 0, .int .u8 0, .int .u8 0, .int .u8 0]
theorem z39_key : z39.extract 2 18 = k16 := by kernel_rfl
theorem k16_check (W : World) : (Instr.checkKey false 10000 36 (.agg k16)).run Try.prog W = .ok () W := by kernel_rfl
end Go.Proofs.Ytknlipjgehgihaa
