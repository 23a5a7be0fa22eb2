/- Handover's small functions: IsControl, feedback's side. -/
import Derived.Test.YtekgahigbeceeaaQR
import Derived.Test.YtekgahigbeceeaaHN
import Derived.RegionTactic
namespace Go.Proofs.Ytekgahigbeceeaa
open Go.RowKit

theorem isControl_ok (A : Option Addr) (n c : Nat) (z : Nat → Int) (w : World) (hr : Row w w.heap.size A n (fun j => .int .u8 (z j))) :
    Calls Try.prog 17 #[.slice A n c] w fun e w' => e = .returned (.bool (decide (0 < n ∧ z 0 < 128))) ∧ Below w.heap.size w w' := by
  by_cases hn : 0 < n
  · obtain ⟨lb, lo, rfl, hlb, hlc⟩ := hr hn
    have hl0 : w.cell? ⟨lb, lo, none⟩ = some (.int .u8 (z 0)) := hlc 0 hn
    clear hlc hr
    go_enter Try.func17, Try.ntmps17
    go_wp2
    go_ret
    exact ⟨ret_bool (by simp [hn]), Below.refl _ _⟩
  · obtain rfl : n = 0 := by omega
    clear hr
    go_enter Try.func17, Try.ntmps17
    go_wp2
    go_ret
    exact ⟨ret_bool (by simp), Below.refl _ _⟩

theorem same_cond (a b : Nat) : (a == b) = decide (a = b) := rfl
end Go.Proofs.Ytekgahigbeceeaa
