/- Contracts of segment.Valid and spans, and of the reference's Valid: a block size is one of the four ranges. No condition. -/
import Derived.Test.YtekgahigbeceeaaRows
import Derived.Test.YtekgahigbeceeaaW
import Derived.WalkKit
import Derived.WalkSpells
import Derived.WalkLawsBesides
import Derived.Deep.QuietTactic
import Derived.BigQuiet
import Derived.Deep.DeepFit
import Derived.Handy
namespace Go.Proofs.Ytekgahigbeceeaa
open Go.RowKit


theorem spans_any (w : World) :
    Calls Try.prog 66 #[] w fun e w' => e = .returned (.agg #[.int .i64 40, .int .i64 512, .int .i64 8, .int .i64 528, .int .i64 1024, .int .i64 16, .int .i64 1056, .int .i64 2048, .int .i64 32, .int .i64 2112, .int .i64 6144, .int .i64 64]) ∧ Below w.heap.size w w' := by
  go_enter Try.func66, Try.ntmps66
  go_wp2
  go_returns
  exact ⟨by rfl, by go_grown⟩

def spansV : Value := .agg #[.int .i64 40, .int .i64 512, .int .i64 8, .int .i64 528, .int .i64 1024, .int .i64 16, .int .i64 1056, .int .i64 2048, .int .i64 32, .int .i64 2112, .int .i64 6144, .int .i64 64]
theorem span0 (w : World) : (Instr.index 97 spansV (.int .i64 0)).run Try.prog w = .ok (.agg #[.int .i64 40, .int .i64 512, .int .i64 8]) w := by kernel_rfl
theorem span1 (w : World) : (Instr.index 97 spansV (.int .i64 1)).run Try.prog w = .ok (.agg #[.int .i64 528, .int .i64 1024, .int .i64 16]) w := by kernel_rfl
theorem span2 (w : World) : (Instr.index 97 spansV (.int .i64 2)).run Try.prog w = .ok (.agg #[.int .i64 1056, .int .i64 2048, .int .i64 32]) w := by kernel_rfl
theorem span3 (w : World) : (Instr.index 97 spansV (.int .i64 3)).run Try.prog w = .ok (.agg #[.int .i64 2112, .int .i64 6144, .int .i64 64]) w := by kernel_rfl
theorem spans_v (w : World) :
    Calls Try.prog 66 #[] w fun e w' => e = .returned spansV ∧ Below w.heap.size w w' := spans_any w

def validI (k : Int) : Bool := decide ((40 ≤ k ∧ k ≤ 512 ∧ k % 8 = 0) ∨ (528 ≤ k ∧ k ≤ 1024 ∧ k % 16 = 0) ∨ (1056 ≤ k ∧ k ≤ 2048 ∧ k % 32 = 0) ∨ (2112 ≤ k ∧ k ≤ 6144 ∧ k % 64 = 0))

set_option maxRecDepth 100000 in
theorem valid_any (k : Int) (w : World) :
    Calls Try.prog 62 #[.int .i64 k] w fun e w' => e = .returned (.bool (validI k)) ∧ Below w.heap.size w w' := by
  have i0 := span0
  have i1 := span1
  have i2 := span2
  have i3 := span3
  go_enter Try.func62, Try.ntmps62
  go_wp2_with (go_at_call 66; refine (spans_v _).mono ?_; rintro e w1 ⟨rfl, hb⟩)
  go_rounds 5
  all_goals
    go_returns
    refine ⟨ret_bool ?_, ?_⟩
    · unfold validI; rw [Bool.eq_iff_iff]; simp; omega
    · repeat' (refine Below.alloc ?_ ?_ _)
      all_goals (first | exact hb | exact hb.size | (have := hb.size; simp; omega))
end Go.Proofs.Ytekgahigbeceeaa
