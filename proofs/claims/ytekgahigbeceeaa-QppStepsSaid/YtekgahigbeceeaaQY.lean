/- QppSteps' law: the core at a valid and at an invalid block size. -/
import Derived.Test.YtekgahigbeceeaaQV
namespace Go.Proofs.Ytekgahigbeceeaa
open Go.RowKit Go.Shelf

theorem qppSteps_walk (k many : Int) (w : World) :
    Calls Try.prog 12 #[.int .i64 k, .int .i64 many] w fun e w' => e = .returned (.bool true) ∧ Below w.heap.size w w' := by
  cases hv : validI k with
  | false =>
    refine qppSteps_core k many 0 0 (by omega) (fun w => (reforder_bad k hv w).mono ?_) (fun w => (steps_any k w 0 0 0 ((of_bad k hv w).mono ?_)).mono ?_) w
    · rintro e w1 ⟨rfl, h⟩
      exact ⟨_, _, _, rfl, Row.nil, h⟩
    · rintro e w1 ⟨rfl, h⟩
      exact ⟨⟨_, rfl⟩, h⟩
    · rintro e w1 ⟨bx, rfl, hbx, hB, h⟩
      exact ⟨bx, _, rfl, hbx, hB, h, fun n0 n W h1 h2 hB2 hn => steps_bad_stops bx n0 n W h1 h2 hB2 0⟩
  | true =>
    obtain ⟨k, rfl, hq⟩ := validI_pos hv
    have hk2 := (good_facts k hq).2.1
    refine qppSteps_core k many k k (by omega) (fun w => (reforder_good k hq w).mono ?_) (fun w => (steps_any k w k (QM.f1 k) (QM.f2 k) ((of_good k hq w).mono ?_)).mono ?_) w
    · rintro e w1 ⟨g, c, rfl, b, r, h⟩
      exact ⟨_, _, _, rfl, r, h⟩
    · rintro e w1 ⟨rfl, h⟩
      exact ⟨⟨_, rfl⟩, h⟩
    · rintro e w1 ⟨bx, rfl, hbx, hB, h⟩
      exact ⟨bx, _, rfl, hbx, hB, h, fun n0 n W h1 h2 hB2 hn => steps_stops k hq bx n0 n W h1 h2 hB2 hn⟩
end Go.Proofs.Ytekgahigbeceeaa
