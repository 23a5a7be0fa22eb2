/- law 47, XHI without what XU has. -/
import Derived.Test.YtknlipjgehgihaaMG
namespace Go.Proofs.Ytknlipjgehgihaa
open Go.RowKit
set_option maxRecDepth 100000 in
set_option maxHeartbeats 1600000 in
theorem status_any (first : Int) (n c : Nat) (A : Option Addr) (b : Nat → Bool) (w : World) (h0 : 0 ≤ first) (hm : n ≤ maxLen) (hr : Row w w.heap.size A n (fun j => .bool (b j))) :
    Calls Try.prog 9 #[.int .u64 first, .slice A n c] w (EncAny first n b w) := by
  by_cases h1 : 4294967296 < first ∨ (first = 4294967296 ∧ 0 < n)
  · have e1 : encErr first n = 2 := by unfold encErr; rw [if_pos h1]
    have e2 : encLen first n b = 0 := by unfold encLen; rw [if_pos (by rw [e1]; decide)]
    have e3 : EncAny first n b w = fun e w' => ∃ A cap, e = .returned (.tuple #[.slice A 0 cap, .int .i64 2]) ∧ Row w' w'.heap.size A 0 (fun j => .int .u8 (encAt first n b j)) ∧ Below w.heap.size w w' := by
      funext e w'; unfold EncAny; rw [e1, e2]
    rw [e3]
    clear e1 e2 e3 hr
    rcases h1 with h1 | ⟨rfl, h1⟩
    · go_enter Try.func9, Try.ntmps9
      go_wp2
      go_ret2
      first | exact ⟨none, 0, rfl, Row.nil, Below.refl _ _⟩ | exact ⟨none, ⟨0, rfl⟩, Row.nil, Below.refl _ _⟩
    · go_enter Try.func9, Try.ntmps9
      go_wp2
      go_ret2
      first | exact ⟨none, 0, rfl, Row.nil, Below.refl _ _⟩ | exact ⟨none, ⟨0, rfl⟩, Row.nil, Below.refl _ _⟩
  · by_cases h2 : 2047 < n
    · have e1 : encErr first n = 4 := by unfold encErr; rw [if_neg h1, if_pos h2]
      have e2 : encLen first n b = 0 := by unfold encLen; rw [if_pos (by rw [e1]; decide)]
      have e3 : EncAny first n b w = fun e w' => ∃ A cap, e = .returned (.tuple #[.slice A 0 cap, .int .i64 4]) ∧ Row w' w'.heap.size A 0 (fun j => .int .u8 (encAt first n b j)) ∧ Below w.heap.size w w' := by
        funext e w'; unfold EncAny; rw [e1, e2]
      rw [e3]
      have hlt : first < 4294967296 := by omega
      clear e1 e2 e3 hr h1
      go_enter Try.func9, Try.ntmps9
      go_wp2
      go_ret2
      first | exact ⟨none, 0, rfl, Row.nil, Below.refl _ _⟩ | exact ⟨none, ⟨0, rfl⟩, Row.nil, Below.refl _ _⟩
    · have e1 : encErr first n = 0 := by unfold encErr; rw [if_neg h1, if_neg h2]
      by_cases h3 : first = 4294967296
      · subst h3
        obtain rfl : n = 0 := by omega
        have e2 : encLen 4294967296 0 b = 6 := by unfold encLen; rw [if_neg (by rw [e1]; decide), if_pos rfl]
        have e3 : EncAny 4294967296 0 b w = fun e w' => ∃ A cap, e = .returned (.tuple #[.slice A 6 cap, .int .i64 0]) ∧ Row w' w'.heap.size A 6 (fun j => .int .u8 (eb 4294967295 (fun _ => true) 1 j)) ∧ Below w.heap.size w w' := by
          funext e w'; unfold EncAny; rw [e1, e2]; unfold encAt; simp only [if_pos]
        rw [e3]
        clear e1 e2 e3 hr h1 h2
        have hmk : ∀ w : World, (Instr.makeSlice 28 (.int .i64 6) (.int .i64 6)).run Try.prog w = .ok (.slice (some ⟨w.heap.size, 0, none⟩) 6 6) (w.alloc (.cells #[.int .u8 0, .int .u8 0, .int .u8 0, .int .u8 0, .int .u8 0, .int .u8 0] 5)) := by
          intro w
          have h := make_bytes 6 (by decide) w
          rw [show madeCells #[Value.int .u8 0] 6 = #[.int .u8 0, .int .u8 0, .int .u8 0, .int .u8 0, .int .u8 0, .int .u8 0] from by kernel_rfl] at h
          exact h
        go_enter Try.func9, Try.ntmps9
        go_wp2
        refine wp_loop_rounds 2 ?_
        rw [rounds_succ]
        go_wp2
        rw [rounds_succ]
        go_wp2
        refine wp_loop_rounds 5 ?_
        rw [rounds_succ]
        go_wp2
        rw [rounds_succ]
        go_wp2
        rw [rounds_succ]
        go_wp2
        rw [rounds_succ]
        go_wp2
        rw [rounds_succ]
        go_wp2
        refine wp_loop_rounds 2 ?_
        rw [rounds_succ]
        go_wp2
        obtain ⟨W1, hW1⟩ : ∃ W1, W1 = (w.alloc (.cells #[.bool true] 4)).alloc (.cells #[.int .u8 0, .int .u8 255, .int .u8 255, .int .u8 255, .int .u8 255, .int .u8 0] 5) := ⟨_, rfl⟩
        have z1 : W1.heap.size = w.heap.size + 2 := by rw [hW1]; simp
        have B1 : Blk W1 (w.heap.size + 1) 5 #[.int .u8 0, .int .u8 255, .int .u8 255, .int .u8 255, .int .u8 255, .int .u8 0] := by
          rw [hW1]
          have := Blk.new (w.alloc (.cells #[.bool true] 4)) 5 #[.int .u8 0, .int .u8 255, .int .u8 255, .int .u8 255, .int .u8 255, .int .u8 0]
          rwa [World.size_alloc] at this
        have b1 : Below w.heap.size w W1 := by rw [hW1]; exact ((Below.refl w.heap.size w).alloc (Nat.le_refl _) _).alloc (by simp) _
        rw [← hW1]
        have HW1 := Lib.hid hW1
        clear hW1
        have hc5p : W1.cell? ⟨w.heap.size + 1, 5, none⟩ = some (.int .u8 0) := B1.cell 5
        have hf5p : W1.frozen? ⟨w.heap.size + 1, 5, none⟩ = false := B1.frozen 5
        have hc5 : ∀ X, (W1.alloc (.cells X 5)).drew.cell? ⟨w.heap.size + 1, 5, none⟩ = some (.int .u8 0) := fun X => (B1.alloc _).cell 5
        have hf5 : ∀ X, (W1.alloc (.cells X 5)).drew.frozen? ⟨w.heap.size + 1, 5, none⟩ = false := fun X => (B1.alloc _).frozen 5
        have hb0 : (W1.alloc (.cells #[.int .u8 128, .int .u8 64, .int .u8 32, .int .u8 16, .int .u8 8, .int .u8 4, .int .u8 2, .int .u8 1] 5)).drew.cell? ⟨W1.heap.size, 0, none⟩ = some (.int .u8 128) := (Blk.new W1 _ _).cell 0
        go_region
        all_goals go_wp2
        rw [rounds_succ]
        go_wp2
        go_ret2
        have B2 := (((B1.set_ 5 (.int .u8 128)).alloc (.cells #[.int .u8 128, .int .u8 64, .int .u8 32, .int .u8 16, .int .u8 8, .int .u8 4, .int .u8 2, .int .u8 1] 5))).drew
        refine ⟨_, _, rfl, fun _ => ⟨_, 0, rfl, by simp; omega, fun j hj => ?_⟩, ((b1.setCell (by simp) _).alloc (by simp; omega) _).drew⟩
        rw [Nat.zero_add]
        refine (B2.cell j).trans ?_
        match j, hj with
        | 0, _ => rfl
        | 1, _ => rfl
        | 2, _ => rfl
        | 3, _ => rfl
        | 4, _ => rfl
        | 5, _ => rfl
      · obtain ⟨f, rfl⟩ : ∃ f : Nat, first = f := ⟨first.toNat, by omega⟩
        refine (status_core f n c A b w (by omega) (by omega) hr).mono ?_
        rintro e w1 ⟨g, cap, rfl, hg, hR, hb⟩
        have e2 : encLen f n b = 5 + (HM.last b n + 7) / 8 := by unfold encLen; rw [if_neg (by rw [e1]; decide), if_neg h3]
        refine ⟨_, cap, by rw [e1, e2], ?_, hb⟩
        rw [e2]
        refine hR.congr fun j hj => ?_
        unfold encAt
        rw [if_neg h3, Int.toNat_natCast]
end Go.Proofs.Ytknlipjgehgihaa
