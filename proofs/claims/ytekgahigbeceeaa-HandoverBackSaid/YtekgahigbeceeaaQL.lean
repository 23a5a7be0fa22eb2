/- The walk of QppOrders. -/
import Derived.Test.YtekgahigbeceeaaQK
namespace Go.Proofs.Ytekgahigbeceeaa
open Go.RowKit

theorem same_nil (A A' : Option Addr) (c c' : Nat) (w : World) :
    Calls Try.prog 31 #[.slice A 0 c, .slice A' 0 c'] w fun e w' => e = .returned (.bool true) ∧ Below w.heap.size w w' :=
  same_true 0 A A' c c' w.heap.size (fun _ => 0) (fun _ => 0) w (by omega) Row.nil Row.nil (fun _ h => absurd h (by omega))

set_option maxHeartbeats 1600000 in
theorem qppOrders_walk (k : Int) (w : World) :
    Calls Try.prog 7 #[.int .i64 k] w fun e w' => e = .returned (.bool true) ∧ Below w.heap.size w w' := by
  cases hv : validI k with
  | false =>
    have HV := Lib.hid hv
    clear hv
    go_enter Try.func7, Try.ntmps7
    go_wp2_with (first
      | (go_at_call 27; refine (order_bad k HV.out _).mono ?_; rintro e w1 ⟨rfl, h1⟩)
      | (go_at_call 28; refine (inverse_bad k HV.out _).mono ?_; rintro e w2 ⟨rfl, h2⟩)
      | (go_at_call 29; refine (reforder_bad k HV.out _).mono ?_; rintro e w3 ⟨rfl, h3⟩)
      | (go_at_call 30; refine (refinverse_bad k HV.out _).mono ?_; rintro e w4 ⟨⟨g, cap, rfl⟩, h4⟩; have h5 := Below.refl w4.heap.size w4)
      | (go_at_call 31; refine (same_nil _ _ _ _ _).mono ?_; rintro e w5 ⟨rfl, h6⟩; have h5 := h5.trans (h6.mono h5.size))
      | (go_at_call 24; refine (num_any _ _).mono ?_; rintro e wn ⟨rfl, rfl⟩)
      | (go_at_call 25; refine (works_true _).mono ?_; rintro e w9 ⟨rfl, h9⟩))
    go_ret
    exact ⟨rfl, (chain3 (chain3 h1 h2 h3) h4 (h5.trans (h9.mono h5.size)))⟩
  | true =>
    obtain ⟨k, rfl, hq⟩ := validI_pos hv
    have hk2 := (good_facts k hq).2.1
    have HV := Lib.hid hq
    clear hv hq
    go_enter Try.func7, Try.ntmps7
    go_wp2_with (first
      | (go_at_call 27; refine (order_good k HV.out _).mono ?_; rintro e w1 ⟨g1, c1, rfl, b1, r1, h1⟩)
      | (go_at_call 28; refine (inverse_good k HV.out _).mono ?_; rintro e w2 ⟨g2, c2, rfl, b2, r2, h2⟩)
      | (go_at_call 29; refine (reforder_good k HV.out _).mono ?_; rintro e w3 ⟨g3, c3, rfl, b3, r3, h3⟩)
      | (go_at_call 30; refine (refinverse_good k HV.out _).mono ?_; rintro e w4 ⟨g4, c4, rfl, b4, r4, h4⟩; have r1 := ((r1.next h2).next h3).next h4; have r2 := (r2.next h3).next h4; have r3 := r3.next h4)
      | (go_at_call 31; ((with_reducible refine (same_true k (some ⟨g1, 0, none⟩) (some ⟨g3, 0, none⟩) c1 c3 w4.heap.size (fun i => (pi k i : Nat)) (fun i => (pi k i : Nat)) w4 (by omega) r1 r3 (fun _ _ => rfl)).mono ?_); rintro e w5 ⟨rfl, h6⟩; have r2 := r2.next h6; have r4 := r4.next h6))
      | (go_at_call 31; ((with_reducible refine (same_true k (some ⟨g2, 0, none⟩) (some ⟨g4, 0, none⟩) c2 c4 w5.heap.size (cont (pi k) (fun i => (i : Nat)) k) (cont (pi k) (fun i => (i : Nat)) k) w5 (by omega) r2 r4 (fun _ _ => rfl)).mono ?_); rintro e w6 ⟨rfl, h7⟩))
      | (go_at_call 24; refine (num_any _ _).mono ?_; rintro e wn ⟨rfl, rfl⟩)
      | (go_at_call 25; refine (works_true _).mono ?_; rintro e w9 ⟨rfl, h9⟩))
    go_ret
    exact ⟨rfl, chain3 (chain3 (chain3 h1 h2 h3) h4 h6) h7 h9⟩
end Go.Proofs.Ytekgahigbeceeaa
