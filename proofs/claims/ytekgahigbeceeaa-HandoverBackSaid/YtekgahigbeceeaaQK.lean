/- The walks of QppParams, QppOrders, QppFree: each answers true and writes nothing that was there. -/
import Derived.Test.YtekgahigbeceeaaQJ
namespace Go.Proofs.Ytekgahigbeceeaa
open Go.RowKit

/-- what is told of a slice of integers that came in -/
def IsRow (k : IntKind) (w : World) (a : Option Addr) (len cap : Nat) (zs : List Int) : Prop :=
  (a = none ∧ len = 0 ∧ cap = 0 ∧ zs = []) ∨
  ∃ x, a = some x ∧ len ≤ cap ∧ cap ≤ maxLen ∧ zs.length = cap ∧ (∀ i, i < zs.length → w.cell? (x.add i) = some (.int k (zs.getD i 0))) ∧ ∀ n ∈ zs, (Lit.int k n).wf = true

theorem chain3 {a b c d : World} (h1 : Below a.heap.size a b) (h2 : Below b.heap.size b c) (h3 : Below c.heap.size c d) : Below a.heap.size a d :=
  (h1.trans (h2.mono h1.size)).trans (h3.mono (Nat.le_trans h1.size h2.size))
theorem chain2 {a b c : World} (h1 : Below a.heap.size a b) (h2 : Below b.heap.size b c) : Below a.heap.size a c := h1.trans (h2.mono h1.size)

set_option maxHeartbeats 800000 in
theorem qppParams_walk (k i : Int) (w : World) :
    Calls Try.prog 6 #[.int .i64 k, .int .i64 i] w fun e w' => e = .returned (.bool true) ∧ Below w.heap.size w w' := by
  cases hv : validI k with
  | false =>
    have HV := Lib.hid hv
    clear hv
    go_enter Try.func6, Try.ntmps6
    go_wp2_with (first
      | (go_at_call 21; refine (params_bad k HV.out _).mono ?_; rintro e w1 ⟨rfl, h1⟩)
      | (go_at_call 22; refine (refparams_bad k HV.out _).mono ?_; rintro e w2 ⟨rfl, h2⟩)
      | (go_at_call 23; refine (pat_bad k i HV.out _).mono ?_; rintro e w3 ⟨rfl, h3⟩)
      | (go_at_call 24; refine (num_any _ _).mono ?_; rintro e wn ⟨rfl, rfl⟩)
      | (go_at_call 25; refine (works_true _).mono ?_; rintro e w9 ⟨rfl, h9⟩))
    go_ret
    exact ⟨rfl, chain2 (chain3 h1 h2 h3) h9⟩
  | true =>
    obtain ⟨k, rfl, hq⟩ := validI_pos hv
    have hk := (good_facts k hq).1
    have HV := Lib.hid hq
    clear hv hq
    by_cases hi : i < 0 ∨ (k : Int) ≤ i
    · have HI := Lib.hid hi
      rcases hi with hi | hi
      all_goals
        go_enter Try.func6, Try.ntmps6
        go_wp2_with (first
          | (go_at_call 21; refine (params_good k HV.out _).mono ?_; rintro e w1 ⟨rfl, h1⟩)
          | (go_at_call 22; refine (refparams_good k HV.out _).mono ?_; rintro e w2 ⟨rfl, h2⟩)
          | (go_at_call 23; refine (pat_out k i HV.out HI.out _).mono ?_; rintro e w3 ⟨rfl, h3⟩)
          | (go_at_call 24; refine (num_any _ _).mono ?_; rintro e wn ⟨rfl, rfl⟩)
          | (go_at_call 25; refine (works_true _).mono ?_; rintro e w9 ⟨rfl, h9⟩))
        go_ret
        exact ⟨rfl, chain2 (chain3 h1 h2 h3) h9⟩
    · have h0 : 0 ≤ i := by omega
      obtain ⟨i, rfl⟩ := Int.eq_ofNat_of_zero_le h0
      have hik : i < k := by omega
      go_enter Try.func6, Try.ntmps6
      go_wp2_with (first
        | (go_at_call 21; refine (params_good k HV.out _).mono ?_; rintro e w1 ⟨rfl, h1⟩)
        | (go_at_call 22; refine (refparams_good k HV.out _).mono ?_; rintro e w2 ⟨rfl, h2⟩)
        | (go_at_call 23; refine (pat_good k i HV.out hik _).mono ?_; rintro e w3 ⟨rfl, h3⟩)
        | (go_at_call 26; refine (refat_good k i HV.out hik _).mono ?_; rintro e w4 ⟨rfl, h4⟩)
        | (go_at_call 24; refine (num_any _ _).mono ?_; rintro e wn ⟨rfl, rfl⟩)
        | (go_at_call 25; refine (works_true _).mono ?_; rintro e w9 ⟨rfl, h9⟩))
      go_ret
      exact ⟨rfl, chain3 (chain3 h1 h2 h3) h4 h9⟩

set_option maxHeartbeats 800000 in
theorem qppFree_walk (k v : Int) (w : World) :
    Calls Try.prog 8 #[.int .i64 k, .int .i64 v] w fun e w' => e = .returned (.bool true) ∧ Below w.heap.size w w' := by
  cases hv : validI k with
  | false =>
    have HV := Lib.hid hv
    clear hv
    go_enter Try.func8, Try.ntmps8
    go_wp2_with (first
      | (go_at_call 32; refine (free_bad k v HV.out _).mono ?_; rintro e w1 ⟨rfl, h1⟩)
      | (go_at_call 33; refine (refree_bad k v HV.out _).mono ?_; rintro e w2 ⟨rfl, h2⟩)
      | (go_at_call 24; refine (num_any _ _).mono ?_; rintro e wn ⟨rfl, rfl⟩)
      | (go_at_call 25; refine (works_true _).mono ?_; rintro e w9 ⟨rfl, h9⟩))
    go_ret
    exact ⟨rfl, chain3 h1 h2 h9⟩
  | true =>
    obtain ⟨k, rfl, hq⟩ := validI_pos hv
    have HV := Lib.hid hq
    clear hv hq
    by_cases hlo : v < 1
    · go_enter Try.func8, Try.ntmps8
      go_wp2_with (first
        | (go_at_call 32; refine (free_low k v HV.out hlo _).mono ?_; rintro e w1 ⟨rfl, h1⟩)
        | (go_at_call 33; refine (refree_low k v HV.out hlo _).mono ?_; rintro e w2 ⟨rfl, h2⟩)
        | (go_at_call 24; refine (num_any _ _).mono ?_; rintro e wn ⟨rfl, rfl⟩)
        | (go_at_call 25; refine (works_true _).mono ?_; rintro e w9 ⟨rfl, h9⟩))
      go_ret
      exact ⟨rfl, chain3 h1 h2 h9⟩
    · obtain ⟨v, rfl⟩ := Int.eq_ofNat_of_zero_le (show 0 ≤ v by omega)
      have hv1 : 1 ≤ v := by omega
      by_cases hm : k % v = 0
      · have HM := Lib.hid hm
        clear hm
        go_enter Try.func8, Try.ntmps8
        go_wp2_with (first
          | (go_at_call 32; refine (free_good k v HV.out hv1 HM.out _).mono ?_; rintro e w1 ⟨rfl, h1⟩)
          | (go_at_call 33; refine (refree_good k v HV.out hv1 HM.out _).mono ?_; rintro e w2 ⟨rfl, h2⟩)
          | (go_at_call 24; refine (num_any _ _).mono ?_; rintro e wn ⟨rfl, rfl⟩)
          | (go_at_call 25; refine (works_true _).mono ?_; rintro e w9 ⟨rfl, h9⟩))
        go_ret
        exact ⟨rfl, chain3 h1 h2 h9⟩
      · have HM := Lib.hid hm
        clear hm
        go_enter Try.func8, Try.ntmps8
        go_wp2_with (first
          | (go_at_call 32; refine (free_not k v HV.out hv1 HM.out _).mono ?_; rintro e w1 ⟨rfl, h1⟩)
          | (go_at_call 33; refine (refree_not k v HV.out hv1 HM.out _).mono ?_; rintro e w2 ⟨rfl, h2⟩)
          | (go_at_call 24; refine (num_any _ _).mono ?_; rintro e wn ⟨rfl, rfl⟩)
          | (go_at_call 25; refine (works_true _).mono ?_; rintro e w9 ⟨rfl, h9⟩))
        go_ret
        exact ⟨rfl, chain3 h1 h2 h9⟩

end Go.Proofs.Ytekgahigbeceeaa
