/- header: the fields of a header value, and the test of one field. -/
import Derived.Test.YtejadoadpgcpjaaEE
namespace Go.Proofs.Ytejadoadpgcpjaa
open Go.RowKit

/-- name, width and pointer function of field k -/
def pname : Nat → Value
  | 0 => str [118, 101, 114, 115, 105, 111, 110]
  | 1 => str [99, 108, 97, 115, 115]
  | 2 => str [102, 108, 111, 119]
  | 3 => str [115, 111, 117, 114, 99, 101]
  | 4 => str [100, 101, 115, 116]
  | 5 => str [112, 114, 111, 116, 111]
  | 6 => str [104, 111, 112, 115]
  | 7 => str [105, 100, 101, 110, 116]
  | 8 => str [116, 105, 109, 101]
  | 9 => str [108, 101, 110, 103, 116, 104]
  | _ => .nilFunc
def pwd : Nat → Nat
  | 0 => 4
  | 1 => 4
  | 2 => 16
  | 3 => 32
  | 4 => 32
  | 5 => 8
  | 6 => 8
  | 7 => 16
  | 8 => 24
  | 9 => 16
  | _ => 0
def pfn (b : Nat) : Nat → Value
  | 0 => .func (.func 78) #[] #[.pointer (some ⟨b, 0, none⟩)]
  | 1 => .func (.func 79) #[] #[]
  | 2 => .func (.func 80) #[] #[]
  | 3 => .func (.func 81) #[] #[]
  | 4 => .func (.func 82) #[] #[]
  | 5 => .func (.func 83) #[] #[]
  | 6 => .func (.func 84) #[] #[]
  | 7 => .func (.func 85) #[] #[]
  | 8 => .func (.func 86) #[] #[]
  | 9 => .func (.func 87) #[] #[]
  | _ => .nilFunc
theorem ten {p : Nat → Prop} (h0 : p 0) (h1 : p 1) (h2 : p 2) (h3 : p 3) (h4 : p 4) (h5 : p 5) (h6 : p 6) (h7 : p 7) (h8 : p 8) (h9 : p 9) (k : Nat) (hk : k < 10) : p k := by
  match k, hk with
  | 0, _ => exact h0
  | 1, _ => exact h1
  | 2, _ => exact h2
  | 3, _ => exact h3
  | 4, _ => exact h4
  | 5, _ => exact h5
  | 6, _ => exact h6
  | 7, _ => exact h7
  | 8, _ => exact h8
  | 9, _ => exact h9
theorem parts_at (b k : Nat) (hk : k < 10) : (partsArr b)[3 * k]? = some (pname k) ∧ (partsArr b)[3 * k + 1]? = some (.int .i64 (pwd k : Int)) ∧ (partsArr b)[3 * k + 2]? = some (pfn b k) :=
  ten (p := fun k => (partsArr b)[3 * k]? = some (pname k) ∧ (partsArr b)[3 * k + 1]? = some (.int .i64 (pwd k : Int)) ∧ (partsArr b)[3 * k + 2]? = some (pfn b k)) ⟨rfl, rfl, rfl⟩ ⟨rfl, rfl, rfl⟩ ⟨rfl, rfl, rfl⟩ ⟨rfl, rfl, rfl⟩ ⟨rfl, rfl, rfl⟩ ⟨rfl, rfl, rfl⟩ ⟨rfl, rfl, rfl⟩ ⟨rfl, rfl, rfl⟩ ⟨rfl, rfl, rfl⟩ ⟨rfl, rfl, rfl⟩ k hk

/-- the cells of a header value -/
def hdr (h : Nat → Int) : Array Value := #[.int .i64 (h 0), .int .i64 (h 1), .int .i64 (h 2), .int .i64 (h 3), .int .i64 (h 4), .int .i64 (h 5), .int .i64 (h 6), .int .i64 (h 7), .int .i64 (h 8)]
theorem hdr_at (h : Nat → Int) (j : Nat) (hj : j < 9) : (hdr h)[j]? = some (.int .i64 (h j)) := by
  match j, hj with
  | 0, _ => rfl
  | 1, _ => rfl
  | 2, _ => rfl
  | 3, _ => rfl
  | 4, _ => rfl
  | 5, _ => rfl
  | 6, _ => rfl
  | 7, _ => rfl
  | 8, _ => rfl
/-- the value of field k, the version included -/
def hval (h : Nat → Int) (k : Nat) : Int := if k = 0 then 5 else h (k - 1)
/-- where it lies -/
def hat (b hb : Nat) (k : Nat) : Addr := if k = 0 then ⟨b, 0, none⟩ else ⟨hb, k - 1, none⟩
theorem at_0 (b hb : Nat) (w : World) : Calls Try.prog 78 #[.pointer (some ⟨hb, 0, none⟩), .pointer (some ⟨b, 0, none⟩)] w fun e w' => e = .returned (.pointer (some ⟨b, 0, none⟩)) ∧ w' = w := by
  go_enter Try.func78, Try.ntmps78
  go_wp2
  go_ret
  exact ⟨rfl, rfl⟩
theorem at_1 (hb : Nat) (w : World) : Calls Try.prog 79 #[.pointer (some ⟨hb, 0, none⟩)] w fun e w' => e = .returned (.pointer (some ⟨hb, 0, none⟩)) ∧ w' = w := by
  go_enter Try.func79, Try.ntmps79
  go_wp2
  go_ret
  exact ⟨rfl, rfl⟩
theorem at_2 (hb : Nat) (w : World) : Calls Try.prog 80 #[.pointer (some ⟨hb, 0, none⟩)] w fun e w' => e = .returned (.pointer (some ⟨hb, 1, none⟩)) ∧ w' = w := by
  go_enter Try.func80, Try.ntmps80
  go_wp2
  go_ret
  exact ⟨rfl, rfl⟩
theorem at_3 (hb : Nat) (w : World) : Calls Try.prog 81 #[.pointer (some ⟨hb, 0, none⟩)] w fun e w' => e = .returned (.pointer (some ⟨hb, 2, none⟩)) ∧ w' = w := by
  go_enter Try.func81, Try.ntmps81
  go_wp2
  go_ret
  exact ⟨rfl, rfl⟩
theorem at_4 (hb : Nat) (w : World) : Calls Try.prog 82 #[.pointer (some ⟨hb, 0, none⟩)] w fun e w' => e = .returned (.pointer (some ⟨hb, 3, none⟩)) ∧ w' = w := by
  go_enter Try.func82, Try.ntmps82
  go_wp2
  go_ret
  exact ⟨rfl, rfl⟩
theorem at_5 (hb : Nat) (w : World) : Calls Try.prog 83 #[.pointer (some ⟨hb, 0, none⟩)] w fun e w' => e = .returned (.pointer (some ⟨hb, 4, none⟩)) ∧ w' = w := by
  go_enter Try.func83, Try.ntmps83
  go_wp2
  go_ret
  exact ⟨rfl, rfl⟩
theorem at_6 (hb : Nat) (w : World) : Calls Try.prog 84 #[.pointer (some ⟨hb, 0, none⟩)] w fun e w' => e = .returned (.pointer (some ⟨hb, 5, none⟩)) ∧ w' = w := by
  go_enter Try.func84, Try.ntmps84
  go_wp2
  go_ret
  exact ⟨rfl, rfl⟩
theorem at_7 (hb : Nat) (w : World) : Calls Try.prog 85 #[.pointer (some ⟨hb, 0, none⟩)] w fun e w' => e = .returned (.pointer (some ⟨hb, 6, none⟩)) ∧ w' = w := by
  go_enter Try.func85, Try.ntmps85
  go_wp2
  go_ret
  exact ⟨rfl, rfl⟩
theorem at_8 (hb : Nat) (w : World) : Calls Try.prog 86 #[.pointer (some ⟨hb, 0, none⟩)] w fun e w' => e = .returned (.pointer (some ⟨hb, 7, none⟩)) ∧ w' = w := by
  go_enter Try.func86, Try.ntmps86
  go_wp2
  go_ret
  exact ⟨rfl, rfl⟩
theorem at_9 (hb : Nat) (w : World) : Calls Try.prog 87 #[.pointer (some ⟨hb, 0, none⟩)] w fun e w' => e = .returned (.pointer (some ⟨hb, 8, none⟩)) ∧ w' = w := by
  go_enter Try.func87, Try.ntmps87
  go_wp2
  go_ret
  exact ⟨rfl, rfl⟩
/-- does a field not fit? -/
def wrongB (v : Int) (w : Nat) : Bool := decide (v < 0) || decide (0 < v / 2 ^ w)

set_option maxRecDepth 100000 in
set_option maxHeartbeats 4000000 in
theorem wrong_ok (b hb k : Nat) (hk : k < 10) (h : Nat → Int) (w : World) (hB : Blk w b 3 #[.int .i64 5]) (hH : Blk w hb 25 (hdr h)) :
    Calls Try.prog 57 #[.agg #[pname k, .int .i64 (pwd k : Int), pfn b k], .pointer (some ⟨hb, 0, none⟩)] w fun e w' => e = .returned (.bool (wrongB (hval h k) (pwd k))) ∧ Below w.heap.size w w' := by
  revert k
  refine ten ?_ ?_ ?_ ?_ ?_ ?_ ?_ ?_ ?_ ?_
  · have c : w.cell? ⟨b, 0, none⟩ = some (.int .i64 5) := hB.cell 0
    have hlt : hb < w.heap.size := hH.lt
    have hlt2 : b < w.heap.size := hB.lt
    have e : wrongB (hval h 0) (pwd 0) = false := by show wrongB 5 4 = false; decide
    rw [e]
    show Calls Try.prog _ #[.agg #[str [118, 101, 114, 115, 105, 111, 110], .int .i64 4, .func (.func 78) #[] #[.pointer (some ⟨b, 0, none⟩)]], .pointer (some ⟨hb, 0, none⟩)] w _
    unfold str
    go_enter Try.func57, Try.ntmps57
    go_wp2
    go_quiet ((go_at_call 78; exact Calls.quiet_of_same (at_0 b hb _)))
    go_wp2
    go_ret
    exact ⟨rfl, below_drewN ((Below.refl _ w).alloc (Nat.le_refl _) _) _⟩
  · have c : w.cell? ⟨hb, 0, none⟩ = some (.int .i64 (h 0)) := hH.cell 0
    have hlt : hb < w.heap.size := hH.lt
    have hlt2 : b < w.heap.size := hB.lt
    by_cases hneg : h 0 < 0
    · have e : wrongB (hval h 1) (pwd 1) = true := by simp [wrongB, hval, hneg]
      rw [e]
      show Calls Try.prog _ #[.agg #[str [99, 108, 97, 115, 115], .int .i64 4, .func (.func 79) #[] #[]], .pointer (some ⟨hb, 0, none⟩)] w _
      unfold str
      have hn2 : decide (h 0 < 0) = true := by simpa using hneg
      go_enter Try.func57, Try.ntmps57
      go_wp2
      go_quiet ((go_at_call 79; exact Calls.quiet_of_same (at_1 hb _)))
      go_wp2
      go_ret
      exact ⟨rfl, below_drewN ((Below.refl _ w).alloc (Nat.le_refl _) _) _⟩
    · have e : wrongB (hval h 1) (pwd 1) = decide (0 < h 0 / 16) := by
        show (decide (h 0 < 0) || decide (0 < h 0 / 2 ^ 4)) = _
        simp [hneg]
      rw [e]
      show Calls Try.prog _ #[.agg #[str [99, 108, 97, 115, 115], .int .i64 4, .func (.func 79) #[] #[]], .pointer (some ⟨hb, 0, none⟩)] w _
      unfold str
      have hn2 : decide (h 0 < 0) = false := by simpa using hneg
      have hnn : 0 ≤ h 0 := by omega
      go_enter Try.func57, Try.ntmps57
      go_wp2
      go_quiet ((go_at_call 79; exact Calls.quiet_of_same (at_1 hb _)))
      go_wp2
      go_ret
      exact ⟨ret_bool (by simp), below_drewN ((Below.refl _ w).alloc (Nat.le_refl _) _) _⟩
  · have c : w.cell? ⟨hb, 1, none⟩ = some (.int .i64 (h 1)) := hH.cell 1
    have hlt : hb < w.heap.size := hH.lt
    have hlt2 : b < w.heap.size := hB.lt
    by_cases hneg : h 1 < 0
    · have e : wrongB (hval h 2) (pwd 2) = true := by simp [wrongB, hval, hneg]
      rw [e]
      show Calls Try.prog _ #[.agg #[str [102, 108, 111, 119], .int .i64 16, .func (.func 80) #[] #[]], .pointer (some ⟨hb, 0, none⟩)] w _
      unfold str
      have hn2 : decide (h 1 < 0) = true := by simpa using hneg
      go_enter Try.func57, Try.ntmps57
      go_wp2
      go_quiet ((go_at_call 80; exact Calls.quiet_of_same (at_2 hb _)))
      go_wp2
      go_ret
      exact ⟨rfl, below_drewN ((Below.refl _ w).alloc (Nat.le_refl _) _) _⟩
    · have e : wrongB (hval h 2) (pwd 2) = decide (0 < h 1 / 65536) := by
        show (decide (h 1 < 0) || decide (0 < h 1 / 2 ^ 16)) = _
        simp [hneg]
      rw [e]
      show Calls Try.prog _ #[.agg #[str [102, 108, 111, 119], .int .i64 16, .func (.func 80) #[] #[]], .pointer (some ⟨hb, 0, none⟩)] w _
      unfold str
      have hn2 : decide (h 1 < 0) = false := by simpa using hneg
      have hnn : 0 ≤ h 1 := by omega
      go_enter Try.func57, Try.ntmps57
      go_wp2
      go_quiet ((go_at_call 80; exact Calls.quiet_of_same (at_2 hb _)))
      go_wp2
      go_ret
      exact ⟨ret_bool (by simp), below_drewN ((Below.refl _ w).alloc (Nat.le_refl _) _) _⟩
  · have c : w.cell? ⟨hb, 2, none⟩ = some (.int .i64 (h 2)) := hH.cell 2
    have hlt : hb < w.heap.size := hH.lt
    have hlt2 : b < w.heap.size := hB.lt
    by_cases hneg : h 2 < 0
    · have e : wrongB (hval h 3) (pwd 3) = true := by simp [wrongB, hval, hneg]
      rw [e]
      show Calls Try.prog _ #[.agg #[str [115, 111, 117, 114, 99, 101], .int .i64 32, .func (.func 81) #[] #[]], .pointer (some ⟨hb, 0, none⟩)] w _
      unfold str
      have hn2 : decide (h 2 < 0) = true := by simpa using hneg
      go_enter Try.func57, Try.ntmps57
      go_wp2
      go_quiet ((go_at_call 81; exact Calls.quiet_of_same (at_3 hb _)))
      go_wp2
      go_ret
      exact ⟨rfl, below_drewN ((Below.refl _ w).alloc (Nat.le_refl _) _) _⟩
    · have e : wrongB (hval h 3) (pwd 3) = decide (0 < h 2 / 4294967296) := by
        show (decide (h 2 < 0) || decide (0 < h 2 / 2 ^ 32)) = _
        simp [hneg]
      rw [e]
      show Calls Try.prog _ #[.agg #[str [115, 111, 117, 114, 99, 101], .int .i64 32, .func (.func 81) #[] #[]], .pointer (some ⟨hb, 0, none⟩)] w _
      unfold str
      have hn2 : decide (h 2 < 0) = false := by simpa using hneg
      have hnn : 0 ≤ h 2 := by omega
      go_enter Try.func57, Try.ntmps57
      go_wp2
      go_quiet ((go_at_call 81; exact Calls.quiet_of_same (at_3 hb _)))
      go_wp2
      go_ret
      exact ⟨ret_bool (by simp), below_drewN ((Below.refl _ w).alloc (Nat.le_refl _) _) _⟩
  · have c : w.cell? ⟨hb, 3, none⟩ = some (.int .i64 (h 3)) := hH.cell 3
    have hlt : hb < w.heap.size := hH.lt
    have hlt2 : b < w.heap.size := hB.lt
    by_cases hneg : h 3 < 0
    · have e : wrongB (hval h 4) (pwd 4) = true := by simp [wrongB, hval, hneg]
      rw [e]
      show Calls Try.prog _ #[.agg #[str [100, 101, 115, 116], .int .i64 32, .func (.func 82) #[] #[]], .pointer (some ⟨hb, 0, none⟩)] w _
      unfold str
      have hn2 : decide (h 3 < 0) = true := by simpa using hneg
      go_enter Try.func57, Try.ntmps57
      go_wp2
      go_quiet ((go_at_call 82; exact Calls.quiet_of_same (at_4 hb _)))
      go_wp2
      go_ret
      exact ⟨rfl, below_drewN ((Below.refl _ w).alloc (Nat.le_refl _) _) _⟩
    · have e : wrongB (hval h 4) (pwd 4) = decide (0 < h 3 / 4294967296) := by
        show (decide (h 3 < 0) || decide (0 < h 3 / 2 ^ 32)) = _
        simp [hneg]
      rw [e]
      show Calls Try.prog _ #[.agg #[str [100, 101, 115, 116], .int .i64 32, .func (.func 82) #[] #[]], .pointer (some ⟨hb, 0, none⟩)] w _
      unfold str
      have hn2 : decide (h 3 < 0) = false := by simpa using hneg
      have hnn : 0 ≤ h 3 := by omega
      go_enter Try.func57, Try.ntmps57
      go_wp2
      go_quiet ((go_at_call 82; exact Calls.quiet_of_same (at_4 hb _)))
      go_wp2
      go_ret
      exact ⟨ret_bool (by simp), below_drewN ((Below.refl _ w).alloc (Nat.le_refl _) _) _⟩
  · have c : w.cell? ⟨hb, 4, none⟩ = some (.int .i64 (h 4)) := hH.cell 4
    have hlt : hb < w.heap.size := hH.lt
    have hlt2 : b < w.heap.size := hB.lt
    by_cases hneg : h 4 < 0
    · have e : wrongB (hval h 5) (pwd 5) = true := by simp [wrongB, hval, hneg]
      rw [e]
      show Calls Try.prog _ #[.agg #[str [112, 114, 111, 116, 111], .int .i64 8, .func (.func 83) #[] #[]], .pointer (some ⟨hb, 0, none⟩)] w _
      unfold str
      have hn2 : decide (h 4 < 0) = true := by simpa using hneg
      go_enter Try.func57, Try.ntmps57
      go_wp2
      go_quiet ((go_at_call 83; exact Calls.quiet_of_same (at_5 hb _)))
      go_wp2
      go_ret
      exact ⟨rfl, below_drewN ((Below.refl _ w).alloc (Nat.le_refl _) _) _⟩
    · have e : wrongB (hval h 5) (pwd 5) = decide (0 < h 4 / 256) := by
        show (decide (h 4 < 0) || decide (0 < h 4 / 2 ^ 8)) = _
        simp [hneg]
      rw [e]
      show Calls Try.prog _ #[.agg #[str [112, 114, 111, 116, 111], .int .i64 8, .func (.func 83) #[] #[]], .pointer (some ⟨hb, 0, none⟩)] w _
      unfold str
      have hn2 : decide (h 4 < 0) = false := by simpa using hneg
      have hnn : 0 ≤ h 4 := by omega
      go_enter Try.func57, Try.ntmps57
      go_wp2
      go_quiet ((go_at_call 83; exact Calls.quiet_of_same (at_5 hb _)))
      go_wp2
      go_ret
      exact ⟨ret_bool (by simp), below_drewN ((Below.refl _ w).alloc (Nat.le_refl _) _) _⟩
  · have c : w.cell? ⟨hb, 5, none⟩ = some (.int .i64 (h 5)) := hH.cell 5
    have hlt : hb < w.heap.size := hH.lt
    have hlt2 : b < w.heap.size := hB.lt
    by_cases hneg : h 5 < 0
    · have e : wrongB (hval h 6) (pwd 6) = true := by simp [wrongB, hval, hneg]
      rw [e]
      show Calls Try.prog _ #[.agg #[str [104, 111, 112, 115], .int .i64 8, .func (.func 84) #[] #[]], .pointer (some ⟨hb, 0, none⟩)] w _
      unfold str
      have hn2 : decide (h 5 < 0) = true := by simpa using hneg
      go_enter Try.func57, Try.ntmps57
      go_wp2
      go_quiet ((go_at_call 84; exact Calls.quiet_of_same (at_6 hb _)))
      go_wp2
      go_ret
      exact ⟨rfl, below_drewN ((Below.refl _ w).alloc (Nat.le_refl _) _) _⟩
    · have e : wrongB (hval h 6) (pwd 6) = decide (0 < h 5 / 256) := by
        show (decide (h 5 < 0) || decide (0 < h 5 / 2 ^ 8)) = _
        simp [hneg]
      rw [e]
      show Calls Try.prog _ #[.agg #[str [104, 111, 112, 115], .int .i64 8, .func (.func 84) #[] #[]], .pointer (some ⟨hb, 0, none⟩)] w _
      unfold str
      have hn2 : decide (h 5 < 0) = false := by simpa using hneg
      have hnn : 0 ≤ h 5 := by omega
      go_enter Try.func57, Try.ntmps57
      go_wp2
      go_quiet ((go_at_call 84; exact Calls.quiet_of_same (at_6 hb _)))
      go_wp2
      go_ret
      exact ⟨ret_bool (by simp), below_drewN ((Below.refl _ w).alloc (Nat.le_refl _) _) _⟩
  · have c : w.cell? ⟨hb, 6, none⟩ = some (.int .i64 (h 6)) := hH.cell 6
    have hlt : hb < w.heap.size := hH.lt
    have hlt2 : b < w.heap.size := hB.lt
    by_cases hneg : h 6 < 0
    · have e : wrongB (hval h 7) (pwd 7) = true := by simp [wrongB, hval, hneg]
      rw [e]
      show Calls Try.prog _ #[.agg #[str [105, 100, 101, 110, 116], .int .i64 16, .func (.func 85) #[] #[]], .pointer (some ⟨hb, 0, none⟩)] w _
      unfold str
      have hn2 : decide (h 6 < 0) = true := by simpa using hneg
      go_enter Try.func57, Try.ntmps57
      go_wp2
      go_quiet ((go_at_call 85; exact Calls.quiet_of_same (at_7 hb _)))
      go_wp2
      go_ret
      exact ⟨rfl, below_drewN ((Below.refl _ w).alloc (Nat.le_refl _) _) _⟩
    · have e : wrongB (hval h 7) (pwd 7) = decide (0 < h 6 / 65536) := by
        show (decide (h 6 < 0) || decide (0 < h 6 / 2 ^ 16)) = _
        simp [hneg]
      rw [e]
      show Calls Try.prog _ #[.agg #[str [105, 100, 101, 110, 116], .int .i64 16, .func (.func 85) #[] #[]], .pointer (some ⟨hb, 0, none⟩)] w _
      unfold str
      have hn2 : decide (h 6 < 0) = false := by simpa using hneg
      have hnn : 0 ≤ h 6 := by omega
      go_enter Try.func57, Try.ntmps57
      go_wp2
      go_quiet ((go_at_call 85; exact Calls.quiet_of_same (at_7 hb _)))
      go_wp2
      go_ret
      exact ⟨ret_bool (by simp), below_drewN ((Below.refl _ w).alloc (Nat.le_refl _) _) _⟩
  · have c : w.cell? ⟨hb, 7, none⟩ = some (.int .i64 (h 7)) := hH.cell 7
    have hlt : hb < w.heap.size := hH.lt
    have hlt2 : b < w.heap.size := hB.lt
    by_cases hneg : h 7 < 0
    · have e : wrongB (hval h 8) (pwd 8) = true := by simp [wrongB, hval, hneg]
      rw [e]
      show Calls Try.prog _ #[.agg #[str [116, 105, 109, 101], .int .i64 24, .func (.func 86) #[] #[]], .pointer (some ⟨hb, 0, none⟩)] w _
      unfold str
      have hn2 : decide (h 7 < 0) = true := by simpa using hneg
      go_enter Try.func57, Try.ntmps57
      go_wp2
      go_quiet ((go_at_call 86; exact Calls.quiet_of_same (at_8 hb _)))
      go_wp2
      go_ret
      exact ⟨rfl, below_drewN ((Below.refl _ w).alloc (Nat.le_refl _) _) _⟩
    · have e : wrongB (hval h 8) (pwd 8) = decide (0 < h 7 / 16777216) := by
        show (decide (h 7 < 0) || decide (0 < h 7 / 2 ^ 24)) = _
        simp [hneg]
      rw [e]
      show Calls Try.prog _ #[.agg #[str [116, 105, 109, 101], .int .i64 24, .func (.func 86) #[] #[]], .pointer (some ⟨hb, 0, none⟩)] w _
      unfold str
      have hn2 : decide (h 7 < 0) = false := by simpa using hneg
      have hnn : 0 ≤ h 7 := by omega
      go_enter Try.func57, Try.ntmps57
      go_wp2
      go_quiet ((go_at_call 86; exact Calls.quiet_of_same (at_8 hb _)))
      go_wp2
      go_ret
      exact ⟨ret_bool (by simp), below_drewN ((Below.refl _ w).alloc (Nat.le_refl _) _) _⟩
  · have c : w.cell? ⟨hb, 8, none⟩ = some (.int .i64 (h 8)) := hH.cell 8
    have hlt : hb < w.heap.size := hH.lt
    have hlt2 : b < w.heap.size := hB.lt
    by_cases hneg : h 8 < 0
    · have e : wrongB (hval h 9) (pwd 9) = true := by simp [wrongB, hval, hneg]
      rw [e]
      show Calls Try.prog _ #[.agg #[str [108, 101, 110, 103, 116, 104], .int .i64 16, .func (.func 87) #[] #[]], .pointer (some ⟨hb, 0, none⟩)] w _
      unfold str
      have hn2 : decide (h 8 < 0) = true := by simpa using hneg
      go_enter Try.func57, Try.ntmps57
      go_wp2
      go_quiet ((go_at_call 87; exact Calls.quiet_of_same (at_9 hb _)))
      go_wp2
      go_ret
      exact ⟨rfl, below_drewN ((Below.refl _ w).alloc (Nat.le_refl _) _) _⟩
    · have e : wrongB (hval h 9) (pwd 9) = decide (0 < h 8 / 65536) := by
        show (decide (h 8 < 0) || decide (0 < h 8 / 2 ^ 16)) = _
        simp [hneg]
      rw [e]
      show Calls Try.prog _ #[.agg #[str [108, 101, 110, 103, 116, 104], .int .i64 16, .func (.func 87) #[] #[]], .pointer (some ⟨hb, 0, none⟩)] w _
      unfold str
      have hn2 : decide (h 8 < 0) = false := by simpa using hneg
      have hnn : 0 ≤ h 8 := by omega
      go_enter Try.func57, Try.ntmps57
      go_wp2
      go_quiet ((go_at_call 87; exact Calls.quiet_of_same (at_9 hb _)))
      go_wp2
      go_ret
      exact ⟨ret_bool (by simp), below_drewN ((Below.refl _ w).alloc (Nat.le_refl _) _) _⟩
end Go.Proofs.Ytejadoadpgcpjaa
