/- law 47, XHF without what XU has. -/
import Derived.Test.YtiffminhlimajaaME
namespace Go.Proofs.Ytiffminhlimajaa
open Go.RowKit
/-- the error of a status report -/
def encErr (first : Int) (n : Nat) : Int := if 4294967296 < first ∨ (first = 4294967296 ∧ 0 < n) then 2 else if 2047 < n then 4 else 0
/-- its length -/
def encLen (first : Int) (n : Nat) (b : Nat → Bool) : Nat := if encErr first n ≠ 0 then 0 else if first = 4294967296 then 6 else 5 + (HM.last b n + 7) / 8
/-- its byte j -/
def encAt (first : Int) (n : Nat) (b : Nat → Bool) (j : Nat) : Int := if first = 4294967296 then eb 4294967295 (fun _ => true) 1 j else eb first.toNat b n j
def EncAny (first : Int) (n : Nat) (b : Nat → Bool) (w : World) (e : Ending) (w' : World) : Prop :=
  ∃ A cap, e = .returned (.tuple #[.slice A (encLen first n b) cap, .int .i64 (encErr first n)]) ∧ Row w' w'.heap.size A (encLen first n b) (fun j => .int .u8 (encAt first n b j)) ∧ Below w.heap.size w w'
set_option maxRecDepth 100000 in
set_option maxHeartbeats 1600000 in
theorem enc_any (first : Int) (n c : Nat) (A : Option Addr) (b : Nat → Bool) (w : World) (h0 : 0 ≤ first) (hm : n ≤ maxLen) (hr : Row w w.heap.size A n (fun j => .bool (b j))) :
    Calls Try.prog 30 #[.int .u64 first, .slice A n c] w (EncAny first n b w) := by
  by_cases h1 : 4294967296 < first ∨ (first = 4294967296 ∧ 0 < n)
  · have e1 : encErr first n = 2 := by unfold encErr; rw [if_pos h1]
    have e2 : encLen first n b = 0 := by unfold encLen; rw [if_pos (by rw [e1]; decide)]
    have e3 : EncAny first n b w = fun e w' => ∃ A cap, e = .returned (.tuple #[.slice A 0 cap, .int .i64 2]) ∧ Row w' w'.heap.size A 0 (fun j => .int .u8 (encAt first n b j)) ∧ Below w.heap.size w w' := by
      funext e w'; unfold EncAny; rw [e1, e2]
    rw [e3]
    clear e1 e2 e3 hr
    rcases h1 with h1 | ⟨rfl, h1⟩
    · go_enter Try.func30, Try.ntmps30
      go_wp2
      go_ret2
      first | exact ⟨none, 0, rfl, Row.nil, Below.refl _ _⟩ | exact ⟨none, ⟨0, rfl⟩, Row.nil, Below.refl _ _⟩
    · go_enter Try.func30, Try.ntmps30
      go_wp2
      go_ret2
      first | exact ⟨none, 0, rfl, Row.nil, Below.refl _ _⟩ | exact ⟨none, ⟨0, rfl⟩, Row.nil, Below.refl _ _⟩
  · by_cases h2 : 2047 < n
    · have e1 : encErr first n = 4 := by unfold encErr; rw [if_neg h1, if_pos h2]
      have e2 : encLen first n b = 0 := by unfold encLen; rw [if_pos (by rw [e1]; decide)]
      have e3 : EncAny first n b w = fun e w' => ∃ A cap, e = .returned (.tuple #[.slice A 0 cap, .int .i64 4]) ∧ Row w' w'.heap.size A 0 (fun j => .int .u8 (encAt first n b j)) ∧ Below w.heap.size w w' := by
        funext e w'; unfold EncAny; rw [e1, e2]
      rw [e3]
      have hlt : first < 4294967296 := by omega
      clear e1 e2 e3 hr h1
      go_enter Try.func30, Try.ntmps30
      go_wp2
      go_ret2
      first | exact ⟨none, 0, rfl, Row.nil, Below.refl _ _⟩ | exact ⟨none, ⟨0, rfl⟩, Row.nil, Below.refl _ _⟩
    · have e1 : encErr first n = 0 := by unfold encErr; rw [if_neg h1, if_neg h2]
      by_cases h3 : first = 4294967296
      · subst h3
        obtain rfl : n = 0 := by omega
        have e2 : encLen 4294967296 0 b = 6 := by unfold encLen; rw [if_neg (by rw [e1]; decide), if_pos rfl]
        have e3 : EncAny 4294967296 0 b w = fun e w' => ∃ A cap, e = .returned (.tuple #[.slice A 6 cap, .int .i64 0]) ∧ Row w' w'.heap.size A 6 (fun j => .int .u8 (eb 4294967295 (fun _ => true) 1 j)) ∧ Below w.heap.size w w' := by
          funext e w'; unfold EncAny; rw [e1, e2]; unfold encAt; simp only [if_pos]
        rw [e3]
        clear e1 e2 e3 hr h1 h2
        have hrec : ∀ w1 : World, w1 = w.alloc (.cells #[.bool true] 4) → Calls Try.prog 30 #[.int .u64 4294967295, .slice (some ⟨w.heap.size, 0, none⟩) 1 1] w1 (EncPost 4294967295 1 (fun _ => true) w1) := by
          intro w1 e
          refine enc_core 4294967295 1 1 _ (fun _ => true) w1 (by decide) (by decide) (fun _ => ⟨_, _, rfl, by rw [e]; simp, fun j hj => ?_⟩)
          obtain rfl : j = 0 := by omega
          rw [e]
          exact (Blk.new w 4 #[.bool true]).cell 0
        have HRec := Lib.hid hrec
        clear hrec
        go_enter Try.func30, Try.ntmps30
        go_wp2_with (go_at_call 30; refine (HRec.out _ rfl).mono ?_; rintro e w1 ⟨g, cap, rfl, hg, hR, hb⟩)
        go_ret2
        exact ⟨_, _, rfl, hR, ((Below.refl w.heap.size w).alloc (Nat.le_refl _) _).trans (hb.mono (by simp))⟩
      · obtain ⟨f, rfl⟩ : ∃ f : Nat, first = f := ⟨first.toNat, by omega⟩
        refine (enc_core f n c A b w (by omega) (by omega) hr).mono ?_
        rintro e w1 ⟨g, cap, rfl, hg, hR, hb⟩
        have e2 : encLen f n b = 5 + (HM.last b n + 7) / 8 := by unfold encLen; rw [if_neg (by rw [e1]; decide), if_neg h3]
        refine ⟨_, cap, by rw [e1, e2], ?_, hb⟩
        rw [e2]
        refine hR.congr fun j hj => ?_
        unfold encAt
        rw [if_neg h3, Int.toNat_natCast]
end Go.Proofs.Ytiffminhlimajaa
