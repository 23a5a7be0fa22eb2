/- The iterator of qpp.Steps: its contract, for every loop body that keeps what lay below a bound. -/
import Derived.RangeFuncNested
import Derived.RangeFuncBound
import Derived.RangeFuncCalls
import Derived.RangeFuncLeaves
import Derived.Shelf.Abstract
import Derived.Shelf.RegionOpen
import Derived.WalkKit
import Derived.OwnWalkIn
import Derived.TacticsInMore
import Derived.LoopNIn
import Derived.LoopIn
import Derived.Test.YtekgahigbeceeaaQR
namespace Go.Proofs.Ytekgahigbeceeaa
open Go.RowKit Go.Shelf

attribute [local go_sem] Oper.semAt_some

theorem grown_of_below {a w : World} (h : Below a.heap.size a w) (row : Option Nat) : a.grownBy w row := ⟨h.os, h.tape, h.output, h.size, fun i hi _ => h.block i hi⟩

set_option maxRecDepth 100000 in
set_option maxHeartbeats 2000000 in
theorem steps_stops (k : Nat) (hv : QM.valid k = true) (bx n0 n : Nat) (w : World) (hbx : bx < n0) (hn0 : n0 ≤ w.heap.size) (hB : Blk w bx 79 #[.int .i64 (k : Int), .int .i64 (QM.f1 k : Int), .int .i64 (QM.f2 k : Int)]) (hn : 1 ≤ n) :
    SeqStopsK Fence.wide n Try.prog 59 #[.pointer (some ⟨bx, 0, none⟩)] (fun i : Nat => #[.int .i64 (i : Int), .int .i64 ((pi k i : Nat) : Int)]) (Below n0) (fun xs => xs = List.range k) (fun pre => ∃ m, m ≤ k ∧ pre = List.range m) k w := fun l J Jx W hW hJ hJx hY h0 => by
  obtain ⟨hk1, hk2, _, _, _, _, hf1, _, hf2⟩ := good_facts k hv
  have HV := Lib.hid hv
  have HJ := Lib.hid hJ
  have HY := Lib.hid hY
  have hBW := hB.below hW (by omega)
  clear hv hJ hJx hY hB
  refine callsIn_of_wp Try.func59 rfl trivial ?_ rfl
  simp only [Try.ntmps59, List.size_toArray, List.length_cons, List.length_nil, Nat.reduceAdd, Nat.reduceSub, Array.replicate_succ, Array.replicate_zero, List.push_toArray, List.append_toArray, List.nil_append, List.cons_append]
  obtain ⟨c0, c1, c2, _, _, _⟩ := hBW.three
  refine wpIn_wide.2 (wp_scope_straight ((wpIn_wide (n := n)).1 ?_))
  gi_wp2
  refine wpIn_label ?_
  gi_wp2
  gi_loopw [7] (fun v7 wr => ∃ i : Nat, i ≤ k ∧ v7 = .int .i64 i ∧ J (List.range i) wr ∧ Below n0 W wr) (fun v7 _ => k - (intOf v7).toNat)
  case atStart => exact ⟨0, Nat.zero_le _, rfl, h0, Below.refl _ _⟩
  case round =>
    obtain ⟨i, hi, rfl, hJi, hb⟩ := hrel
    obtain ⟨d0, d1, d2, _, _, _⟩ := (hBW.below hb (by omega)).three
    by_cases hlt : i < k
    · gi_wp2_with (refine ⟨trivial, ?_⟩; gi_at_call 49; refine (callsIn_wide.2 (at_pi k i _ rfl HV.out (by omega) _)).mono ?_; rintro e w3 ⟨rfl, hb3⟩; obtain ⟨fn, tmps, assign, body, hy, hR⟩ := HY.out (List.range i) i w3 (HJ.out _ wr w3 none hJi (grown_of_below hb3 none) (fun r h => by cases h)) (by simpa using hlt))
      refine hR.mono ?_
      rintro e w4 (⟨rfl, hJ4, hk4⟩ | ⟨rfl, hx4⟩)
      · gi_wp2
        go_roundw
        case rel => exact ⟨i + 1, by omega, by go_num, by rw [List.range_succ]; exact hJ4, hb.trans ((hb3.mono (by have := hb.size; have := hW.size; omega)).trans hk4)⟩
        case measure => simp [intOf]; omega
      · gi_wp2
        rw [Exit.noGoto_normal]
        go_end0
        exact ⟨⟨_, rfl⟩, .inr ⟨List.range (i + 1), ⟨i + 1, by omega, rfl⟩, by rw [List.range_succ]; exact hx4⟩⟩
    · gi_wp2
      rw [Exit.noGoto_normal]
      go_end0
      obtain rfl : i = k := by omega
      exact ⟨⟨_, rfl⟩, .inl ⟨_, rfl, hJi⟩⟩

theorem steps_bad_stops (bx n0 n : Nat) (w : World) (hbx : bx < n0) (hn0 : n0 ≤ w.heap.size) (hB : Blk w bx 79 #[.int .i64 0, .int .i64 0, .int .i64 0]) (k : Nat) :
    SeqStopsK Fence.wide n Try.prog 59 #[.pointer (some ⟨bx, 0, none⟩)] (fun i : Nat => #[.int .i64 (i : Int), .int .i64 ((pi k i : Nat) : Int)]) (Below n0) (fun xs => xs = List.range 0) (fun pre => ∃ m, m ≤ 0 ∧ pre = List.range m) 0 w := fun l J Jx W hW hJ hJx hY h0 => by
  have hBW := hB.below hW (by omega)
  clear hJ hJx hY hB
  refine callsIn_of_wp Try.func59 rfl trivial ?_ rfl
  simp only [Try.ntmps59, List.size_toArray, List.length_cons, List.length_nil, Nat.reduceAdd, Nat.reduceSub, Array.replicate_succ, Array.replicate_zero, List.push_toArray, List.append_toArray, List.nil_append, List.cons_append]
  obtain ⟨c0, c1, c2, _, _, _⟩ := hBW.three
  refine wpIn_wide.2 (wp_scope_straight ((wpIn_wide (n := n)).1 ?_))
  gi_wp2
  refine wpIn_label ?_
  gi_wp2
  refine wpIn_loop_rounds 1 ?_
  rw [roundsIn_succ]
  gi_wp2
  rw [Exit.noGoto_normal]
  go_end0
  exact ⟨⟨_, rfl⟩, .inl ⟨_, rfl, h0⟩⟩

theorem steps_any (k : Int) (w : World) (a b c : Int) (hof : Calls Try.prog 46 #[.int .i64 k] w fun e w' => (∃ er, e = .returned (.tuple #[.agg #[.int .i64 a, .int .i64 b, .int .i64 c], .int .i64 er])) ∧ Below w.heap.size w w') :
    Calls Try.prog 40 #[.int .i64 k] w fun e w' => ∃ bx, e = .returned (.func (.func 59) #[] #[.pointer (some ⟨bx, 0, none⟩)]) ∧ bx < w'.heap.size ∧ Blk w' bx 79 #[.int .i64 a, .int .i64 b, .int .i64 c] ∧ Below w.heap.size w w' := by
  have H := Lib.hid hof
  clear hof
  go_enter Try.func40, Try.ntmps40
  go_wp2_with (go_at_call 46; refine H.out.mono ?_; rintro e w1 ⟨⟨er, rfl⟩, hb⟩)
  go_ret
  exact ⟨_, rfl, by simp, Blk.new _ _ _, hb.alloc hb.size _⟩
end Go.Proofs.Ytekgahigbeceeaa
