/- law 47, XHS without what XU has. -/
import Derived.Test.YtiffminhlimajaaMR
import Derived.RangeFuncNested
import Derived.RangeFuncBound
import Derived.RangeFuncCalls
import Derived.RangeFuncLeaves
import Derived.Shelf.Abstract
import Derived.Shelf.RegionOpen
import Derived.WalkKit
import Derived.OwnWalkIn
import Derived.TacticsInMore
import Derived.LoopNIn
import Derived.LoopIn
import Derived.RangeFuncBox
namespace Go.Proofs.Ytiffminhlimajaa
open Go.RowKit Go.Shelf
attribute [local go_sem] Oper.semAt_some
def bitsOf (z : Nat → Int) (m : Nat) : List Bool := (List.range m).map (HM.hb z)
theorem bitsOf_len (z : Nat → Int) (m : Nat) : (bitsOf z m).length = m := by simp [bitsOf]
theorem bitsOf_succ (z : Nat → Int) (m : Nat) : bitsOf z (m + 1) = bitsOf z m ++ [HM.hb z m] := by simp [bitsOf, List.range_succ]
set_option maxRecDepth 100000 in
set_option maxHeartbeats 2000000 in
theorem bits_stops (q c : Nat) (A : Option Addr) (z : Nat → Int) (hq : q ≤ 256) (hz : ∀ j, j < q → 0 ≤ z j ∧ z j < 256) (bx n0 g n : Nat) (w : World) (hbx : bx < n0) (hbg : bx ≠ g) (hn0 : n0 ≤ w.heap.size) (hB : Blk w bx 27 #[.slice A q c]) (gb : Nat) (hgb : gb ≤ g) (hgn : gb ≤ n0) (hr : Row w gb A q (fun j => .int .u8 (z j))) (hn : 1 ≤ n) :
    SeqStopsK Fence.wide n Try.prog 43 #[.pointer (some ⟨bx, 0, none⟩)] (fun b : Bool => #[.bool b]) (KeepBut n0 g) (fun xs => xs = bitsOf z (8 * q)) (fun pre => ∃ m, m ≤ 8 * q ∧ pre = bitsOf z m) (8 * q) w := fun l J Jx W hW hJ hJx hY h0 => by
  have HJ := Lib.hid hJ
  have HY := Lib.hid hY
  have HZ := Lib.hid hz
  have hBW := hB.below hW (by omega)
  have hRW := Lib.hid (hr.below (hW.mono (Nat.le_trans hgn hn0)))
  clear hJ hJx hY hB hz hr
  refine callsIn_of_wp Try.func43 rfl trivial ?_ rfl
  simp only [Try.ntmps43, List.size_toArray, List.length_cons, List.length_nil, Nat.reduceAdd, Nat.reduceSub, Array.replicate_succ, Array.replicate_zero, List.push_toArray, List.append_toArray, List.nil_append, List.cons_append]
  have c0 : W.cell? ⟨bx, 0, none⟩ = some (.slice A q c) := hBW.cell 0
  obtain ⟨N, hN⟩ : ∃ N, N = 8 * q := ⟨_, rfl⟩
  have hNi : (8 : Int) * (q : Int) = (N : Int) := by omega
  have HN := Lib.hid hN
  clear hN
  gi_wp2
  gi_loopw [7] (fun v7 wr => ∃ i : Nat, i ≤ N ∧ v7 = .int .i64 i ∧ J (bitsOf z i) wr ∧ KeepBut n0 g W wr) (fun v7 _ => N - (intOf v7).toNat)
  case atStart => exact ⟨0, Nat.zero_le _, rfl, h0, KeepBut.refl _ _ _⟩
  case round =>
    obtain ⟨i, hi, rfl, hJi, hb⟩ := hrel
    have d0 : wr.cell? ⟨bx, 0, none⟩ = some (.slice A q c) := (hb.blk hBW (by omega) hbg).cell 0
    by_cases hlt : i < N
    · have hid : i / 8 < q := by have := HN.out; omega
      obtain ⟨lb, lo, rfl, hlb, hlc⟩ := hRW.out (by omega)
      obtain ⟨x, hx⟩ : ∃ x : Nat, z (i / 8) = (x : Int) := ⟨(z (i / 8)).toNat, by have := HZ.out (i / 8) hid; omega⟩
      have hx256 : x < 256 := by have := HZ.out (i / 8) hid; omega
      have hci : wr.cell? ⟨lb, lo + i / 8, none⟩ = some (.int .u8 (x : Int)) := by rw [← hx]; exact (cell_of_block (p := ⟨lb, lo + i / 8, none⟩) (hb lb (by omega) (by omega))).trans (hlc _ hid)
      have HX := Lib.hid hx
      have hid' : (i : Int) / 8 < (q : Int) := by omega
      clear hx hlc
      obtain ⟨fn, tmps, assign, body, hy, hR⟩ := HY.out (bitsOf z i) (HM.hb z i) wr hJi (by rw [bitsOf_len, ← HN.out]; exact hlt)
      have HRr := Lib.hid hR
      have hbit := bit_hb z i x HX.out hx256
      clear hR
      gi_wp2
      refine HRr.out.mono ?_
      rintro e w4 (⟨rfl, hJ4, hk4⟩ | ⟨rfl, hx4⟩)
      · gi_wp2
        go_roundw
        case rel => exact ⟨i + 1, by omega, by go_num, by rw [bitsOf_succ]; exact hJ4, hb.trans hk4⟩
        case measure => simp [intOf]; omega
      · gi_wp2
        refine bodyPost_ret (results_none rfl _ _ _) rfl ?_
        exact ⟨⟨_, rfl⟩, .inr ⟨bitsOf z (i + 1), ⟨i + 1, by have := HN.out; omega, rfl⟩, by rw [bitsOf_succ]; exact hx4⟩⟩
    · gi_wp2
      go_end0
      obtain rfl : i = N := by omega
      have e := HN.out
      subst e
      exact ⟨⟨_, rfl⟩, .inl ⟨_, rfl, hJi⟩⟩
end Go.Proofs.Ytiffminhlimajaa
