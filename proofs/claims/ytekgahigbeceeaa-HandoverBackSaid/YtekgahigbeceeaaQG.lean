/- Contracts of qpp.made with each closure: Order, Inverse, Interleave, Deinterleave, Bits. Written by gen/qg.py. -/
import Derived.Test.YtekgahigbeceeaaQF
import Derived.Deep.OwnRows
namespace Go.Proofs.Ytekgahigbeceeaa
open Go.RowKit

/-- what the cells hold when i rounds are over: round r stores val r at tgt r -/
def cont (tgt : Nat → Nat) (val : Nat → Int) : Nat → Nat → Int
  | 0, _ => 0
  | i + 1, j => if j = tgt i then val i else cont tgt val i j

theorem Try.infoInt : (Try.prog.info? 3).map (fun i => (i.zero, i.size, i.bytes)) = some (some (.int .i64 0), 1, 8) := by kernel_rfl
theorem Try.infoByte : (Try.prog.info? 5).map (fun i => (i.zero, i.size, i.bytes)) = some (some (.int .u8 0), 1, 1) := by kernel_rfl
theorem Try.infoBool : (Try.prog.info? 4).map (fun i => (i.zero, i.size, i.bytes)) = some (some (.bool false), 1, 1) := by kernel_rfl
theorem make_ints (n : Nat) (hn : n ≤ 1000000) (w : World) : (Instr.makeSlice 53 (.int .i64 (n : Int)) (.int .i64 (n : Int))).run Try.prog w = .ok (.slice (some ⟨w.heap.size, 0, none⟩) n n) (w.alloc (.cells (madeCells #[.int .i64 0] n) 3)) := by
  obtain ⟨i, hi, hz, hs, hb⟩ := info_parts Try.infoInt
  have h := run_make (P := Try.prog) w 53 3 i (.int .i64 0) Try.underlying53 hi hz .i64 .i64 (n : Int) (n : Int) (by omega) (by omega) (by rw [hb]; omega) (by omega)
  rw [h, hs]; simp; rfl
theorem make_bytes (n : Nat) (hn : n ≤ 1000000) (w : World) : (Instr.makeSlice 22 (.int .i64 (n : Int)) (.int .i64 (n : Int))).run Try.prog w = .ok (.slice (some ⟨w.heap.size, 0, none⟩) n n) (w.alloc (.cells (madeCells #[.int .u8 0] n) 5)) := by
  obtain ⟨i, hi, hz, hs, hb⟩ := info_parts Try.infoByte
  have h := run_make (P := Try.prog) w 22 5 i (.int .u8 0) Try.underlying22 hi hz .i64 .i64 (n : Int) (n : Int) (by omega) (by omega) (by rw [hb]; omega) (by omega)
  rw [h, hs]; simp; rfl
theorem make_bools (n : Nat) (hn : n ≤ 1000000) (w : World) : (Instr.makeSlice 26 (.int .i64 (n : Int)) (.int .i64 (n : Int))).run Try.prog w = .ok (.slice (some ⟨w.heap.size, 0, none⟩) n n) (w.alloc (.cells (madeCells #[.bool false] n) 4)) := by
  obtain ⟨i, hi, hz, hs, hb⟩ := info_parts Try.infoBool
  have h := run_make (P := Try.prog) w 26 4 i (.bool false) Try.underlying26 hi hz .i64 .i64 (n : Int) (n : Int) (by omega) (by omega) (by rw [hb]; omega) (by omega)
  rw [h, hs]; simp; rfl

theorem pi_lt (k i : Nat) (hk : 0 < k) : pi k i < k := Nat.mod_lt _ hk

theorem order_set (b k i p : Nat) (w : World) (t : TypeId) (f : Nat → Value) (hr : w.rowIs b t k f) (hi : i < k) :
    Calls Try.prog 53 #[.slice (some ⟨b, 0, none⟩) k k, .int .i64 i, .int .i64 p] w fun e w' => e = .returned (.tuple #[]) ∧ w.setCell ⟨b, i, none⟩ (.int .i64 p) = w' := by
  have hc := hr.cell hi
  have hf := hr.frozen i
  go_enter Try.func53, Try.ntmps53
  go_wp2
  go_returns
  exact ⟨rfl, rfl⟩
theorem inverse_set (b k i p : Nat) (w : World) (t : TypeId) (f : Nat → Value) (hr : w.rowIs b t k f) (hp : p < k) :
    Calls Try.prog 54 #[.slice (some ⟨b, 0, none⟩) k k, .int .i64 i, .int .i64 p] w fun e w' => e = .returned (.tuple #[]) ∧ w.setCell ⟨b, p, none⟩ (.int .i64 i) = w' := by
  have hc := hr.cell hp
  have hf := hr.frozen p
  go_enter Try.func54, Try.ntmps54
  go_wp2
  go_returns
  exact ⟨rfl, rfl⟩
theorem inter_set (b k i p bx lb lo lc : Nat) (z : Int) (w : World) (t : TypeId) (f : Nat → Value) (hr : w.rowIs b t k f) (hi : i < k) (hp : p < k) (hx : w.cell? ⟨bx, 0, none⟩ = some (.slice (some ⟨lb, lo, none⟩) k lc)) (hz : w.cell? ⟨lb, lo + p, none⟩ = some (.int .i64 z)) :
    Calls Try.prog 57 #[.slice (some ⟨b, 0, none⟩) k k, .int .i64 i, .int .i64 p, .pointer (some ⟨bx, 0, none⟩)] w fun e w' => e = .returned (.tuple #[]) ∧ w.setCell ⟨b, i, none⟩ (.int .i64 z) = w' := by
  have hc := hr.cell hi
  have hf := hr.frozen i
  go_enter Try.func57, Try.ntmps57
  go_wp2
  go_returns
  exact ⟨rfl, rfl⟩
theorem deinter_set (b k i p bx lb lo lc : Nat) (z : Int) (w : World) (t : TypeId) (f : Nat → Value) (hr : w.rowIs b t k f) (hi : i < k) (hp : p < k) (hx : w.cell? ⟨bx, 0, none⟩ = some (.slice (some ⟨lb, lo, none⟩) k lc)) (hz : w.cell? ⟨lb, lo + i, none⟩ = some (.int .i64 z)) :
    Calls Try.prog 58 #[.slice (some ⟨b, 0, none⟩) k k, .int .i64 i, .int .i64 p, .pointer (some ⟨bx, 0, none⟩)] w fun e w' => e = .returned (.tuple #[]) ∧ w.setCell ⟨b, p, none⟩ (.int .i64 z) = w' := by
  have hc := hr.cell hp
  have hf := hr.frozen p
  go_enter Try.func58, Try.ntmps58
  go_wp2
  go_returns
  exact ⟨rfl, rfl⟩
theorem bits_set (b k i p bx lb lo lc : Nat) (z : Int) (w : World) (t : TypeId) (f : Nat → Value) (hr : w.rowIs b t k f) (hi : i < k) (hp : p < k) (hx : w.cell? ⟨bx, 0, none⟩ = some (.slice (some ⟨lb, lo, none⟩) k lc)) (hz : w.cell? ⟨lb, lo + p, none⟩ = some (.int .u8 z)) :
    Calls Try.prog 56 #[.slice (some ⟨b, 0, none⟩) k k, .int .i64 i, .int .i64 p, .pointer (some ⟨bx, 0, none⟩)] w fun e w' => e = .returned (.tuple #[]) ∧ w.setCell ⟨b, i, none⟩ (.int .u8 z) = w' := by
  have hc := hr.cell hi
  have hf := hr.frozen i
  go_enter Try.func56, Try.ntmps56
  go_wp2
  go_returns
  exact ⟨rfl, rfl⟩

theorem morder_bad (k : Int) (caps : Array Value) (hv : validI k = false) (w : World) :
    Calls Try.prog 52 #[.int .i64 k, .func (.func 53) #[] caps] w fun e w' => e = .returned (.tuple #[.slice none 0 0, .int .i64 2]) ∧ Below w.heap.size w w' := by
  go_enter Try.func52, Try.ntmps52
  go_wp2_with (go_at_call 46; refine (of_bad k hv _).mono ?_; rintro e w1 ⟨rfl, hb⟩)
  go_ret2
  exact ⟨rfl, hb.alloc hb.size _⟩

theorem minverse_bad (k : Int) (caps : Array Value) (hv : validI k = false) (w : World) :
    Calls Try.prog 52 #[.int .i64 k, .func (.func 54) #[] caps] w fun e w' => e = .returned (.tuple #[.slice none 0 0, .int .i64 2]) ∧ Below w.heap.size w w' := by
  go_enter Try.func52, Try.ntmps52
  go_wp2_with (go_at_call 46; refine (of_bad k hv _).mono ?_; rintro e w1 ⟨rfl, hb⟩)
  go_ret2
  exact ⟨rfl, hb.alloc hb.size _⟩

theorem minter_bad (k : Int) (caps : Array Value) (hv : validI k = false) (w : World) :
    Calls Try.prog 52 #[.int .i64 k, .func (.func 57) #[] caps] w fun e w' => e = .returned (.tuple #[.slice none 0 0, .int .i64 2]) ∧ Below w.heap.size w w' := by
  go_enter Try.func52, Try.ntmps52
  go_wp2_with (go_at_call 46; refine (of_bad k hv _).mono ?_; rintro e w1 ⟨rfl, hb⟩)
  go_ret2
  exact ⟨rfl, hb.alloc hb.size _⟩

theorem mdeinter_bad (k : Int) (caps : Array Value) (hv : validI k = false) (w : World) :
    Calls Try.prog 52 #[.int .i64 k, .func (.func 58) #[] caps] w fun e w' => e = .returned (.tuple #[.slice none 0 0, .int .i64 2]) ∧ Below w.heap.size w w' := by
  go_enter Try.func52, Try.ntmps52
  go_wp2_with (go_at_call 46; refine (of_bad k hv _).mono ?_; rintro e w1 ⟨rfl, hb⟩)
  go_ret2
  exact ⟨rfl, hb.alloc hb.size _⟩

theorem mbits_bad (k : Int) (caps : Array Value) (hv : validI k = false) (w : World) :
    Calls Try.prog 55 #[.int .i64 k, .func (.func 56) #[] caps] w fun e w' => e = .returned (.tuple #[.slice none 0 0, .int .i64 2]) ∧ Below w.heap.size w w' := by
  go_enter Try.func55, Try.ntmps55
  go_wp2_with (go_at_call 46; refine (of_bad k hv _).mono ?_; rintro e w1 ⟨rfl, hb⟩)
  go_ret2
  exact ⟨rfl, hb.alloc hb.size _⟩

def morderPost (k : Nat) (tgt : Nat → Nat) (val : Nat → Int) (w : World) (e : Ending) (w' : World) : Prop :=
  ∃ b, e = .returned (.tuple #[.slice (some ⟨b, 0, none⟩) k k, .int .i64 0]) ∧ w.heap.size ≤ b ∧ w'.rowIs b 3 k (fun j => .int .i64 (cont tgt val k j)) ∧ Below w.heap.size w w'

set_option maxRecDepth 100000 in
set_option maxHeartbeats 800000 in
theorem morder_good (k : Nat)  (hv : QM.valid k = true) (w : World)  :
    Calls Try.prog 52 #[.int .i64 k, .func (.func 53) #[] #[]] w (morderPost k (fun i => i) (fun i => (pi k i : Nat)) w) := by
  obtain ⟨hk1, hk2, _, _, _, _, hf1, _, hf2⟩ := good_facts k hv
  have hmk := make_ints k (by omega)
  have HV := Lib.hid hv
  clear hv
  go_enter Try.func52, Try.ntmps52
  go_wp2_with (go_at_call 46; refine (of_good k HV.out _).mono ?_; rintro e w1 ⟨rfl, hb⟩; unfold permV; have hs1 := hb.size)
  have B0 := (Blk.new w1 79 #[.int .i64 k, .int .i64 (QM.f1 k : Nat), .int .i64 (QM.f2 k : Nat)]).alloc (.cells (madeCells #[.int .i64 0] k) 3)
  have R0 := World.rowIs_made (w1.alloc (.cells #[.int .i64 k, .int .i64 (QM.f1 k : Nat), .int .i64 (QM.f2 k : Nat)] 79)) (.int .i64 0) k 3
  rw [World.size_alloc] at R0
  have W0 : Below w.heap.size w ((w1.alloc (.cells #[.int .i64 k, .int .i64 (QM.f1 k : Nat), .int .i64 (QM.f2 k : Nat)] 79)).alloc (.cells (madeCells #[.int .i64 0] k) 3)) := (hb.alloc hs1 _).alloc (by simp; omega) _
  go_loopw [21] (fun v wr => ∃ i : Nat, i ≤ k ∧ v = .int .i64 i ∧ Blk wr w1.heap.size 79 #[.int .i64 k, .int .i64 (QM.f1 k : Nat), .int .i64 (QM.f2 k : Nat)] ∧ w1.heap.size + 2 ≤ wr.heap.size ∧
      wr.rowIs (w1.heap.size + 1) 3 k (fun j => .int .i64 (cont (fun i => i) (fun i => (pi k i : Nat)) i j)) ∧ Below w.heap.size w wr) (fun v _ => k - (intOf v).toNat)
  case atStart => exact ⟨0, Nat.zero_le _, rfl, B0, by simp, R0, W0⟩
  case round =>
    obtain ⟨i, hi, rfl, hB, hsz, hR, hW⟩ := hrel
    obtain ⟨c0, c1, c2, _, _, _⟩ := hB.three
    by_cases hlt : i < k
    · go_wp2_with (first
        | (go_at_call 49; refine (at_any k (QM.f1 k) (QM.f2 k) i _ (by omega) (by omega) (by omega) (by omega) (by omega)).mono ?_; rintro e w3 ⟨rfl, hb3⟩; have hR3 := hR.of_block (hb3.block (w1.heap.size + 1) (by omega)); have hB3 := hB.below hb3 (by omega); have hW3 := hW.trans (hb3.mono hW.size); have hs3 := hb3.size)
        | (go_at_call 53; refine (order_set _ k i (pi k i) _ _ _ hR3 hlt).mono ?_; rintro e w4 ⟨rfl, rfl⟩))
      go_roundw
      case rel =>
        refine ⟨i + 1, by omega, by go_num, hB3.far (by simp) _, by simp; omega, ?_, hW3.setCell (by simp; omega) _⟩
        refine (hR3.set _ _).congr fun j hj => ?_
        show (if j = i then _ else _) = _
        by_cases e : j = i
        · rw [if_pos e]
          simp only [cont]
          rw [if_pos e]
          all_goals rfl
        · rw [if_neg e]
          simp only [cont]
          rw [if_neg e]
      case measure => simp [intOf]; omega
    · have hik : i = k := by omega
      have HK := Lib.hid hik
      clear hik
      go_wp2
      go_ret2
      refine ⟨w1.heap.size + 1, rfl, by omega, ?_, hW⟩
      have := HK.out
      subst this
      exact hR

def minversePost (k : Nat) (tgt : Nat → Nat) (val : Nat → Int) (w : World) (e : Ending) (w' : World) : Prop :=
  ∃ b, e = .returned (.tuple #[.slice (some ⟨b, 0, none⟩) k k, .int .i64 0]) ∧ w.heap.size ≤ b ∧ w'.rowIs b 3 k (fun j => .int .i64 (cont tgt val k j)) ∧ Below w.heap.size w w'

set_option maxRecDepth 100000 in
set_option maxHeartbeats 800000 in
theorem minverse_good (k : Nat)  (hv : QM.valid k = true) (w : World)  :
    Calls Try.prog 52 #[.int .i64 k, .func (.func 54) #[] #[]] w (minversePost k (pi k) (fun i => (i : Nat)) w) := by
  obtain ⟨hk1, hk2, _, _, _, _, hf1, _, hf2⟩ := good_facts k hv
  have hmk := make_ints k (by omega)
  have HV := Lib.hid hv
  clear hv
  go_enter Try.func52, Try.ntmps52
  go_wp2_with (go_at_call 46; refine (of_good k HV.out _).mono ?_; rintro e w1 ⟨rfl, hb⟩; unfold permV; have hs1 := hb.size)
  have B0 := (Blk.new w1 79 #[.int .i64 k, .int .i64 (QM.f1 k : Nat), .int .i64 (QM.f2 k : Nat)]).alloc (.cells (madeCells #[.int .i64 0] k) 3)
  have R0 := World.rowIs_made (w1.alloc (.cells #[.int .i64 k, .int .i64 (QM.f1 k : Nat), .int .i64 (QM.f2 k : Nat)] 79)) (.int .i64 0) k 3
  rw [World.size_alloc] at R0
  have W0 : Below w.heap.size w ((w1.alloc (.cells #[.int .i64 k, .int .i64 (QM.f1 k : Nat), .int .i64 (QM.f2 k : Nat)] 79)).alloc (.cells (madeCells #[.int .i64 0] k) 3)) := (hb.alloc hs1 _).alloc (by simp; omega) _
  go_loopw [21] (fun v wr => ∃ i : Nat, i ≤ k ∧ v = .int .i64 i ∧ Blk wr w1.heap.size 79 #[.int .i64 k, .int .i64 (QM.f1 k : Nat), .int .i64 (QM.f2 k : Nat)] ∧ w1.heap.size + 2 ≤ wr.heap.size ∧
      wr.rowIs (w1.heap.size + 1) 3 k (fun j => .int .i64 (cont (pi k) (fun i => (i : Nat)) i j)) ∧ Below w.heap.size w wr) (fun v _ => k - (intOf v).toNat)
  case atStart => exact ⟨0, Nat.zero_le _, rfl, B0, by simp, R0, W0⟩
  case round =>
    obtain ⟨i, hi, rfl, hB, hsz, hR, hW⟩ := hrel
    obtain ⟨c0, c1, c2, _, _, _⟩ := hB.three
    by_cases hlt : i < k
    · go_wp2_with (first
        | (go_at_call 49; refine (at_any k (QM.f1 k) (QM.f2 k) i _ (by omega) (by omega) (by omega) (by omega) (by omega)).mono ?_; rintro e w3 ⟨rfl, hb3⟩; have hR3 := hR.of_block (hb3.block (w1.heap.size + 1) (by omega)); have hB3 := hB.below hb3 (by omega); have hW3 := hW.trans (hb3.mono hW.size); have hs3 := hb3.size)
        | (go_at_call 54; refine (inverse_set _ k i (pi k i) _ _ _ hR3 (pi_lt k i (by omega))).mono ?_; rintro e w4 ⟨rfl, rfl⟩))
      go_roundw
      case rel =>
        refine ⟨i + 1, by omega, by go_num, hB3.far (by simp) _, by simp; omega, ?_, hW3.setCell (by simp; omega) _⟩
        refine (hR3.set _ _).congr fun j hj => ?_
        show (if j = (pi k i) then _ else _) = _
        by_cases e : j = (pi k i)
        · rw [if_pos e]
          simp only [cont]
          rw [if_pos e]
          all_goals rfl
        · rw [if_neg e]
          simp only [cont]
          rw [if_neg e]
      case measure => simp [intOf]; omega
    · have hik : i = k := by omega
      have HK := Lib.hid hik
      clear hik
      go_wp2
      go_ret2
      refine ⟨w1.heap.size + 1, rfl, by omega, ?_, hW⟩
      have := HK.out
      subst this
      exact hR

def minterPost (k : Nat) (tgt : Nat → Nat) (val : Nat → Int) (w : World) (e : Ending) (w' : World) : Prop :=
  ∃ b, e = .returned (.tuple #[.slice (some ⟨b, 0, none⟩) k k, .int .i64 0]) ∧ w.heap.size ≤ b ∧ w'.rowIs b 3 k (fun j => .int .i64 (cont tgt val k j)) ∧ Below w.heap.size w w'

set_option maxRecDepth 100000 in
set_option maxHeartbeats 800000 in
theorem minter_good (k : Nat) (bx lb lo lc : Nat) (z : Nat → Int) (hv : QM.valid k = true) (w : World) (hbx : bx < w.heap.size) (hlb : lb < w.heap.size) (hx : w.cell? ⟨bx, 0, none⟩ = some (.slice (some ⟨lb, lo, none⟩) k lc)) (hz : Hid (∀ j, j < k → w.cell? ⟨lb, lo + j, none⟩ = some (.int .i64 (z j)))) :
    Calls Try.prog 52 #[.int .i64 k, .func (.func 57) #[] #[.pointer (some ⟨bx, 0, none⟩)]] w (minterPost k (fun i => i) (fun i => z (pi k i)) w) := by
  obtain ⟨hk1, hk2, _, _, _, _, hf1, _, hf2⟩ := good_facts k hv
  have hmk := make_ints k (by omega)
  have HV := Lib.hid hv
  clear hv
  go_enter Try.func52, Try.ntmps52
  go_wp2_with (go_at_call 46; refine (of_good k HV.out _).mono ?_; rintro e w1 ⟨rfl, hb⟩; unfold permV; have hs1 := hb.size)
  have B0 := (Blk.new w1 79 #[.int .i64 k, .int .i64 (QM.f1 k : Nat), .int .i64 (QM.f2 k : Nat)]).alloc (.cells (madeCells #[.int .i64 0] k) 3)
  have R0 := World.rowIs_made (w1.alloc (.cells #[.int .i64 k, .int .i64 (QM.f1 k : Nat), .int .i64 (QM.f2 k : Nat)] 79)) (.int .i64 0) k 3
  rw [World.size_alloc] at R0
  have W0 : Below w.heap.size w ((w1.alloc (.cells #[.int .i64 k, .int .i64 (QM.f1 k : Nat), .int .i64 (QM.f2 k : Nat)] 79)).alloc (.cells (madeCells #[.int .i64 0] k) 3)) := (hb.alloc hs1 _).alloc (by simp; omega) _
  go_loopw [21] (fun v wr => ∃ i : Nat, i ≤ k ∧ v = .int .i64 i ∧ Blk wr w1.heap.size 79 #[.int .i64 k, .int .i64 (QM.f1 k : Nat), .int .i64 (QM.f2 k : Nat)] ∧ w1.heap.size + 2 ≤ wr.heap.size ∧
      wr.rowIs (w1.heap.size + 1) 3 k (fun j => .int .i64 (cont (fun i => i) (fun i => z (pi k i)) i j)) ∧ Below w.heap.size w wr) (fun v _ => k - (intOf v).toNat)
  case atStart => exact ⟨0, Nat.zero_le _, rfl, B0, by simp, R0, W0⟩
  case round =>
    obtain ⟨i, hi, rfl, hB, hsz, hR, hW⟩ := hrel
    obtain ⟨c0, c1, c2, _, _, _⟩ := hB.three
    by_cases hlt : i < k
    · go_wp2_with (first
        | (go_at_call 49; refine (at_any k (QM.f1 k) (QM.f2 k) i _ (by omega) (by omega) (by omega) (by omega) (by omega)).mono ?_; rintro e w3 ⟨rfl, hb3⟩; have hR3 := hR.of_block (hb3.block (w1.heap.size + 1) (by omega)); have hB3 := hB.below hb3 (by omega); have hW3 := hW.trans (hb3.mono hW.size); have hs3 := hb3.size)
        | (go_at_call 57; refine (inter_set _ k i (pi k i) bx lb lo lc (z (pi k i)) _ _ _ hR3 hlt (pi_lt k i (by omega)) ((hW3.cell (p := ⟨bx, 0, none⟩) hbx).trans hx) ((hW3.cell (p := ⟨lb, _, none⟩) hlb).trans (hz.out (pi k i) (pi_lt k i (by omega))))).mono ?_; rintro e w4 ⟨rfl, rfl⟩))
      go_roundw
      case rel =>
        refine ⟨i + 1, by omega, by go_num, hB3.far (by simp) _, by simp; omega, ?_, hW3.setCell (by simp; omega) _⟩
        refine (hR3.set _ _).congr fun j hj => ?_
        show (if j = i then _ else _) = _
        by_cases e : j = i
        · rw [if_pos e]
          simp only [cont]
          rw [if_pos e]
          all_goals rfl
        · rw [if_neg e]
          simp only [cont]
          rw [if_neg e]
      case measure => simp [intOf]; omega
    · have hik : i = k := by omega
      have HK := Lib.hid hik
      clear hik
      go_wp2
      go_ret2
      refine ⟨w1.heap.size + 1, rfl, by omega, ?_, hW⟩
      have := HK.out
      subst this
      exact hR

def mdeinterPost (k : Nat) (tgt : Nat → Nat) (val : Nat → Int) (w : World) (e : Ending) (w' : World) : Prop :=
  ∃ b, e = .returned (.tuple #[.slice (some ⟨b, 0, none⟩) k k, .int .i64 0]) ∧ w.heap.size ≤ b ∧ w'.rowIs b 3 k (fun j => .int .i64 (cont tgt val k j)) ∧ Below w.heap.size w w'

set_option maxRecDepth 100000 in
set_option maxHeartbeats 800000 in
theorem mdeinter_good (k : Nat) (bx lb lo lc : Nat) (z : Nat → Int) (hv : QM.valid k = true) (w : World) (hbx : bx < w.heap.size) (hlb : lb < w.heap.size) (hx : w.cell? ⟨bx, 0, none⟩ = some (.slice (some ⟨lb, lo, none⟩) k lc)) (hz : Hid (∀ j, j < k → w.cell? ⟨lb, lo + j, none⟩ = some (.int .i64 (z j)))) :
    Calls Try.prog 52 #[.int .i64 k, .func (.func 58) #[] #[.pointer (some ⟨bx, 0, none⟩)]] w (mdeinterPost k (pi k) (fun i => z i) w) := by
  obtain ⟨hk1, hk2, _, _, _, _, hf1, _, hf2⟩ := good_facts k hv
  have hmk := make_ints k (by omega)
  have HV := Lib.hid hv
  clear hv
  go_enter Try.func52, Try.ntmps52
  go_wp2_with (go_at_call 46; refine (of_good k HV.out _).mono ?_; rintro e w1 ⟨rfl, hb⟩; unfold permV; have hs1 := hb.size)
  have B0 := (Blk.new w1 79 #[.int .i64 k, .int .i64 (QM.f1 k : Nat), .int .i64 (QM.f2 k : Nat)]).alloc (.cells (madeCells #[.int .i64 0] k) 3)
  have R0 := World.rowIs_made (w1.alloc (.cells #[.int .i64 k, .int .i64 (QM.f1 k : Nat), .int .i64 (QM.f2 k : Nat)] 79)) (.int .i64 0) k 3
  rw [World.size_alloc] at R0
  have W0 : Below w.heap.size w ((w1.alloc (.cells #[.int .i64 k, .int .i64 (QM.f1 k : Nat), .int .i64 (QM.f2 k : Nat)] 79)).alloc (.cells (madeCells #[.int .i64 0] k) 3)) := (hb.alloc hs1 _).alloc (by simp; omega) _
  go_loopw [21] (fun v wr => ∃ i : Nat, i ≤ k ∧ v = .int .i64 i ∧ Blk wr w1.heap.size 79 #[.int .i64 k, .int .i64 (QM.f1 k : Nat), .int .i64 (QM.f2 k : Nat)] ∧ w1.heap.size + 2 ≤ wr.heap.size ∧
      wr.rowIs (w1.heap.size + 1) 3 k (fun j => .int .i64 (cont (pi k) (fun i => z i) i j)) ∧ Below w.heap.size w wr) (fun v _ => k - (intOf v).toNat)
  case atStart => exact ⟨0, Nat.zero_le _, rfl, B0, by simp, R0, W0⟩
  case round =>
    obtain ⟨i, hi, rfl, hB, hsz, hR, hW⟩ := hrel
    obtain ⟨c0, c1, c2, _, _, _⟩ := hB.three
    by_cases hlt : i < k
    · go_wp2_with (first
        | (go_at_call 49; refine (at_any k (QM.f1 k) (QM.f2 k) i _ (by omega) (by omega) (by omega) (by omega) (by omega)).mono ?_; rintro e w3 ⟨rfl, hb3⟩; have hR3 := hR.of_block (hb3.block (w1.heap.size + 1) (by omega)); have hB3 := hB.below hb3 (by omega); have hW3 := hW.trans (hb3.mono hW.size); have hs3 := hb3.size)
        | (go_at_call 58; refine (deinter_set _ k i (pi k i) bx lb lo lc (z i) _ _ _ hR3 hlt (pi_lt k i (by omega)) ((hW3.cell (p := ⟨bx, 0, none⟩) hbx).trans hx) ((hW3.cell (p := ⟨lb, _, none⟩) hlb).trans (hz.out i hlt))).mono ?_; rintro e w4 ⟨rfl, rfl⟩))
      go_roundw
      case rel =>
        refine ⟨i + 1, by omega, by go_num, hB3.far (by simp) _, by simp; omega, ?_, hW3.setCell (by simp; omega) _⟩
        refine (hR3.set _ _).congr fun j hj => ?_
        show (if j = (pi k i) then _ else _) = _
        by_cases e : j = (pi k i)
        · rw [if_pos e]
          simp only [cont]
          rw [if_pos e]
          all_goals rfl
        · rw [if_neg e]
          simp only [cont]
          rw [if_neg e]
      case measure => simp [intOf]; omega
    · have hik : i = k := by omega
      have HK := Lib.hid hik
      clear hik
      go_wp2
      go_ret2
      refine ⟨w1.heap.size + 1, rfl, by omega, ?_, hW⟩
      have := HK.out
      subst this
      exact hR

def mbitsPost (k : Nat) (tgt : Nat → Nat) (val : Nat → Int) (w : World) (e : Ending) (w' : World) : Prop :=
  ∃ b, e = .returned (.tuple #[.slice (some ⟨b, 0, none⟩) k k, .int .i64 0]) ∧ w.heap.size ≤ b ∧ w'.rowIs b 5 k (fun j => .int .u8 (cont tgt val k j)) ∧ Below w.heap.size w w'

set_option maxRecDepth 100000 in
set_option maxHeartbeats 800000 in
theorem mbits_good (k : Nat) (bx lb lo lc : Nat) (z : Nat → Int) (hv : QM.valid k = true) (w : World) (hbx : bx < w.heap.size) (hlb : lb < w.heap.size) (hx : w.cell? ⟨bx, 0, none⟩ = some (.slice (some ⟨lb, lo, none⟩) k lc)) (hz : Hid (∀ j, j < k → w.cell? ⟨lb, lo + j, none⟩ = some (.int .u8 (z j)))) :
    Calls Try.prog 55 #[.int .i64 k, .func (.func 56) #[] #[.pointer (some ⟨bx, 0, none⟩)]] w (mbitsPost k (fun i => i) (fun i => z (pi k i)) w) := by
  obtain ⟨hk1, hk2, _, _, _, _, hf1, _, hf2⟩ := good_facts k hv
  have hmk := make_bytes k (by omega)
  have HV := Lib.hid hv
  clear hv
  go_enter Try.func55, Try.ntmps55
  go_wp2_with (go_at_call 46; refine (of_good k HV.out _).mono ?_; rintro e w1 ⟨rfl, hb⟩; unfold permV; have hs1 := hb.size)
  have B0 := (Blk.new w1 79 #[.int .i64 k, .int .i64 (QM.f1 k : Nat), .int .i64 (QM.f2 k : Nat)]).alloc (.cells (madeCells #[.int .u8 0] k) 5)
  have R0 := World.rowIs_made (w1.alloc (.cells #[.int .i64 k, .int .i64 (QM.f1 k : Nat), .int .i64 (QM.f2 k : Nat)] 79)) (.int .u8 0) k 5
  rw [World.size_alloc] at R0
  have W0 : Below w.heap.size w ((w1.alloc (.cells #[.int .i64 k, .int .i64 (QM.f1 k : Nat), .int .i64 (QM.f2 k : Nat)] 79)).alloc (.cells (madeCells #[.int .u8 0] k) 5)) := (hb.alloc hs1 _).alloc (by simp; omega) _
  go_loopw [21] (fun v wr => ∃ i : Nat, i ≤ k ∧ v = .int .i64 i ∧ Blk wr w1.heap.size 79 #[.int .i64 k, .int .i64 (QM.f1 k : Nat), .int .i64 (QM.f2 k : Nat)] ∧ w1.heap.size + 2 ≤ wr.heap.size ∧
      wr.rowIs (w1.heap.size + 1) 5 k (fun j => .int .u8 (cont (fun i => i) (fun i => z (pi k i)) i j)) ∧ Below w.heap.size w wr) (fun v _ => k - (intOf v).toNat)
  case atStart => exact ⟨0, Nat.zero_le _, rfl, B0, by simp, R0, W0⟩
  case round =>
    obtain ⟨i, hi, rfl, hB, hsz, hR, hW⟩ := hrel
    obtain ⟨c0, c1, c2, _, _, _⟩ := hB.three
    by_cases hlt : i < k
    · go_wp2_with (first
        | (go_at_call 49; refine (at_any k (QM.f1 k) (QM.f2 k) i _ (by omega) (by omega) (by omega) (by omega) (by omega)).mono ?_; rintro e w3 ⟨rfl, hb3⟩; have hR3 := hR.of_block (hb3.block (w1.heap.size + 1) (by omega)); have hB3 := hB.below hb3 (by omega); have hW3 := hW.trans (hb3.mono hW.size); have hs3 := hb3.size)
        | (go_at_call 56; refine (bits_set _ k i (pi k i) bx lb lo lc (z (pi k i)) _ _ _ hR3 hlt (pi_lt k i (by omega)) ((hW3.cell (p := ⟨bx, 0, none⟩) hbx).trans hx) ((hW3.cell (p := ⟨lb, _, none⟩) hlb).trans (hz.out (pi k i) (pi_lt k i (by omega))))).mono ?_; rintro e w4 ⟨rfl, rfl⟩))
      go_roundw
      case rel =>
        refine ⟨i + 1, by omega, by go_num, hB3.far (by simp) _, by simp; omega, ?_, hW3.setCell (by simp; omega) _⟩
        refine (hR3.set _ _).congr fun j hj => ?_
        show (if j = i then _ else _) = _
        by_cases e : j = i
        · rw [if_pos e]
          simp only [cont]
          rw [if_pos e]
          all_goals rfl
        · rw [if_neg e]
          simp only [cont]
          rw [if_neg e]
      case measure => simp [intOf]; omega
    · have hik : i = k := by omega
      have HK := Lib.hid hik
      clear hik
      go_wp2
      go_ret2
      refine ⟨w1.heap.size + 1, rfl, by omega, ?_, hW⟩
      have := HK.out
      subst this
      exact hR
end Go.Proofs.Ytekgahigbeceeaa
