/- SameForward of the reference is true of states that read alike. A PDCP configuration by value among a law's arguments. Printed by gen/xzn.py. the reference's Valid; equality of configurations. law 46: plain; stores into a configuration. PdcprxSequence: the walk. Printed by gen/xcj.py. -/
import Derived.Test.YtmdpiajhfohagaaGreatMGI
import Derived.Test.YtmdpiajhfohagaaGreatMGC
import Derived.Test.YtmdpiajhfohagaaGreatMDK
import Derived.Test.YtmdpiajhfohagaaGreatMDI
import Derived.Test.YtmdpiajhfohagaaGreatMDG
import Derived.ProofKit
import Derived.OpenShut
import Derived.ChangeOld
import Derived.Deep.Fields
import Derived.Laws.StructEq
import Derived.ChangeKeysEq
namespace Go.Proofs.YtmdpiajhfohagaaGreat
open Go.RowKit
set_option linter.unusedVariables false
attribute [local go_sem ↓] Go.wp_at_zero Go.wp_at_succ

/-- element k of a slice of counted packets; of a slice of packets -/
def CE2 (w : World) (A : Option Addr) (k : Nat) (ct : Int) (n : Nat) (z : Nat → Int) : Prop :=
  ∃ lb lo PA pc, A = some ⟨lb, lo, none⟩ ∧ lb < w.heap.size ∧ w.cell? ⟨lb, lo + k * 2, none⟩ = some (.int .u32 ct) ∧ w.cell? ⟨lb, lo + k * 2 + 1, none⟩ = some (.slice PA n pc) ∧ Row w w.heap.size PA n (fun j => .int .u8 (z j))
def BE2 (w : World) (A : Option Addr) (k : Nat) (n : Nat) (z : Nat → Int) : Prop :=
  ∃ lb lo PA pc, A = some ⟨lb, lo, none⟩ ∧ lb < w.heap.size ∧ w.cell? ⟨lb, lo + k, none⟩ = some (.slice PA n pc) ∧ Row w w.heap.size PA n (fun j => .int .u8 (z j))
theorem CE2.below {w w' : World} {A : Option Addr} {k : Nat} {ct : Int} {n : Nat} {z : Nat → Int} (h : CE2 w A k ct n z) (hb : Below w.heap.size w w') : CE2 w' A k ct n z := by
  obtain ⟨lb, lo, PA, pc, h1, h2, h3, h4, h5⟩ := h
  exact ⟨lb, lo, PA, pc, h1, Nat.lt_of_lt_of_le h2 hb.size, (hb.cell (p := ⟨lb, lo + k * 2, none⟩) h2).trans h3, (hb.cell (p := ⟨lb, lo + k * 2 + 1, none⟩) h2).trans h4, h5.next hb⟩
theorem BE2.below {w w' : World} {A : Option Addr} {k : Nat} {n : Nat} {z : Nat → Int} (h : BE2 w A k n z) (hb : Below w.heap.size w w') : BE2 w' A k n z := by
  obtain ⟨lb, lo, PA, pc, h1, h2, h3, h5⟩ := h
  exact ⟨lb, lo, PA, pc, h1, Nat.lt_of_lt_of_le h2 hb.size, (hb.cell (p := ⟨lb, lo + k, none⟩) h2).trans h3, h5.next hb⟩
def SameC (w : World) (A A' : Option Addr) (m : Nat) : Prop := ∀ k, k < m → ∃ ct n z z', CE2 w A k ct n z ∧ CE2 w A' k ct n z' ∧ ∀ j, j < n → z j = z' j
def SameB (w : World) (A A' : Option Addr) (m : Nat) : Prop := ∀ k, k < m → ∃ n z z', BE2 w A k n z ∧ BE2 w A' k n z' ∧ ∀ j, j < n → z j = z' j
theorem SameC.below {w w' : World} {A A' : Option Addr} {m : Nat} (h : SameC w A A' m) (hb : Below w.heap.size w w') : SameC w' A A' m := fun k hk => by
  obtain ⟨ct, n, z, z', h1, h2, h3⟩ := h k hk
  exact ⟨ct, n, z, z', h1.below hb, h2.below hb, h3⟩
theorem SameB.below {w w' : World} {A A' : Option Addr} {m : Nat} (h : SameB w A A' m) (hb : Below w.heap.size w w') : SameB w' A A' m := fun k hk => by
  obtain ⟨n, z, z', h1, h2, h3⟩ := h k hk
  exact ⟨n, z, z', h1.below hb, h2.below hb, h3⟩
set_option maxRecDepth 100000 in
set_option maxHeartbeats 1600000 in
theorem samec_true (A A' : Option Addr) (m c c' : Nat) (w : World) (hm : m ≤ maxLen) (h : SameC w A A' m) :
    Calls Tryz.prog 51 #[.slice A m c, .slice A' m c'] w fun e w' => e = .returned (.bool true) ∧ Below w.heap.size w w' := by
  unfold maxLen at hm
  have HS := Lib.hid h
  have hm' : (m : Int) ≤ 9223372036854775807 := by omega
  clear h
  go_enter Tryz.func51, Tryz.ntmps51
  go_wp2
  go_loopw [5] (fun v wr => ∃ k : Nat, k ≤ m ∧ v = .int .i64 k ∧ Below w.heap.size w wr) (fun v _ => m - (intOf v).toNat)
  case atStart => exact ⟨0, by omega, rfl, Below.refl _ _⟩
  case round =>
    obtain ⟨k, hk, rfl, hb⟩ := hrel
    by_cases hlt : k < m
    · obtain ⟨ct, n, z, z', ⟨lb, lo, PA, pc, rfl, h2, h3, h4, h5⟩, ⟨lb', lo', PA', pc', rfl, k2, k3, k4, k5⟩, he⟩ := (HS.out.below hb) k hlt
      have s1 := fun q => row_string (P := Tryz.prog) (w := wr.drewN q) 41 9 5 Tryz.underlying41 Tryz.underlying5 Tryz.underlying9 (show Row (wr.drewN q) wr.heap.size PA n (fun j => .int .u8 (z j)) from h5) pc
      have s2 := fun q => row_string (P := Tryz.prog) (w := wr.drewN q) 41 9 5 Tryz.underlying41 Tryz.underlying5 Tryz.underlying9 (show Row (wr.drewN q) wr.heap.size PA' n (fun j => .int .u8 (z' j)) from k5) pc'
      rw [← bytesOf_congr he] at s2
      have BB := Lib.hid hb
      have k0 : (0 : Int) ≤ (k : Int) := by omega
      have k1 : (k : Int) < (m : Int) := by omega
      clear h5 k5 he hb
      go_upto_region 6 with (fail)
      have hg : (ct != ct) = false := by simp
      go_quiet (fail)
      go_wp2
      go_roundw
      case rel => exact ⟨k + 1, by omega, by go_num, below_drewN BB.out _⟩
      case measure => simp [intOf]; omega
    · obtain rfl : k = m := by omega
      have BB := Lib.hid hb
      clear hb
      go_wp2
      go_ret
      exact ⟨rfl, BB.out⟩
set_option maxRecDepth 100000 in
set_option maxHeartbeats 1600000 in
theorem samel_true (A A' : Option Addr) (m c c' : Nat) (w : World) (hm : m ≤ maxLen) (h : SameB w A A' m) :
    Calls Tryz.prog 15 #[.slice A m c, .slice A' m c'] w fun e w' => e = .returned (.bool true) ∧ Below w.heap.size w w' := by
  unfold maxLen at hm
  have HS := Lib.hid h
  have hm' : (m : Int) ≤ 9223372036854775807 := by omega
  clear h
  go_enter Tryz.func15, Tryz.ntmps15
  go_wp2
  go_loopw [5] (fun v wr => ∃ k : Nat, k ≤ m ∧ v = .int .i64 k ∧ Below w.heap.size w wr) (fun v _ => m - (intOf v).toNat)
  case atStart => exact ⟨0, by omega, rfl, Below.refl _ _⟩
  case round =>
    obtain ⟨k, hk, rfl, hb⟩ := hrel
    by_cases hlt : k < m
    · obtain ⟨n, z, z', ⟨lb, lo, PA, pc, rfl, h2, h3, h5⟩, ⟨lb', lo', PA', pc', rfl, k2, k3, k5⟩, he⟩ := (HS.out.below hb) k hlt
      have s1 := fun q => row_string (P := Tryz.prog) (w := wr.drewN q) 41 9 5 Tryz.underlying41 Tryz.underlying5 Tryz.underlying9 (show Row (wr.drewN q) wr.heap.size PA n (fun j => .int .u8 (z j)) from h5) pc
      have s2 := fun q => row_string (P := Tryz.prog) (w := wr.drewN q) 41 9 5 Tryz.underlying41 Tryz.underlying5 Tryz.underlying9 (show Row (wr.drewN q) wr.heap.size PA' n (fun j => .int .u8 (z' j)) from k5) pc'
      rw [← bytesOf_congr he] at s2
      have BB := Lib.hid hb
      have k0 : (0 : Int) ≤ (k : Int) := by omega
      have k1 : (k : Int) < (m : Int) := by omega
      clear h5 k5 he hb
      go_upto_region 6 with (fail)
      go_quiet (fail)
      go_wp2
      go_roundw
      case rel => exact ⟨k + 1, by omega, by go_num, below_drewN BB.out _⟩
      case measure => simp [intOf]; omega
    · obtain rfl : k = m := by omega
      have BB := Lib.hid hb
      clear hb
      go_wp2
      go_ret
      exact ⟨rfl, BB.out⟩
end Go.Proofs.YtmdpiajhfohagaaGreat
namespace Go.Proofs.YtmdpiajhfohagaaGreat
open Go.ChangeShapes Go.WideShapes Go.ChangeAt Go.RowKit

def valInt : Option Value → Int
  | some (.int _ a) => a
  | _ => 0
section
variable {H : Type} {enc : TypeId × Value → H} {w : World} {base : Nat} {spare : Nat → Bool} {held : Bool}
theorem open_b16 {fuel : Nat} {L : List Value} {x : DataW H × List MemPlace} (h : DataW.trod enc Tryz.prog w base spare held fuel 24 L = some x) :
    ∃ f : Nat → Int, (∀ j, j < 16 → L[j]? = some (.int .u8 (f j))) ∧ ∀ j, j < 16 → 0 ≤ f j ∧ f j < 256 := by
  obtain ⟨xs, m, _, _, _, hx, hel⟩ := DataW.trod_array Tryz.underlying24 h
  have c5 : Tryz.prog.cellsOf 5 = 1 := by kernel_rfl
  have key : ∀ j, j < 16 → ∃ a, L[j]? = some (.int .u8 a) ∧ 0 ≤ a ∧ a < 256 := fun j hj => by
    have h1 := hel j hj
    rw [c5, Nat.mul_one, List.getElem?_eq_getElem (by omega)] at h1
    obtain ⟨a, e, _, hw⟩ := DataW.trod_int Tryz.underlying5 h1
    have h2 := congrArg List.head? e
    simp [List.head?_take] at h2
    have hb := bounds_u8 hw
    exact ⟨a, h2, hb.1, by omega⟩
  refine ⟨fun j => valInt L[j]?, fun j hj => ?_, fun j hj => ?_⟩
  · obtain ⟨a, e, _⟩ := key j hj
    simp only [e, valInt]
  · obtain ⟨a, e, hb⟩ := key j hj
    simp only [e, valInt]
    exact hb
set_option maxRecDepth 100000 in
theorem open_cfg {r : Reach} {b0 : Nat} {v : Value} {d : DataW H} {p : List MemPlace}
    (hv : Value.okWide Tryz.prog w r b0 26 v) (h : DataW.Trod enc Tryz.prog w base spare held 26 v d p) : ∃ c : Cfg, v = .agg c.arr ∧ c.Ok := by
  obtain ⟨cs, rfl, hsz⟩ := okWide_struct Tryz.underlying26 hv
  have hc : Tryz.prog.cellsOf 26 = 39 := by kernel_rfl
  have h9 : cs.size = 39 := hsz.trans hc
  obtain ⟨fuel, hf⟩ := h
  obtain ⟨xs, n, _, _, _, hlen, hg⟩ := DataW.trod_struct Tryz.underlying26 hf
  have c3 : Tryz.prog.cellsOf 3 = 1 := by kernel_rfl
  have c22 : Tryz.prog.cellsOf 23 = 1 := by kernel_rfl
  have c4 : Tryz.prog.cellsOf 4 = 1 := by kernel_rfl
  have c16 : Tryz.prog.cellsOf 24 = 16 := by kernel_rfl
  have hx9 : xs.length = 9 := hlen
  have keyi : ∀ (i o : Nat) (ty : TypeId), Tryz.prog.underlying ty = some (.int .i64) → i < 9 → DataW.trod enc Tryz.prog w base spare held n ty (List.take 1 (List.drop o (Value.agg cs).cells.toList)) = xs[i]? → ∃ a, cs[o]? = some (Value.int .i64 a) := by
    intro i o ty hu hi h1
    rw [List.getElem?_eq_getElem (by omega)] at h1
    obtain ⟨a, e, _, _⟩ := DataW.trod_int hu h1
    refine ⟨a, ?_⟩
    have h2 := congrArg List.head? e
    simp [Value.cells, List.head?_take] at h2
    exact h2
  have keyb : ∀ (i o : Nat), i < 9 → DataW.trod enc Tryz.prog w base spare held n 4 (List.take 1 (List.drop o (Value.agg cs).cells.toList)) = xs[i]? → ∃ a, cs[o]? = some (Value.bool a) := by
    intro i o hi h1
    rw [List.getElem?_eq_getElem (by omega)] at h1
    obtain ⟨a, e, _⟩ := DataW.trod_bool Tryz.underlying4 h1
    refine ⟨a, ?_⟩
    have h2 := congrArg List.head? e
    simp [Value.cells, List.head?_take] at h2
    exact h2
  have keya : ∀ (i o : Nat), i < 9 → DataW.trod enc Tryz.prog w base spare held n 24 (List.take 16 (List.drop o (Value.agg cs).cells.toList)) = xs[i]? → ∃ f : Nat → Int, (∀ j, j < 16 → cs[o + j]? = some (.int .u8 (f j))) ∧ ∀ j, j < 16 → 0 ≤ f j ∧ f j < 256 := by
    intro i o hi h1
    rw [List.getElem?_eq_getElem (by omega)] at h1
    obtain ⟨f, e, hb⟩ := open_b16 h1
    refine ⟨f, fun j hj => ?_, hb⟩
    have := e j hj
    rw [List.getElem?_take, if_pos hj, List.getElem?_drop] at this
    simpa [Value.cells] using this
  obtain ⟨a0, e0⟩ := keyi 0 0 3 Tryz.underlying3 (by decide) (by have h1 : DataW.trod enc Tryz.prog w base spare held n 3 (List.take (Tryz.prog.cellsOf 3) (List.drop 0 (Value.agg cs).cells.toList)) = xs[0]? := hg 0 _ rfl; rwa [c3] at h1)
  obtain ⟨a1, e1⟩ := keyi 1 1 23 Tryz.underlying23 (by decide) (by have h1 : DataW.trod enc Tryz.prog w base spare held n 23 (List.take (Tryz.prog.cellsOf 23) (List.drop 1 (Value.agg cs).cells.toList)) = xs[1]? := hg 1 _ rfl; rwa [c22] at h1)
  obtain ⟨a2, e2, r2⟩ := keya 2 2 (by decide) (by have h1 : DataW.trod enc Tryz.prog w base spare held n 24 (List.take (Tryz.prog.cellsOf 24) (List.drop 2 (Value.agg cs).cells.toList)) = xs[2]? := hg 2 _ rfl; rwa [c16] at h1)
  obtain ⟨a3, e3, r3⟩ := keya 3 18 (by decide) (by have h1 : DataW.trod enc Tryz.prog w base spare held n 24 (List.take (Tryz.prog.cellsOf 24) (List.drop 18 (Value.agg cs).cells.toList)) = xs[3]? := hg 3 _ rfl; rwa [c16] at h1)
  obtain ⟨a4, e4⟩ := keyb 4 34 (by decide) (by have h1 : DataW.trod enc Tryz.prog w base spare held n 4 (List.take (Tryz.prog.cellsOf 4) (List.drop 34 (Value.agg cs).cells.toList)) = xs[4]? := hg 4 _ rfl; rwa [c4] at h1)
  obtain ⟨a5, e5⟩ := keyb 5 35 (by decide) (by have h1 : DataW.trod enc Tryz.prog w base spare held n 4 (List.take (Tryz.prog.cellsOf 4) (List.drop 35 (Value.agg cs).cells.toList)) = xs[5]? := hg 5 _ rfl; rwa [c4] at h1)
  obtain ⟨a6, e6⟩ := keyb 6 36 (by decide) (by have h1 : DataW.trod enc Tryz.prog w base spare held n 4 (List.take (Tryz.prog.cellsOf 4) (List.drop 36 (Value.agg cs).cells.toList)) = xs[6]? := hg 6 _ rfl; rwa [c4] at h1)
  obtain ⟨a7, e7⟩ := keyi 7 37 3 Tryz.underlying3 (by decide) (by have h1 : DataW.trod enc Tryz.prog w base spare held n 3 (List.take (Tryz.prog.cellsOf 3) (List.drop 37 (Value.agg cs).cells.toList)) = xs[7]? := hg 7 _ rfl; rwa [c3] at h1)
  obtain ⟨a8, e8⟩ := keyi 8 38 3 Tryz.underlying3 (by decide) (by have h1 : DataW.trod enc Tryz.prog w base spare held n 3 (List.take (Tryz.prog.cellsOf 3) (List.drop 38 (Value.agg cs).cells.toList)) = xs[8]? := hg 8 _ rfl; rwa [c3] at h1)
  obtain ⟨c, hcd⟩ : ∃ c : Cfg, c = ⟨a0, a1, a2, a3, a4, a5, a6, a7, a8⟩ := ⟨_, rfl⟩
  refine ⟨c, ?_, by rw [hcd]; exact ⟨r2, r3⟩⟩
  have : cs = c.arr := by
    apply Array.ext_getElem?
    intro i
    by_cases hi : i < 39
    · rw [c.arr_at hi, hcd]
      unfold Cfg.cell
      rcases (by omega : i = 0 ∨ i = 1 ∨ (2 ≤ i ∧ i < 18) ∨ (18 ≤ i ∧ i < 34) ∨ i = 34 ∨ i = 35 ∨ i = 36 ∨ i = 37 ∨ i = 38) with rfl | rfl | h | h | rfl | rfl | rfl | rfl | rfl
      · exact e0
      · exact e1
      · rw [if_neg (by omega), if_neg (by omega), if_pos (by omega)]
        have := e2 (i - 2) (by omega)
        rwa [show 2 + (i - 2) = i by omega] at this
      · rw [if_neg (by omega), if_neg (by omega), if_neg (by omega), if_pos (by omega)]
        have := e3 (i - 18) (by omega)
        rwa [show 18 + (i - 18) = i by omega] at this
      · exact e4
      · exact e5
      · exact e6
      · exact e7
      · exact e8
    · rw [Array.getElem?_eq_none (by omega), Array.getElem?_eq_none (by rw [c.arr_size]; omega)]
  rw [this]
end
end Go.Proofs.YtmdpiajhfohagaaGreat
namespace Go.Proofs.YtmdpiajhfohagaaGreat
open Go.RowKit
set_option linter.unusedVariables false
attribute [local go_sem ↓] Go.wp_at_zero Go.wp_at_succ

set_option maxRecDepth 100000 in
set_option maxHeartbeats 1600000 in
theorem rvalid45_ok (c : Cfg) (w : World) : Calls Tryz.prog 8 #[.agg c.arr] w fun e w' => e = .returned (.bool (decide c.Valid)) ∧ Below w.heap.size w w' := by
  have h0 : c.arr[0]? = some (.int .i64 c.b) := c.arr_at (by decide)
  have h1 : c.arr[1]? = some (.int .i64 c.d) := c.arr_at (by decide)
  have h2 : c.arr[37]? = some (.int .i64 c.ds) := c.arr_at (by decide)
  have h3 : c.arr[38]? = some (.int .i64 c.ro) := c.arr_at (by decide)
  have HV := Lib.hid (show c.Valid ↔ (0 ≤ c.b ∧ c.b ≤ 31 ∧ (c.d = 0 ∨ c.d = 1) ∧ 0 ≤ c.ds ∧ c.ds ≤ 1073741824 ∧ 0 ≤ c.ro ∧ c.ro ≤ 1073741824) from Iff.rfl)
  obtain ⟨V, hV⟩ : ∃ V, V = decide c.Valid := ⟨_, rfl⟩
  have HD := Lib.hid (show V = true ↔ c.Valid from by rw [hV]; exact decide_eq_true_iff)
  obtain ⟨Z, hZ⟩ : ∃ Z, Z = c.arr := ⟨_, rfl⟩
  rw [← hV]
  rw [← hZ] at h0 h1 h2 h3 ⊢
  obtain ⟨b, hb⟩ : ∃ b, b = c.b := ⟨_, rfl⟩
  obtain ⟨d, hd⟩ : ∃ d, d = c.d := ⟨_, rfl⟩
  obtain ⟨ds, hds⟩ : ∃ ds, ds = c.ds := ⟨_, rfl⟩
  obtain ⟨ro, hro⟩ : ∃ ro, ro = c.ro := ⟨_, rfl⟩
  rw [← hb] at h0 HV
  rw [← hd] at h1 HV
  rw [← hds] at h2 HV
  rw [← hro] at h3 HV
  clear hZ hV hb hd hds hro
  go_enter Tryz.func8, Tryz.ntmps8
  go_upto_region 1 with (fail)
  refine wp_let (fun W => Blk W w.heap.size 26 Z ∧ Below w.heap.size w W) ⟨Blk.new _ _ _, (Below.refl _ w).alloc (Nat.le_refl _) _⟩ ?_
  rintro W1 ⟨b1, b2⟩
  have x0 := (b1.cell 0).trans h0
  have x1 := (b1.cell 1).trans h1
  have x2 := (b1.cell 37).trans h2
  have x3 := (b1.cell 38).trans h3
  have HB := Lib.hid b2
  clear b1 b2 h0 h1 h2 h3
  have hout : ∀ r : Bool, (r = true ↔ (0 ≤ b ∧ b ≤ 31 ∧ (d = 0 ∨ d = 1) ∧ 0 ≤ ds ∧ ds ≤ 1073741824 ∧ 0 ≤ ro ∧ ro ≤ 1073741824)) → r = V := fun r hr => by
    rw [Bool.eq_iff_iff, hr, HD.out, HV.out]
  have HO := Lib.hid hout
  clear hout
  by_cases c0 : 0 ≤ b
  rotate_left
  · go_wp2
    go_ret
    exact ⟨ret_bool (HO.out _ ⟨fun h => (by cases h), fun h => (by omega)⟩), HB.out⟩
  by_cases c1 : b ≤ 31
  rotate_left
  · go_wp2
    go_ret
    exact ⟨ret_bool (HO.out _ ⟨fun h => (by cases h), fun h => (by omega)⟩), HB.out⟩
  by_cases c2 : d = 0 ∨ d = 1
  rotate_left
  · have d0 : (d == 0) = false := by simp; exact fun h => c2 (.inl h)
    have d1 : (d == 1) = false := by simp; exact fun h => c2 (.inr h)
    have HC2 := Lib.hid c2
    clear c2
    go_wp2
    go_ret
    exact ⟨ret_bool (HO.out _ ⟨fun h => (by cases h), fun h => (absurd h.2.2.1 HC2.out)⟩), HB.out⟩
  by_cases c3 : 0 ≤ ds
  rotate_left
  · rcases c2 with rfl | rfl
    · go_wp2
      go_ret
      exact ⟨ret_bool (HO.out _ ⟨fun h => (by cases h), fun h => (by omega)⟩), HB.out⟩
    · go_wp2
      go_ret
      exact ⟨ret_bool (HO.out _ ⟨fun h => (by cases h), fun h => (by omega)⟩), HB.out⟩
  by_cases c4 : ds ≤ 1073741824
  rotate_left
  · rcases c2 with rfl | rfl
    · go_wp2
      go_ret
      exact ⟨ret_bool (HO.out _ ⟨fun h => (by cases h), fun h => (by omega)⟩), HB.out⟩
    · go_wp2
      go_ret
      exact ⟨ret_bool (HO.out _ ⟨fun h => (by cases h), fun h => (by omega)⟩), HB.out⟩
  by_cases c5 : 0 ≤ ro
  rotate_left
  · rcases c2 with rfl | rfl
    · go_wp2
      go_ret
      exact ⟨ret_bool (HO.out _ ⟨fun h => (by cases h), fun h => (by omega)⟩), HB.out⟩
    · go_wp2
      go_ret
      exact ⟨ret_bool (HO.out _ ⟨fun h => (by cases h), fun h => (by omega)⟩), HB.out⟩
  by_cases c6 : ro ≤ 1073741824
  · rcases c2 with rfl | rfl
    · go_wp2
      go_ret
      exact ⟨ret_bool (HO.out _ ⟨fun h => ⟨by omega, by omega, by simp, by omega, by omega, by omega, by omega⟩, fun h => rfl⟩), HB.out⟩
    · go_wp2
      go_ret
      exact ⟨ret_bool (HO.out _ ⟨fun h => ⟨by omega, by omega, by simp, by omega, by omega, by omega, by omega⟩, fun h => rfl⟩), HB.out⟩
  · rcases c2 with rfl | rfl
    · go_wp2
      go_ret
      exact ⟨ret_bool (HO.out _ ⟨fun h => (by cases h), fun h => (by omega)⟩), HB.out⟩
    · go_wp2
      go_ret
      exact ⟨ret_bool (HO.out _ ⟨fun h => (by cases h), fun h => (by omega)⟩), HB.out⟩
end Go.Proofs.YtmdpiajhfohagaaGreat
namespace Go.Proofs.YtmdpiajhfohagaaGreat
open Go.RowKit
set_option linter.unusedVariables false
attribute [local go_sem ↓] Go.wp_at_zero Go.wp_at_succ

theorem Cfg.setIg_arr (c : Cfg) (x : Bool) : c.arr.setIfInBounds 34 (.bool x) = ({ c with ig := x } : Cfg).arr := by
  apply Array.ext_getElem?
  intro j
  rw [Array.getElem?_setIfInBounds, c.arr_size]
  by_cases hj : j < 39
  · rw [({ c with ig := x } : Cfg).arr_at hj]
    by_cases e : 34 = j
    · subst e; rw [if_pos rfl, if_pos (by omega)]; rfl
    · rw [if_neg e, c.arr_at hj]
      unfold Cfg.cell
      by_cases h0 : j = 0
      · simp [h0]
      by_cases h1 : j = 1
      · simp [h1]
      by_cases h2 : j < 18
      · simp [h0, h1, h2]
      by_cases h3 : j < 34
      · simp [h0, h1, h2, h3]
      by_cases h4 : j = 34
      · exact absurd h4.symm e
      by_cases h5 : j = 35
      · simp [h5]
      by_cases h6 : j = 36
      · simp [h6]
      by_cases h7 : j = 37
      · simp [h7]
      · simp [h0, h1, h2, h3, h4, h5, h6, h7]
  · rw [if_neg (by omega), Array.getElem?_eq_none (by rw [c.arr_size]; omega), Array.getElem?_eq_none (by rw [Cfg.arr_size]; omega)]
theorem Cfg.setCm_arr (c : Cfg) (x : Bool) : c.arr.setIfInBounds 35 (.bool x) = ({ c with cm := x } : Cfg).arr := by
  apply Array.ext_getElem?
  intro j
  rw [Array.getElem?_setIfInBounds, c.arr_size]
  by_cases hj : j < 39
  · rw [({ c with cm := x } : Cfg).arr_at hj]
    by_cases e : 35 = j
    · subst e; rw [if_pos rfl, if_pos (by omega)]; rfl
    · rw [if_neg e, c.arr_at hj]
      unfold Cfg.cell
      by_cases h0 : j = 0
      · simp [h0]
      by_cases h1 : j = 1
      · simp [h1]
      by_cases h2 : j < 18
      · simp [h0, h1, h2]
      by_cases h3 : j < 34
      · simp [h0, h1, h2, h3]
      by_cases h4 : j = 34
      · simp [h4]
      by_cases h5 : j = 35
      · exact absurd h5.symm e
      by_cases h6 : j = 36
      · simp [h6]
      by_cases h7 : j = 37
      · simp [h7]
      · simp [h0, h1, h2, h3, h4, h5, h6, h7]
  · rw [if_neg (by omega), Array.getElem?_eq_none (by rw [c.arr_size]; omega), Array.getElem?_eq_none (by rw [Cfg.arr_size]; omega)]
theorem Cfg.setRo_arr (c : Cfg) (x : Int) : c.arr.setIfInBounds 38 (.int .i64 x) = ({ c with ro := x } : Cfg).arr := by
  apply Array.ext_getElem?
  intro j
  rw [Array.getElem?_setIfInBounds, c.arr_size]
  by_cases hj : j < 39
  · rw [({ c with ro := x } : Cfg).arr_at hj]
    by_cases e : 38 = j
    · subst e; rw [if_pos rfl, if_pos (by omega)]; rfl
    · rw [if_neg e, c.arr_at hj]
      unfold Cfg.cell
      by_cases h0 : j = 0
      · simp [h0]
      by_cases h1 : j = 1
      · simp [h1]
      by_cases h2 : j < 18
      · simp [h0, h1, h2]
      by_cases h3 : j < 34
      · simp [h0, h1, h2, h3]
      by_cases h4 : j = 34
      · simp [h4]
      by_cases h5 : j = 35
      · simp [h5]
      by_cases h6 : j = 36
      · simp [h6]
      by_cases h7 : j = 37
      · simp [h7]
      · exact absurd (by omega) e
  · rw [if_neg (by omega), Array.getElem?_eq_none (by rw [c.arr_size]; omega), Array.getElem?_eq_none (by rw [Cfg.arr_size]; omega)]
def Cfg.noK (c : Cfg) : Cfg := { c with cm := false }
theorem Cfg.noK_arr (c : Cfg) : c.arr.setIfInBounds 35 (.bool false) = c.noK.arr := c.setCm_arr false
set_option maxRecDepth 100000 in
set_option maxHeartbeats 1600000 in
theorem plain46_ok (c : Cfg) (w : World) : Calls Tryz.prog 7 #[.agg c.arr] w fun e w' => e = .returned (.agg c.noK.arr) ∧ Below w.heap.size w w' := by
  have HP := Lib.hid c.noK_arr
  have HS : Hid ((Tryz.prog.info? 26).map (·.size) = some c.noK.arr.size) := Lib.hid (by rw [c.noK.arr_size]; exact infoPd)
  have HO := Lib.hid c.noK.arr_one
  have HZS : Hid (Cfg.zero.arr.size = c.noK.arr.size) := Lib.hid (by rw [Cfg.arr_size, Cfg.arr_size])
  have c35 := c.arr_at (j := 35) (by decide)
  obtain ⟨Z, hZ⟩ : ∃ Z, Z = c.arr := ⟨_, rfl⟩
  obtain ⟨Y, hY⟩ : ∃ Y, Y = c.noK.arr := ⟨_, rfl⟩
  rw [← hZ] at HP c35 ⊢
  rw [← hY] at HP HS HO HZS ⊢
  have HC35 := Lib.hid c35
  have HU := Lib.hid Tryz.underlying26
  clear hZ hY c35
  go_enter Tryz.func7, Tryz.ntmps7
  go_upto_region 1 with (fail)
  obtain ⟨g, hg⟩ : ∃ g, g = w.heap.size := ⟨_, rfl⟩
  refine wp_let (fun W => Blk W g 26 Z ∧ Blk W (g + 1) 26 Cfg.zero.arr ∧ Below w.heap.size w W) ⟨by rw [hg]; exact (Blk.new _ _ _).alloc _, by rw [cf0_lit, hg]; exact blk_atZ _ _ _ _ (by simp), ((Below.refl _ w).alloc (Nat.le_refl _) _).alloc (by simp) _⟩ ?_
  rintro W1 ⟨b1, b2, b3⟩
  have B1 := Lib.hid b1
  have B2 := Lib.hid b2
  have B3 := Lib.hid b3
  have HG := Lib.hid hg
  rw [← hg]
  have c35 : W1.cell? ⟨g, 35, none⟩ = some (c.cell 35) := (b1.cell 35).trans HC35.out
  have f35 := b1.frozen 35
  clear b1 b2 b3 hg
  go_upto_region 2 with (fail)
  refine wp_let (fun W => Blk W g 26 Y ∧ Blk W (g + 1) 26 Cfg.zero.arr ∧ Below w.heap.size w W) ⟨by rw [← HP.out]; exact B1.out.set_ 35 _, B2.out.far (p := ⟨g, 35, none⟩) (by show ¬ g + 1 = g; omega) _, B3.out.setCell (p := ⟨g, 35, none⟩) (by rw [HG.out]; exact Nat.le_refl _) _⟩ ?_
  rintro W2 ⟨b1, b2, b3⟩
  have D1 := Lib.hid b1
  have D2 := Lib.hid b2
  have D3 := Lib.hid b3
  clear b1 b2 b3 c35 f35
  go_wp2_with (first
    | (refine wpList_load_row rfl _ _ rfl g rfl 26 Y (0, 0) _ D1.out HU.out rfl HS.out ?_)
    | (refine wpList_store_row rfl _ _ _ rfl (g + 1) Y rfl rfl 26 _ D2.out HS.out HZS.out HO.out ?_))
  refine bodyPost_ret (v := .agg Y) (results_cell_row (g := g + 1) (t := 26) (fr := (0, 0)) Tryz.results7 _ _ Y _ rfl (setRow_heap _ _ _ Y 26 (0, 0) D2.out) HU.out rfl HS.out) rfl ⟨rfl, ?_⟩
  exact belowRow D3.out (by rw [HG.out]; omega) _
end Go.Proofs.YtmdpiajhfohagaaGreat
namespace Go.Proofs.YtmdpiajhfohagaaGreat
open Go.RowKit
set_option linter.unusedVariables false
set_option linter.unusedSimpArgs false
attribute [local go_sem ↓] Go.wp_at_zero Go.wp_at_succ

def z123 : Nat → Nat := fun j => if j = 0 then 1 else if j = 1 then 2 else 3
theorem z123_lt (j : Nat) : z123 j < 256 := by unfold z123; split <;> (try split) <;> omega
theorem cnts_none (w : World) : Cnts w none 0 (fun _ => 0) (fun _ => none) (fun _ => 0) (fun _ => 0) (fun _ _ => 0) :=
  ⟨fun h => absurd rfl h, fun k h => (by omega), fun k h => (by omega), fun k h => (by omega), fun k h => (by omega), fun k h => (by omega)⟩
theorem whole_none {d : Int} (h1 : d ≤ 4294967296) : Whole d d 0 (fun _ => 0) (fun _ => 0) := ⟨⟨Int.le_refl _, h1, by omega⟩, fun k h => (by omega), .inl rfl⟩
theorem pduL_at {cf : Cfg} {ct n : Nat} {z : Nat → Nat} {j : Nat} (hj : j < pduN cf n) : (pduL cf ct n z)[j]? = some (.int .u8 ((pduZ cf ct n z j : Nat) : Int)) := by
  unfold pduL
  rw [List.getElem?_map, List.getElem?_range hj]
  rfl
theorem bytes123 (cf : Cfg) (ct : Nat) : bytesOf 3 (fun j => ((plainZ cf ct 3 z123 j : Nat) : Int)) = ⟨#[1, 2, 3]⟩ := by
  have h : bytesOf 3 (fun j => ((plainZ cf ct 3 z123 j : Nat) : Int)) = bytesOf 3 (fun j => ((z123 j : Nat) : Int)) := bytesOf_congr (fun j hj => by rw [plainZ_at cf ct 3 z123 j hj])
  rw [h]
  rfl
set_option maxRecDepth 100000 in
set_option maxHeartbeats 6400000 in
theorem seq_walk (di : Int) (hdi : 0 ≤ di ∧ di < 4294967296) (fa : Int) (c : Cfg) (hck : c.Ok) (w : World) : Calls Tryz.prog 3 #[.int .u32 di, .int .i64 fa, .agg c.arr] w fun e w' => e = .returned (.bool true) ∧ Below w.heap.size w w' := by
  have HKN := Lib.hid (fun V => known_true V)
  have HPL := Lib.hid (fun V => plain46_ok c V)
  obtain ⟨cf, hcf⟩ : ∃ cf : Cfg, cf = { ({ c.noK with ig := true } : Cfg) with ro := 0 } := ⟨_, rfl⟩
  have hok : cf.Ok := by rw [hcf]; exact ⟨hck.key, hck.code⟩
  have hcm : cf.cm = false := by rw [hcf]; rfl
  have hro : cf.ro = 0 := by rw [hcf]
  have HVL := Lib.hid (fun V => rvalid45_ok cf V)
  have HCF := Lib.hid (And.intro hok (And.intro hcm hro))
  have HS0 : Hid ((Tryz.prog.info? 26).map (·.size) = some c.arr.size) := Lib.hid (by rw [c.arr_size]; exact infoPd)
  have HS1 : Hid ((Tryz.prog.info? 26).map (·.size) = some c.noK.arr.size) := Lib.hid (by rw [c.noK.arr_size]; exact infoPd)
  have HS2 : Hid ((Tryz.prog.info? 26).map (·.size) = some cf.arr.size) := Lib.hid (by rw [cf.arr_size]; exact infoPd)
  have HSS : Hid (c.arr.size = c.noK.arr.size) := Lib.hid (by rw [c.arr_size, c.noK.arr_size])
  have HO1 := Lib.hid c.noK.arr_one
  have HSET : Hid ((c.noK.arr.setIfInBounds 34 (.bool true)).setIfInBounds 38 (.int .i64 0) = cf.arr) := Lib.hid (by rw [Cfg.setIg_arr, Cfg.setRo_arr, hcf])
  have HY34 := Lib.hid (show c.noK.arr[34]? = some (.bool c.ig) from c.noK.arr_at (by decide))
  have HY38 := Lib.hid (show c.noK.arr[38]? = some (.int .i64 c.ro) from c.noK.arr_at (by decide))
  have HRES := Lib.hid (fun (hv : cf.Valid) V => rresume_any cf V hv none 0 0 di di (fun _ => 0) (fun _ => none) (fun _ => 0) (fun _ => 0) (fun _ _ => 0) hdi.1 (Nat.zero_le _) (cnts_none V) (whole_none (by omega)))
  have HPDU := Lib.hid (fun (hv : cf.Valid) ct hct A cp V hr => rpdu_any cf hok hv ct hct A 3 cp z123 (by decide) (by decide) V hr (fun j _ => z123_lt j))
  obtain ⟨Z, hZ⟩ : ∃ Z, Z = c.arr := ⟨_, rfl⟩
  obtain ⟨Y, hY⟩ : ∃ Y, Y = c.noK.arr := ⟨_, rfl⟩
  obtain ⟨CA, hCA⟩ : ∃ CA, CA = cf.arr := ⟨_, rfl⟩
  rw [← hZ] at HPL HS0 HSS ⊢
  rw [← hY] at HPL HS1 HSS HO1 HSET HY34 HY38
  rw [← hCA] at HVL HS2 HSET HRES HPDU
  have HU := Lib.hid Tryz.underlying26
  obtain ⟨d0, d1⟩ := hdi
  clear hZ hY hCA hok hcm hro hcf hck
  go_enter Tryz.func3, Tryz.ntmps3
  go_upto_region 1 with (fail)
  obtain ⟨g, hg⟩ : ∃ g, g = w.heap.size := ⟨_, rfl⟩
  refine wp_let (fun W => Blk W g 26 Z ∧ Below w.heap.size w W) ⟨by rw [hg]; exact Blk.new _ _ _, (Below.refl _ w).alloc (Nat.le_refl _) _⟩ ?_
  rintro W1 ⟨b1, b2⟩
  have B1 := Lib.hid b1
  have B2 := Lib.hid b2
  have HG := Lib.hid hg
  rw [← hg]
  clear b1 b2 hg
  go_upto_region 2 with (first
    | (refine wpList_load_row rfl _ _ rfl g rfl 26 Z (0, 0) _ B1.out HU.out rfl HS0.out ?_)
    | (go_at_call 7; refine (HPL.out _).mono ?_; rintro e w2 ⟨rfl, hB⟩; have C1 := Lib.hid (B1.out.below hB B1.out.lt); have C2 := Lib.hid (B2.out.trans (hB.mono B2.out.size)); clear hB)
    | (refine wpList_store_row rfl _ _ _ rfl g Y rfl rfl 26 _ C1.out HS1.out HSS.out HO1.out ?_))
  try simp only [Act.put]
  refine wp_let (fun W => Blk W g 26 Y ∧ Below w.heap.size w W) ⟨setRow_heap _ _ _ Y 26 (0, 0) C1.out, belowRow C2.out (by rw [HG.out]; exact Nat.le_refl _) _⟩ ?_
  rintro W2 ⟨b1, b2⟩
  have D1 := Lib.hid b1
  have D2 := Lib.hid b2
  have y34 := (b1.cell 34).trans HY34.out
  have y38 := (b1.cell 38).trans HY38.out
  have f34 := b1.frozen 34
  have f38 := b1.frozen 38
  clear b1 b2 B1 B2 C1 C2
  go_upto_region 3 with (fail)
  refine wp_let (fun W => Blk W g 26 CA ∧ Below w.heap.size w W) ⟨by rw [← HSET.out]; exact (D1.out.set_ 34 _).set_ 38 _, (D2.out.setCell (p := ⟨g, 34, none⟩) (by rw [HG.out]; exact Nat.le_refl _) _).setCell (p := ⟨g, 38, none⟩) (by rw [HG.out]; exact Nat.le_refl _) _⟩ ?_
  rintro W3 ⟨b1, b2⟩
  have E1 := Lib.hid b1
  have E2 := Lib.hid b2
  clear b1 b2 D1 D2 y34 y38 f34 f38
  by_cases hv : cf.Valid
  rotate_left
  · rw [decide_eq_false hv] at HVL
    go_wp2_with (first
      | (refine wpList_load_row rfl _ _ rfl g rfl 26 CA (0, 0) _ E1.out HU.out rfl HS2.out ?_)
      | (go_at_call 8; refine (HVL.out _).mono ?_; rintro e w2 ⟨rfl, hB⟩; have F2 := Lib.hid (E2.out.trans (hB.mono E2.out.size)); clear hB)
      | (go_at_call 9; refine (HKN.out _).mono ?_; rintro e w3 ⟨rfl, hB⟩; have F3 := Lib.hid (F2.out.trans (hB.mono F2.out.size)); clear hB))
    go_ret
    exact ⟨rfl, F3.out⟩
  rw [decide_eq_true hv] at HVL
  have HVV := Lib.hid hv
  clear hv
  by_cases hf1 : fa < -2048
  · go_wp2_with (first
      | (refine wpList_load_row rfl _ _ rfl g rfl 26 CA (0, 0) _ E1.out HU.out rfl HS2.out ?_)
      | (go_at_call 8; refine (HVL.out _).mono ?_; rintro e w2 ⟨rfl, hB⟩; have F2 := Lib.hid (E2.out.trans (hB.mono E2.out.size)); clear hB)
      | (go_at_call 9; refine (HKN.out _).mono ?_; rintro e w3 ⟨rfl, hB⟩; have F3 := Lib.hid (F2.out.trans (hB.mono F2.out.size)); clear hB))
    go_ret
    exact ⟨rfl, F3.out⟩
  by_cases hf2 : 2047 < fa
  · go_wp2_with (first
      | (refine wpList_load_row rfl _ _ rfl g rfl 26 CA (0, 0) _ E1.out HU.out rfl HS2.out ?_)
      | (go_at_call 8; refine (HVL.out _).mono ?_; rintro e w2 ⟨rfl, hB⟩; have F2 := Lib.hid (E2.out.trans (hB.mono E2.out.size)); clear hB)
      | (go_at_call 9; refine (HKN.out _).mono ?_; rintro e w3 ⟨rfl, hB⟩; have F3 := Lib.hid (F2.out.trans (hB.mono F2.out.size)); clear hB))
    go_ret
    exact ⟨rfl, F3.out⟩
  have wd2 : IntKind.i64.wrap di = di := by simp [IntKind.wrap_i64]; omega
  have wd4 : IntKind.u64.wrap di = di := by simp [IntKind.wrap_u64]; omega
  have wnn : IntKind.i64.wrap (di + fa) = di + fa := by simp [IntKind.wrap_i64]; omega
  go_upto_region 6 with (first
      | (refine wpList_load_row rfl _ _ rfl g rfl 26 CA (0, 0) _ E1.out HU.out rfl HS2.out ?_)
      | (go_at_call 8; refine (HVL.out _).mono ?_; rintro e w2 ⟨rfl, hB⟩; have F1 := Lib.hid (E1.out.below hB E1.out.lt); have F2 := Lib.hid (E2.out.trans (hB.mono E2.out.size)); clear hB))
  by_cases hn0 : di + fa < 0
  · go_wp2_with (go_at_call 9; refine (HKN.out _).mono ?_; rintro e w3 ⟨rfl, hB⟩; have F3 := Lib.hid (F2.out.trans (hB.mono F2.out.size)); clear hB)
    go_ret
    exact ⟨rfl, F3.out⟩
  by_cases hn1 : 4294967296 ≤ di + fa
  · go_wp2_with (go_at_call 9; refine (HKN.out _).mono ?_; rintro e w3 ⟨rfl, hB⟩; have F3 := Lib.hid (F2.out.trans (hB.mono F2.out.size)); clear hB)
    go_ret
    exact ⟨rfl, F3.out⟩
  obtain ⟨N, hN⟩ : ∃ N : Nat, di + fa = (N : Int) := ⟨(di + fa).toNat, by omega⟩
  have hN4 : N < 4294967296 := by omega
  have hN5 : (N : Int) < 4294967296 := by omega
  have hN6 : (0 : Int) ≤ (N : Int) := by omega
  have HNF := Lib.hid (show di + fa = (N : Int) ∧ -2048 ≤ fa ∧ fa ≤ 2047 ∧ N < 4294967296 by omega)
  have e1 : decide ((N : Int) < 0) = false := decide_eq_false (by omega)
  have e2 : decide ((4294967296 : Int) ≤ (N : Int)) = false := decide_eq_false (by omega)
  rw [hN]
  clear wnn hn0 hn1 hN wd2 hf1 hf2 hN4
  go_upto_region 11 with (first
      | (refine wpList_load_row rfl _ _ rfl g rfl 26 CA (0, 0) _ F1.out HU.out rfl HS2.out ?_)
      | (go_at_call 10; refine (HRES.out HVV.out _).mono ?_; rintro e w4 ⟨g5, mS, mU, eb, X, l0, R0, rfl, hT, h1, h2, h3, h4, hR0, hB⟩; have HT := Lib.hid hT; have HB := Lib.hid hB; have HGS := Lib.hid (And.intro h1 (And.intro h2 (And.intro h3 (And.intro h4 hR0)))); clear hT h1 h2 h3 h4 hR0 hB))
  have hsz2 := F2.out.size
  obtain ⟨W4, hW4⟩ : ∃ W4 : Nat → Prop, W4 = fun k => k = g5 ∨ k = mS ∨ k = mU ∨ k = eb := ⟨_, rfl⟩
  have HWL := Lib.hid (show ∀ q, W4 q → w.heap.size ≤ q by
    rw [hW4]
    intro q hq
    have h := HGS.out
    rcases hq with h5 | h5 | h5 | h5 <;> omega)
  rw [← hW4] at HT
  clear hW4 hsz2
  have hl0 : l0 = [] := by
    have h := HT.out.lv
    simpa [svTo, rresS] using h
  subst hl0
  obtain ⟨u0, hu0⟩ : ∃ u0, u0 = w4.alloc (.cells #[.int .u8 1, .int .u8 2, .int .u8 3] 5) := ⟨_, rfl⟩
  obtain ⟨lb, hlb⟩ : ∃ lb, lb = w4.heap.size := ⟨_, rfl⟩
  have hb4 : Below w4.heap.size w4 u0 := by rw [hu0]; exact (Below.refl _ _).alloc (Nat.le_refl _) _
  have HPD := Lib.hid (HPDU.out HVV.out N HNF.out.2.2.2 (some ⟨lb, 0, none⟩) 3 u0 (by
    rw [hu0, hlb]
    exact row_lit w4 #[.int .u8 1, .int .u8 2, .int .u8 3] 3 (fun j => z123 j) rfl (fun j hj => by
      rcases (by omega : j = 0 ∨ j = 1 ∨ j = 2) with rfl | rfl | rfl <;> rfl)))
  have HB4 := Lib.hid hb4
  have HU0 := Lib.hid hu0
  have HLB := Lib.hid hlb
  have F3 := Lib.hid (F1.out.below HB.out F1.out.lt)
  have HRC := Lib.hid (show ∀ A5 c5 u1, Below w4.heap.size w4 u1 → SL u1 5 1 A5 (pduN cf 3) c5 (pduL cf N 3 z123) → Fresh u0.heap.size A5 → Calls Tryz.prog 11 #[.pointer (some ⟨g5, 0, none⟩), .int .i64 0, .slice A5 (pduN cf 3) c5] u1 (RecvO g5 (rresS cf X di di []) W4 R0 mS mU eb 0 (pduN cf 3) (pduZ cf N 3 z123) u1) from fun A5 c5 u1 hu hs hf => recv_pdu g5 (rresS cf X di di (svTo (fun _ => 0) (fun _ => 0) (fun _ _ => 0) 0)) W4 R0 mS [] mU eb u1 (HT.out.below hu) HCF.out.1 HVV.out HCF.out.2.1 (by decide) (by show (0 : Int) < _; decide) 0 A5 3 c5 N z123 (by decide) (by decide) (fun j _ => z123_lt j) hs.le (hs.rowOf (fun j hj => pduL_at hj)) (fun a ha hw => by
    have h1 := hf a ha
    have h2 := HT.out.win _ hw
    have h3 := HB4.out.size
    omega))
  clear hu0 hlb hb4 HPDU
  have h3 : (3 : Nat) = 3 := rfl
  rcases (by omega : fa < 0 ∨ fa = 0 ∨ 0 < fa) with hfa | hfa | hfa
  · obtain ⟨s', hX, hsD, hsN, hsL, hsU, hsC, hsR⟩ := seq_neg cf HCF.out.1 HCF.out.2.2 X di d0 (by omega) N 3 z123 (by decide) (by decide) (fun j _ => z123_lt j) HNF.out.2.2.2 (by have := HNF.out; omega) (by have := HNF.out; omega)
    have HX := Lib.hid hX
    have HL := Lib.hid hsL
    have HDL := Lib.hid (And.intro hsD (And.intro hsN hsU))
    clear hX hsD hsN hsL hsU hsC hsR h3
    go_upto_region 12 with (first
      | (refine wpList_load_row rfl _ _ rfl g rfl 26 CA (0, 0) _ F3.out HU.out rfl HS2.out ?_)
      | (go_at_call 12; rw [← HU0.out, ← HLB.out]; refine (HPD.out).mono ?_; rintro e u1 ⟨A5, c5, rfl, hs5, hf5, hB5⟩; have HRV := Lib.hid (HRC.out A5 c5 u1 (HB4.out.trans (hB5.mono HB4.out.size)) hs5 hf5); have HB5 := Lib.hid (HB4.out.trans (hB5.mono HB4.out.size)); clear hs5 hf5 hB5)
      | (go_at_call 11; refine (HRV.out).mono ?_; rintro e u2 ⟨R6, l6, A6, c6, lo6, rfl, hM6, hm6, hp6, hT6, hr6, hr6b, hk6⟩; rw [HX.out] at hm6 hT6 ⊢; have HM6 := Lib.hid (And.intro hM6 (And.intro hm6 hp6)); have HT6 := Lib.hid hT6; have HK6 := Lib.hid hk6; clear hM6 hm6 hp6 hT6 hr6 hr6b hk6))
    have hl6 : l6.map (·.v) = s'.L := HT6.out.lv
    rw [HL.out] at hl6
    have hl62 : l6.length ≤ 12 := by
      have h := congrArg List.length hl6
      rw [List.length_map] at h
      rw [h]
      first | decide | (show 1 ≤ 12; decide)
    have HEX := Lib.hid (rexport_ok g5 s' W4 R6 mS l6 mU eb u2 HT6.out (sortedOK_small hl62) (by omega))
    have HDN := Lib.hid hl6
    obtain ⟨sd, hsd⟩ : ∃ x, x = s'.deliver := ⟨_, rfl⟩
    obtain ⟨sn, hsn⟩ : ∃ x, x = s'.next := ⟨_, rfl⟩
    have hlow : Below w.heap.size w u2 := KeepF.below (F2.out.trans (HB.out.trans (HB5.out.mono HB.out.size) |>.mono F2.out.size)) HK6.out (fun q hq => HWL.out q hq) (Nat.le_trans F2.out.size (Nat.le_trans HB.out.size HB5.out.size))
    have HLOW := Lib.hid hlow
    clear hl6 hl62 hlow
    go_upto_region 13 with (go_at_call 13; refine (HEX.out).mono ?_; rintro e u3 ⟨A7, c7, lx, rfl, hlx, hs7, hf7, hx7, hB7⟩; rw [HDN.out] at hlx; have HLX := Lib.hid hlx; have HS7 := Lib.hid hs7; have HB7 := Lib.hid hB7; rw [HDL.out.1, HDL.out.2.1]; clear hlx hs7 hf7 hx7 hB7)
    obtain ⟨xb, hxb⟩ : ∃ xb, xb = u3.heap.size := ⟨_, rfl⟩
    obtain ⟨V, hV⟩ : ∃ V, V = u3.alloc (.cells #[.int .u64 di, .int .u64 di, .slice A7 l6.length c7] 37) := ⟨_, rfl⟩
    have hb3 : Below u2.heap.size u2 V := by rw [hV]; exact HB7.out.alloc HB7.out.size _
    have hb37 : Below u3.heap.size u3 V := by rw [hV]; exact (Below.refl _ _).alloc (Nat.le_refl _) _
    have hVB : Blk V xb 37 #[.int .u64 di, .int .u64 di, .slice A7 l6.length c7] := by rw [hV, hxb]; exact Blk.new _ _ _
    rw [← hV, ← hxb]
    have HTV := Lib.hid (HT6.out.below hb3)
    have HLV := Lib.hid (HLOW.out.trans (hb3.mono HLOW.out.size))
    have HSV := Lib.hid (HM6.out.1.1.next hb3)
    have HPV := Lib.hid (fun x hx => (HM6.out.2.2 x hx).keep (KeepF.of_below (F := fun _ => False) hb3) (fun _ h => h.elim))
    have HS8 := Lib.hid (HS7.out.next hb37)
    have x0 := hVB.cell 0
    have x1 := hVB.cell 1
    have x2 := hVB.cell 2
    simp only [List.getElem?_toArray, List.getElem?_cons_zero, List.getElem?_cons_succ] at x0 x1 x2
    have hmv := HM6.out.2.1
    clear hV hb3 hb37 hVB hxb
    have e6 : lo6.length = 0 := by
      have h := congrArg List.length hmv
      rw [List.length_map] at h
      exact h
    have HDU := Lib.hid (dups_ok g5 s' W4 R6 mS l6 mU eb V HTV.out)
    rw [HDL.out.2.2] at HDU
    rw [e6]
    clear hmv e6 x0 x2
    go_wp2_with (first
      | (go_at_call 14; refine (HDU.out).mono ?_; rintro e v0 ⟨rfl, hv0⟩; subst hv0)
      | (go_at_call 9; refine (HKN.out _).mono ?_; rintro e u9 ⟨rfl, hB⟩; have HL9 := Lib.hid (HLV.out.trans (hB.mono HLV.out.size)); clear hB))
    go_ret
    exact ⟨rfl, HL9.out⟩
  · obtain rfl : di = (N : Int) := by have := HNF.out; omega
    obtain ⟨s', hX, hsD, hsN, hsL, hsU, hsC, hsR⟩ := seq_zero cf HCF.out.1 HCF.out.2.2 X N 3 z123 (by decide) (by decide) (fun j _ => z123_lt j) HNF.out.2.2.2
    have HX := Lib.hid hX
    have HL := Lib.hid hsL
    have HDL := Lib.hid (And.intro hsD (And.intro hsN hsU))
    clear hX hsD hsN hsL hsU hsC hsR h3
    go_upto_region 12 with (first
      | (refine wpList_load_row rfl _ _ rfl g rfl 26 CA (0, 0) _ F3.out HU.out rfl HS2.out ?_)
      | (go_at_call 12; rw [← HU0.out, ← HLB.out]; refine (HPD.out).mono ?_; rintro e u1 ⟨A5, c5, rfl, hs5, hf5, hB5⟩; have HRV := Lib.hid (HRC.out A5 c5 u1 (HB4.out.trans (hB5.mono HB4.out.size)) hs5 hf5); have HB5 := Lib.hid (HB4.out.trans (hB5.mono HB4.out.size)); clear hs5 hf5 hB5)
      | (go_at_call 11; refine (HRV.out).mono ?_; rintro e u2 ⟨R6, l6, A6, c6, lo6, rfl, hM6, hm6, hp6, hT6, hr6, hr6b, hk6⟩; rw [HX.out] at hm6 hT6 ⊢; have HM6 := Lib.hid (And.intro hM6 (And.intro hm6 hp6)); have HT6 := Lib.hid hT6; have HK6 := Lib.hid hk6; clear hM6 hm6 hp6 hT6 hr6 hr6b hk6))
    have hl6 : l6.map (·.v) = s'.L := HT6.out.lv
    rw [HL.out] at hl6
    have hl62 : l6.length ≤ 12 := by
      have h := congrArg List.length hl6
      rw [List.length_map] at h
      rw [h]
      first | decide | (show 1 ≤ 12; decide)
    have HEX := Lib.hid (rexport_ok g5 s' W4 R6 mS l6 mU eb u2 HT6.out (sortedOK_small hl62) (by omega))
    have HDN := Lib.hid hl6
    obtain ⟨sd, hsd⟩ : ∃ x, x = s'.deliver := ⟨_, rfl⟩
    obtain ⟨sn, hsn⟩ : ∃ x, x = s'.next := ⟨_, rfl⟩
    have hlow : Below w.heap.size w u2 := KeepF.below (F2.out.trans (HB.out.trans (HB5.out.mono HB.out.size) |>.mono F2.out.size)) HK6.out (fun q hq => HWL.out q hq) (Nat.le_trans F2.out.size (Nat.le_trans HB.out.size HB5.out.size))
    have HLOW := Lib.hid hlow
    clear hl6 hl62 hlow
    go_upto_region 13 with (go_at_call 13; refine (HEX.out).mono ?_; rintro e u3 ⟨A7, c7, lx, rfl, hlx, hs7, hf7, hx7, hB7⟩; rw [HDN.out] at hlx; have HLX := Lib.hid hlx; have HS7 := Lib.hid hs7; have HB7 := Lib.hid hB7; rw [HDL.out.1, HDL.out.2.1]; clear hlx hs7 hf7 hx7 hB7)
    obtain ⟨xb, hxb⟩ : ∃ xb, xb = u3.heap.size := ⟨_, rfl⟩
    obtain ⟨V, hV⟩ : ∃ V, V = u3.alloc (.cells #[.int .u64 ((N : Int) + 1), .int .u64 ((N : Int) + 1), .slice A7 l6.length c7] 37) := ⟨_, rfl⟩
    have hb3 : Below u2.heap.size u2 V := by rw [hV]; exact HB7.out.alloc HB7.out.size _
    have hb37 : Below u3.heap.size u3 V := by rw [hV]; exact (Below.refl _ _).alloc (Nat.le_refl _) _
    have hVB : Blk V xb 37 #[.int .u64 ((N : Int) + 1), .int .u64 ((N : Int) + 1), .slice A7 l6.length c7] := by rw [hV, hxb]; exact Blk.new _ _ _
    rw [← hV, ← hxb]
    have HTV := Lib.hid (HT6.out.below hb3)
    have HLV := Lib.hid (HLOW.out.trans (hb3.mono HLOW.out.size))
    have HSV := Lib.hid (HM6.out.1.1.next hb3)
    have HPV := Lib.hid (fun x hx => (HM6.out.2.2 x hx).keep (KeepF.of_below (F := fun _ => False) hb3) (fun _ h => h.elim))
    have HS8 := Lib.hid (HS7.out.next hb37)
    have x0 := hVB.cell 0
    have x1 := hVB.cell 1
    have x2 := hVB.cell 2
    simp only [List.getElem?_toArray, List.getElem?_cons_zero, List.getElem?_cons_succ] at x0 x1 x2
    have hmv := HM6.out.2.1
    clear hV hb3 hb37 hVB hxb
    have e6 : lo6.length = 1 := by
      have h := congrArg List.length hmv
      rw [List.length_map] at h
      exact h
    obtain ⟨x, hx⟩ : ∃ x, lo6 = [x] := by
      cases lo6 with
      | nil => cases e6
      | cons x r =>
        cases r with
        | nil => exact ⟨x, rfl⟩
        | cons y r => simp at e6
    have hxv : x.v = svP cf N 3 z123 := by rw [hx] at hmv; simpa using hmv
    have hxn : x.v.n = 3 := by rw [hxv]; rfl
    have hsv := HSV.out
    obtain ⟨ab, ao, hAA, hab⟩ := hsv.some_ (by omega)
    have cl : V.cell? ⟨ab, ao, none⟩ = some (.slice x.A 3 x.c) := by
      have h := hsv.cell (j := 0) hAA (by omega)
      rw [Nat.add_zero] at h
      rw [h, hx]
      show some (Value.slice x.A x.v.n x.c) = _
      rw [hxn]
    have hpk := HPV.out x (by rw [hx]; simp)
    have hcv := row_string 41 9 5 Tryz.underlying41 Tryz.underlying5 Tryz.underlying9 hpk.row x.c
    rw [hxv] at hcv
    rw [show (svP cf N 3 z123).n = 3 from rfl, show (svP cf N 3 z123).z = (fun j => ((plainZ cf N 3 z123 j : Nat) : Int)) from rfl, bytes123 cf N] at hcv
    have wN : IntKind.u64.wrap (N : Int) = (N : Int) := by simp [IntKind.wrap_u64]; omega
    have wN1 : IntKind.u64.wrap ((N : Int) + 1) = (N : Int) + 1 := by simp [IntKind.wrap_u64]; omega
    have hf0 : decide (fa < 0) = false := decide_eq_false (by omega)
    subst hAA
    rw [e6]
    clear hmv e6 x1 x2 hx hxv hxn hsv hab hpk
    go_wp2_with (go_at_call 9; refine (HKN.out _).mono ?_; rintro e u9 ⟨rfl, hB⟩; have HL9 := Lib.hid (HLV.out.trans (hB.mono HLV.out.size)); clear hB)
    go_ret
    exact ⟨rfl, HL9.out⟩
  · obtain ⟨s', hX, hsD, hsN, hsL, hsU, hsC, hsR⟩ := seq_pos cf HCF.out.1 HCF.out.2.2 X di d0 N 3 z123 (by decide) (by decide) (fun j _ => z123_lt j) HNF.out.2.2.2 (by have := HNF.out; omega) (by have := HNF.out; omega)
    have HX := Lib.hid hX
    have HL := Lib.hid hsL
    have HDL := Lib.hid (And.intro hsD (And.intro hsN hsU))
    clear hX hsD hsN hsL hsU hsC hsR h3
    go_upto_region 12 with (first
      | (refine wpList_load_row rfl _ _ rfl g rfl 26 CA (0, 0) _ F3.out HU.out rfl HS2.out ?_)
      | (go_at_call 12; rw [← HU0.out, ← HLB.out]; refine (HPD.out).mono ?_; rintro e u1 ⟨A5, c5, rfl, hs5, hf5, hB5⟩; have HRV := Lib.hid (HRC.out A5 c5 u1 (HB4.out.trans (hB5.mono HB4.out.size)) hs5 hf5); have HB5 := Lib.hid (HB4.out.trans (hB5.mono HB4.out.size)); clear hs5 hf5 hB5)
      | (go_at_call 11; refine (HRV.out).mono ?_; rintro e u2 ⟨R6, l6, A6, c6, lo6, rfl, hM6, hm6, hp6, hT6, hr6, hr6b, hk6⟩; rw [HX.out] at hm6 hT6 ⊢; have HM6 := Lib.hid (And.intro hM6 (And.intro hm6 hp6)); have HT6 := Lib.hid hT6; have HK6 := Lib.hid hk6; clear hM6 hm6 hp6 hT6 hr6 hr6b hk6))
    have hl6 : l6.map (·.v) = s'.L := HT6.out.lv
    rw [HL.out] at hl6
    have hl62 : l6.length ≤ 12 := by
      have h := congrArg List.length hl6
      rw [List.length_map] at h
      rw [h]
      first | decide | (show 1 ≤ 12; decide)
    have HEX := Lib.hid (rexport_ok g5 s' W4 R6 mS l6 mU eb u2 HT6.out (sortedOK_small hl62) (by omega))
    have HDN := Lib.hid hl6
    obtain ⟨sd, hsd⟩ : ∃ x, x = s'.deliver := ⟨_, rfl⟩
    obtain ⟨sn, hsn⟩ : ∃ x, x = s'.next := ⟨_, rfl⟩
    have hlow : Below w.heap.size w u2 := KeepF.below (F2.out.trans (HB.out.trans (HB5.out.mono HB.out.size) |>.mono F2.out.size)) HK6.out (fun q hq => HWL.out q hq) (Nat.le_trans F2.out.size (Nat.le_trans HB.out.size HB5.out.size))
    have HLOW := Lib.hid hlow
    clear hl6 hl62 hlow
    go_upto_region 13 with (go_at_call 13; refine (HEX.out).mono ?_; rintro e u3 ⟨A7, c7, lx, rfl, hlx, hs7, hf7, hx7, hB7⟩; rw [HDN.out] at hlx; have HLX := Lib.hid hlx; have HS7 := Lib.hid hs7; have HB7 := Lib.hid hB7; rw [HDL.out.1, HDL.out.2.1]; clear hlx hs7 hf7 hx7 hB7)
    obtain ⟨xb, hxb⟩ : ∃ xb, xb = u3.heap.size := ⟨_, rfl⟩
    obtain ⟨V, hV⟩ : ∃ V, V = u3.alloc (.cells #[.int .u64 di, .int .u64 ((N : Int) + 1), .slice A7 l6.length c7] 37) := ⟨_, rfl⟩
    have hb3 : Below u2.heap.size u2 V := by rw [hV]; exact HB7.out.alloc HB7.out.size _
    have hb37 : Below u3.heap.size u3 V := by rw [hV]; exact (Below.refl _ _).alloc (Nat.le_refl _) _
    have hVB : Blk V xb 37 #[.int .u64 di, .int .u64 ((N : Int) + 1), .slice A7 l6.length c7] := by rw [hV, hxb]; exact Blk.new _ _ _
    rw [← hV, ← hxb]
    have HTV := Lib.hid (HT6.out.below hb3)
    have HLV := Lib.hid (HLOW.out.trans (hb3.mono HLOW.out.size))
    have HSV := Lib.hid (HM6.out.1.1.next hb3)
    have HPV := Lib.hid (fun x hx => (HM6.out.2.2 x hx).keep (KeepF.of_below (F := fun _ => False) hb3) (fun _ h => h.elim))
    have HS8 := Lib.hid (HS7.out.next hb37)
    have x0 := hVB.cell 0
    have x1 := hVB.cell 1
    have x2 := hVB.cell 2
    simp only [List.getElem?_toArray, List.getElem?_cons_zero, List.getElem?_cons_succ] at x0 x1 x2
    have hmv := HM6.out.2.1
    clear hV hb3 hb37 hVB hxb
    have e6 : lo6.length = 0 := by
      have h := congrArg List.length hmv
      rw [List.length_map] at h
      exact h
    have e7 : l6.length = 1 := by
      have h := congrArg List.length HDN.out
      rw [List.length_map] at h
      exact h
    obtain ⟨x, hx⟩ : ∃ x, lx = [x] := by
      have h := congrArg List.length HLX.out
      rw [List.length_map] at h
      cases lx with
      | nil => cases h
      | cons x r =>
        cases r with
        | nil => exact ⟨x, rfl⟩
        | cons y r => simp at h
    have hxv : x.v = svP cf N 3 z123 := by have h := HLX.out; rw [hx] at h; simpa using h
    have hs8 := HS8.out
    rw [e7] at hs8
    obtain ⟨ab, ao, hAA, hab⟩ := hs8.some_ (by omega)
    have cl : V.cell? ⟨ab, ao, none⟩ = some (.int .u32 (N : Int)) := by
      have h := hs8.cell (j := 0) hAA (by omega)
      rw [Nat.add_zero] at h
      rw [h, hx]
      show some (Value.int .u32 x.v.ct) = _
      rw [hxv]
      rfl
    have wN : IntKind.u64.wrap (N : Int) = (N : Int) := by simp [IntKind.wrap_u64]; omega
    have wN1 : IntKind.u64.wrap ((N : Int) + 1) = (N : Int) + 1 := by simp [IntKind.wrap_u64]; omega
    have wN2 : IntKind.u32.wrap (N : Int) = (N : Int) := by simp [IntKind.wrap_u32]; omega
    have hf0 : decide (fa < 0) = false := decide_eq_false (by omega)
    have hf1 : (fa == 0) = false := by simp; omega
    subst hAA
    rw [e7] at x2
    rw [e6]
    clear hmv e6 e7 hx hxv hs8 hab
    go_wp2_with (go_at_call 9; refine (HKN.out _).mono ?_; rintro e u9 ⟨rfl, hB⟩; have HL9 := Lib.hid (HLV.out.trans (hB.mono HLV.out.size)); clear hB)
    go_ret
    exact ⟨rfl, HL9.out⟩
end Go.Proofs.YtmdpiajhfohagaaGreat
