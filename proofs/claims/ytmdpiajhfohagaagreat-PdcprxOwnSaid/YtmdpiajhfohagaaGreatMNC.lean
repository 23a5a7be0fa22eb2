/- SameForward of the reference is true of states that read alike. A PDCP configuration by value among a law's arguments. Printed by gen/xzn.py. the reference's Valid; equality of configurations. law 46: plain; stores into a configuration. PdcprxOwn in plain Lean: what Receive computes for its two PDUs; bytes that may be written. PdcprxOwn: the walk. Printed by gen/xco.py. -/
import Derived.Test.YtmdpiajhfohagaaGreatMGI
import Derived.Test.YtmdpiajhfohagaaGreatMGC
import Derived.Test.YtmdpiajhfohagaaGreatMDK
import Derived.Test.YtmdpiajhfohagaaGreatMDI
import Derived.Test.YtmdpiajhfohagaaGreatMDG
import Derived.ProofKit
import Derived.OpenShut
import Derived.ChangeOld
import Derived.Deep.Fields
import Derived.Laws.StructEq
import Derived.ChangeKeysEq
namespace Go.Proofs.YtmdpiajhfohagaaGreat
open Go.RowKit
set_option linter.unusedVariables false
attribute [local go_sem ↓] Go.wp_at_zero Go.wp_at_succ

/-- element k of a slice of counted packets; of a slice of packets -/
def CE2 (w : World) (A : Option Addr) (k : Nat) (ct : Int) (n : Nat) (z : Nat → Int) : Prop :=
  ∃ lb lo PA pc, A = some ⟨lb, lo, none⟩ ∧ lb < w.heap.size ∧ w.cell? ⟨lb, lo + k * 2, none⟩ = some (.int .u32 ct) ∧ w.cell? ⟨lb, lo + k * 2 + 1, none⟩ = some (.slice PA n pc) ∧ Row w w.heap.size PA n (fun j => .int .u8 (z j))
def BE2 (w : World) (A : Option Addr) (k : Nat) (n : Nat) (z : Nat → Int) : Prop :=
  ∃ lb lo PA pc, A = some ⟨lb, lo, none⟩ ∧ lb < w.heap.size ∧ w.cell? ⟨lb, lo + k, none⟩ = some (.slice PA n pc) ∧ Row w w.heap.size PA n (fun j => .int .u8 (z j))
theorem CE2.below {w w' : World} {A : Option Addr} {k : Nat} {ct : Int} {n : Nat} {z : Nat → Int} (h : CE2 w A k ct n z) (hb : Below w.heap.size w w') : CE2 w' A k ct n z := by
  obtain ⟨lb, lo, PA, pc, h1, h2, h3, h4, h5⟩ := h
  exact ⟨lb, lo, PA, pc, h1, Nat.lt_of_lt_of_le h2 hb.size, (hb.cell (p := ⟨lb, lo + k * 2, none⟩) h2).trans h3, (hb.cell (p := ⟨lb, lo + k * 2 + 1, none⟩) h2).trans h4, h5.next hb⟩
theorem BE2.below {w w' : World} {A : Option Addr} {k : Nat} {n : Nat} {z : Nat → Int} (h : BE2 w A k n z) (hb : Below w.heap.size w w') : BE2 w' A k n z := by
  obtain ⟨lb, lo, PA, pc, h1, h2, h3, h5⟩ := h
  exact ⟨lb, lo, PA, pc, h1, Nat.lt_of_lt_of_le h2 hb.size, (hb.cell (p := ⟨lb, lo + k, none⟩) h2).trans h3, h5.next hb⟩
def SameC (w : World) (A A' : Option Addr) (m : Nat) : Prop := ∀ k, k < m → ∃ ct n z z', CE2 w A k ct n z ∧ CE2 w A' k ct n z' ∧ ∀ j, j < n → z j = z' j
def SameB (w : World) (A A' : Option Addr) (m : Nat) : Prop := ∀ k, k < m → ∃ n z z', BE2 w A k n z ∧ BE2 w A' k n z' ∧ ∀ j, j < n → z j = z' j
theorem SameC.below {w w' : World} {A A' : Option Addr} {m : Nat} (h : SameC w A A' m) (hb : Below w.heap.size w w') : SameC w' A A' m := fun k hk => by
  obtain ⟨ct, n, z, z', h1, h2, h3⟩ := h k hk
  exact ⟨ct, n, z, z', h1.below hb, h2.below hb, h3⟩
theorem SameB.below {w w' : World} {A A' : Option Addr} {m : Nat} (h : SameB w A A' m) (hb : Below w.heap.size w w') : SameB w' A A' m := fun k hk => by
  obtain ⟨n, z, z', h1, h2, h3⟩ := h k hk
  exact ⟨n, z, z', h1.below hb, h2.below hb, h3⟩
set_option maxRecDepth 100000 in
set_option maxHeartbeats 1600000 in
theorem samec_true (A A' : Option Addr) (m c c' : Nat) (w : World) (hm : m ≤ maxLen) (h : SameC w A A' m) :
    Calls Tryz.prog 51 #[.slice A m c, .slice A' m c'] w fun e w' => e = .returned (.bool true) ∧ Below w.heap.size w w' := by
  unfold maxLen at hm
  have HS := Lib.hid h
  have hm' : (m : Int) ≤ 9223372036854775807 := by omega
  clear h
  go_enter Tryz.func51, Tryz.ntmps51
  go_wp2
  go_loopw [5] (fun v wr => ∃ k : Nat, k ≤ m ∧ v = .int .i64 k ∧ Below w.heap.size w wr) (fun v _ => m - (intOf v).toNat)
  case atStart => exact ⟨0, by omega, rfl, Below.refl _ _⟩
  case round =>
    obtain ⟨k, hk, rfl, hb⟩ := hrel
    by_cases hlt : k < m
    · obtain ⟨ct, n, z, z', ⟨lb, lo, PA, pc, rfl, h2, h3, h4, h5⟩, ⟨lb', lo', PA', pc', rfl, k2, k3, k4, k5⟩, he⟩ := (HS.out.below hb) k hlt
      have s1 := fun q => row_string (P := Tryz.prog) (w := wr.drewN q) 41 9 5 Tryz.underlying41 Tryz.underlying5 Tryz.underlying9 (show Row (wr.drewN q) wr.heap.size PA n (fun j => .int .u8 (z j)) from h5) pc
      have s2 := fun q => row_string (P := Tryz.prog) (w := wr.drewN q) 41 9 5 Tryz.underlying41 Tryz.underlying5 Tryz.underlying9 (show Row (wr.drewN q) wr.heap.size PA' n (fun j => .int .u8 (z' j)) from k5) pc'
      rw [← bytesOf_congr he] at s2
      have BB := Lib.hid hb
      have k0 : (0 : Int) ≤ (k : Int) := by omega
      have k1 : (k : Int) < (m : Int) := by omega
      clear h5 k5 he hb
      go_upto_region 6 with (fail)
      have hg : (ct != ct) = false := by simp
      go_quiet (fail)
      go_wp2
      go_roundw
      case rel => exact ⟨k + 1, by omega, by go_num, below_drewN BB.out _⟩
      case measure => simp [intOf]; omega
    · obtain rfl : k = m := by omega
      have BB := Lib.hid hb
      clear hb
      go_wp2
      go_ret
      exact ⟨rfl, BB.out⟩
set_option maxRecDepth 100000 in
set_option maxHeartbeats 1600000 in
theorem samel_true (A A' : Option Addr) (m c c' : Nat) (w : World) (hm : m ≤ maxLen) (h : SameB w A A' m) :
    Calls Tryz.prog 15 #[.slice A m c, .slice A' m c'] w fun e w' => e = .returned (.bool true) ∧ Below w.heap.size w w' := by
  unfold maxLen at hm
  have HS := Lib.hid h
  have hm' : (m : Int) ≤ 9223372036854775807 := by omega
  clear h
  go_enter Tryz.func15, Tryz.ntmps15
  go_wp2
  go_loopw [5] (fun v wr => ∃ k : Nat, k ≤ m ∧ v = .int .i64 k ∧ Below w.heap.size w wr) (fun v _ => m - (intOf v).toNat)
  case atStart => exact ⟨0, by omega, rfl, Below.refl _ _⟩
  case round =>
    obtain ⟨k, hk, rfl, hb⟩ := hrel
    by_cases hlt : k < m
    · obtain ⟨n, z, z', ⟨lb, lo, PA, pc, rfl, h2, h3, h5⟩, ⟨lb', lo', PA', pc', rfl, k2, k3, k5⟩, he⟩ := (HS.out.below hb) k hlt
      have s1 := fun q => row_string (P := Tryz.prog) (w := wr.drewN q) 41 9 5 Tryz.underlying41 Tryz.underlying5 Tryz.underlying9 (show Row (wr.drewN q) wr.heap.size PA n (fun j => .int .u8 (z j)) from h5) pc
      have s2 := fun q => row_string (P := Tryz.prog) (w := wr.drewN q) 41 9 5 Tryz.underlying41 Tryz.underlying5 Tryz.underlying9 (show Row (wr.drewN q) wr.heap.size PA' n (fun j => .int .u8 (z' j)) from k5) pc'
      rw [← bytesOf_congr he] at s2
      have BB := Lib.hid hb
      have k0 : (0 : Int) ≤ (k : Int) := by omega
      have k1 : (k : Int) < (m : Int) := by omega
      clear h5 k5 he hb
      go_upto_region 6 with (fail)
      go_quiet (fail)
      go_wp2
      go_roundw
      case rel => exact ⟨k + 1, by omega, by go_num, below_drewN BB.out _⟩
      case measure => simp [intOf]; omega
    · obtain rfl : k = m := by omega
      have BB := Lib.hid hb
      clear hb
      go_wp2
      go_ret
      exact ⟨rfl, BB.out⟩
end Go.Proofs.YtmdpiajhfohagaaGreat
namespace Go.Proofs.YtmdpiajhfohagaaGreat
open Go.ChangeShapes Go.WideShapes Go.ChangeAt Go.RowKit

def valInt : Option Value → Int
  | some (.int _ a) => a
  | _ => 0
section
variable {H : Type} {enc : TypeId × Value → H} {w : World} {base : Nat} {spare : Nat → Bool} {held : Bool}
theorem open_b16 {fuel : Nat} {L : List Value} {x : DataW H × List MemPlace} (h : DataW.trod enc Tryz.prog w base spare held fuel 24 L = some x) :
    ∃ f : Nat → Int, (∀ j, j < 16 → L[j]? = some (.int .u8 (f j))) ∧ ∀ j, j < 16 → 0 ≤ f j ∧ f j < 256 := by
  obtain ⟨xs, m, _, _, _, hx, hel⟩ := DataW.trod_array Tryz.underlying24 h
  have c5 : Tryz.prog.cellsOf 5 = 1 := by kernel_rfl
  have key : ∀ j, j < 16 → ∃ a, L[j]? = some (.int .u8 a) ∧ 0 ≤ a ∧ a < 256 := fun j hj => by
    have h1 := hel j hj
    rw [c5, Nat.mul_one, List.getElem?_eq_getElem (by omega)] at h1
    obtain ⟨a, e, _, hw⟩ := DataW.trod_int Tryz.underlying5 h1
    have h2 := congrArg List.head? e
    simp [List.head?_take] at h2
    have hb := bounds_u8 hw
    exact ⟨a, h2, hb.1, by omega⟩
  refine ⟨fun j => valInt L[j]?, fun j hj => ?_, fun j hj => ?_⟩
  · obtain ⟨a, e, _⟩ := key j hj
    simp only [e, valInt]
  · obtain ⟨a, e, hb⟩ := key j hj
    simp only [e, valInt]
    exact hb
set_option maxRecDepth 100000 in
theorem open_cfg {r : Reach} {b0 : Nat} {v : Value} {d : DataW H} {p : List MemPlace}
    (hv : Value.okWide Tryz.prog w r b0 26 v) (h : DataW.Trod enc Tryz.prog w base spare held 26 v d p) : ∃ c : Cfg, v = .agg c.arr ∧ c.Ok := by
  obtain ⟨cs, rfl, hsz⟩ := okWide_struct Tryz.underlying26 hv
  have hc : Tryz.prog.cellsOf 26 = 39 := by kernel_rfl
  have h9 : cs.size = 39 := hsz.trans hc
  obtain ⟨fuel, hf⟩ := h
  obtain ⟨xs, n, _, _, _, hlen, hg⟩ := DataW.trod_struct Tryz.underlying26 hf
  have c3 : Tryz.prog.cellsOf 3 = 1 := by kernel_rfl
  have c22 : Tryz.prog.cellsOf 23 = 1 := by kernel_rfl
  have c4 : Tryz.prog.cellsOf 4 = 1 := by kernel_rfl
  have c16 : Tryz.prog.cellsOf 24 = 16 := by kernel_rfl
  have hx9 : xs.length = 9 := hlen
  have keyi : ∀ (i o : Nat) (ty : TypeId), Tryz.prog.underlying ty = some (.int .i64) → i < 9 → DataW.trod enc Tryz.prog w base spare held n ty (List.take 1 (List.drop o (Value.agg cs).cells.toList)) = xs[i]? → ∃ a, cs[o]? = some (Value.int .i64 a) := by
    intro i o ty hu hi h1
    rw [List.getElem?_eq_getElem (by omega)] at h1
    obtain ⟨a, e, _, _⟩ := DataW.trod_int hu h1
    refine ⟨a, ?_⟩
    have h2 := congrArg List.head? e
    simp [Value.cells, List.head?_take] at h2
    exact h2
  have keyb : ∀ (i o : Nat), i < 9 → DataW.trod enc Tryz.prog w base spare held n 4 (List.take 1 (List.drop o (Value.agg cs).cells.toList)) = xs[i]? → ∃ a, cs[o]? = some (Value.bool a) := by
    intro i o hi h1
    rw [List.getElem?_eq_getElem (by omega)] at h1
    obtain ⟨a, e, _⟩ := DataW.trod_bool Tryz.underlying4 h1
    refine ⟨a, ?_⟩
    have h2 := congrArg List.head? e
    simp [Value.cells, List.head?_take] at h2
    exact h2
  have keya : ∀ (i o : Nat), i < 9 → DataW.trod enc Tryz.prog w base spare held n 24 (List.take 16 (List.drop o (Value.agg cs).cells.toList)) = xs[i]? → ∃ f : Nat → Int, (∀ j, j < 16 → cs[o + j]? = some (.int .u8 (f j))) ∧ ∀ j, j < 16 → 0 ≤ f j ∧ f j < 256 := by
    intro i o hi h1
    rw [List.getElem?_eq_getElem (by omega)] at h1
    obtain ⟨f, e, hb⟩ := open_b16 h1
    refine ⟨f, fun j hj => ?_, hb⟩
    have := e j hj
    rw [List.getElem?_take, if_pos hj, List.getElem?_drop] at this
    simpa [Value.cells] using this
  obtain ⟨a0, e0⟩ := keyi 0 0 3 Tryz.underlying3 (by decide) (by have h1 : DataW.trod enc Tryz.prog w base spare held n 3 (List.take (Tryz.prog.cellsOf 3) (List.drop 0 (Value.agg cs).cells.toList)) = xs[0]? := hg 0 _ rfl; rwa [c3] at h1)
  obtain ⟨a1, e1⟩ := keyi 1 1 23 Tryz.underlying23 (by decide) (by have h1 : DataW.trod enc Tryz.prog w base spare held n 23 (List.take (Tryz.prog.cellsOf 23) (List.drop 1 (Value.agg cs).cells.toList)) = xs[1]? := hg 1 _ rfl; rwa [c22] at h1)
  obtain ⟨a2, e2, r2⟩ := keya 2 2 (by decide) (by have h1 : DataW.trod enc Tryz.prog w base spare held n 24 (List.take (Tryz.prog.cellsOf 24) (List.drop 2 (Value.agg cs).cells.toList)) = xs[2]? := hg 2 _ rfl; rwa [c16] at h1)
  obtain ⟨a3, e3, r3⟩ := keya 3 18 (by decide) (by have h1 : DataW.trod enc Tryz.prog w base spare held n 24 (List.take (Tryz.prog.cellsOf 24) (List.drop 18 (Value.agg cs).cells.toList)) = xs[3]? := hg 3 _ rfl; rwa [c16] at h1)
  obtain ⟨a4, e4⟩ := keyb 4 34 (by decide) (by have h1 : DataW.trod enc Tryz.prog w base spare held n 4 (List.take (Tryz.prog.cellsOf 4) (List.drop 34 (Value.agg cs).cells.toList)) = xs[4]? := hg 4 _ rfl; rwa [c4] at h1)
  obtain ⟨a5, e5⟩ := keyb 5 35 (by decide) (by have h1 : DataW.trod enc Tryz.prog w base spare held n 4 (List.take (Tryz.prog.cellsOf 4) (List.drop 35 (Value.agg cs).cells.toList)) = xs[5]? := hg 5 _ rfl; rwa [c4] at h1)
  obtain ⟨a6, e6⟩ := keyb 6 36 (by decide) (by have h1 : DataW.trod enc Tryz.prog w base spare held n 4 (List.take (Tryz.prog.cellsOf 4) (List.drop 36 (Value.agg cs).cells.toList)) = xs[6]? := hg 6 _ rfl; rwa [c4] at h1)
  obtain ⟨a7, e7⟩ := keyi 7 37 3 Tryz.underlying3 (by decide) (by have h1 : DataW.trod enc Tryz.prog w base spare held n 3 (List.take (Tryz.prog.cellsOf 3) (List.drop 37 (Value.agg cs).cells.toList)) = xs[7]? := hg 7 _ rfl; rwa [c3] at h1)
  obtain ⟨a8, e8⟩ := keyi 8 38 3 Tryz.underlying3 (by decide) (by have h1 : DataW.trod enc Tryz.prog w base spare held n 3 (List.take (Tryz.prog.cellsOf 3) (List.drop 38 (Value.agg cs).cells.toList)) = xs[8]? := hg 8 _ rfl; rwa [c3] at h1)
  obtain ⟨c, hcd⟩ : ∃ c : Cfg, c = ⟨a0, a1, a2, a3, a4, a5, a6, a7, a8⟩ := ⟨_, rfl⟩
  refine ⟨c, ?_, by rw [hcd]; exact ⟨r2, r3⟩⟩
  have : cs = c.arr := by
    apply Array.ext_getElem?
    intro i
    by_cases hi : i < 39
    · rw [c.arr_at hi, hcd]
      unfold Cfg.cell
      rcases (by omega : i = 0 ∨ i = 1 ∨ (2 ≤ i ∧ i < 18) ∨ (18 ≤ i ∧ i < 34) ∨ i = 34 ∨ i = 35 ∨ i = 36 ∨ i = 37 ∨ i = 38) with rfl | rfl | h | h | rfl | rfl | rfl | rfl | rfl
      · exact e0
      · exact e1
      · rw [if_neg (by omega), if_neg (by omega), if_pos (by omega)]
        have := e2 (i - 2) (by omega)
        rwa [show 2 + (i - 2) = i by omega] at this
      · rw [if_neg (by omega), if_neg (by omega), if_neg (by omega), if_pos (by omega)]
        have := e3 (i - 18) (by omega)
        rwa [show 18 + (i - 18) = i by omega] at this
      · exact e4
      · exact e5
      · exact e6
      · exact e7
      · exact e8
    · rw [Array.getElem?_eq_none (by omega), Array.getElem?_eq_none (by rw [c.arr_size]; omega)]
  rw [this]
end
end Go.Proofs.YtmdpiajhfohagaaGreat
namespace Go.Proofs.YtmdpiajhfohagaaGreat
open Go.RowKit
set_option linter.unusedVariables false
attribute [local go_sem ↓] Go.wp_at_zero Go.wp_at_succ

set_option maxRecDepth 100000 in
set_option maxHeartbeats 1600000 in
theorem rvalid45_ok (c : Cfg) (w : World) : Calls Tryz.prog 8 #[.agg c.arr] w fun e w' => e = .returned (.bool (decide c.Valid)) ∧ Below w.heap.size w w' := by
  have h0 : c.arr[0]? = some (.int .i64 c.b) := c.arr_at (by decide)
  have h1 : c.arr[1]? = some (.int .i64 c.d) := c.arr_at (by decide)
  have h2 : c.arr[37]? = some (.int .i64 c.ds) := c.arr_at (by decide)
  have h3 : c.arr[38]? = some (.int .i64 c.ro) := c.arr_at (by decide)
  have HV := Lib.hid (show c.Valid ↔ (0 ≤ c.b ∧ c.b ≤ 31 ∧ (c.d = 0 ∨ c.d = 1) ∧ 0 ≤ c.ds ∧ c.ds ≤ 1073741824 ∧ 0 ≤ c.ro ∧ c.ro ≤ 1073741824) from Iff.rfl)
  obtain ⟨V, hV⟩ : ∃ V, V = decide c.Valid := ⟨_, rfl⟩
  have HD := Lib.hid (show V = true ↔ c.Valid from by rw [hV]; exact decide_eq_true_iff)
  obtain ⟨Z, hZ⟩ : ∃ Z, Z = c.arr := ⟨_, rfl⟩
  rw [← hV]
  rw [← hZ] at h0 h1 h2 h3 ⊢
  obtain ⟨b, hb⟩ : ∃ b, b = c.b := ⟨_, rfl⟩
  obtain ⟨d, hd⟩ : ∃ d, d = c.d := ⟨_, rfl⟩
  obtain ⟨ds, hds⟩ : ∃ ds, ds = c.ds := ⟨_, rfl⟩
  obtain ⟨ro, hro⟩ : ∃ ro, ro = c.ro := ⟨_, rfl⟩
  rw [← hb] at h0 HV
  rw [← hd] at h1 HV
  rw [← hds] at h2 HV
  rw [← hro] at h3 HV
  clear hZ hV hb hd hds hro
  go_enter Tryz.func8, Tryz.ntmps8
  go_upto_region 1 with (fail)
  refine wp_let (fun W => Blk W w.heap.size 26 Z ∧ Below w.heap.size w W) ⟨Blk.new _ _ _, (Below.refl _ w).alloc (Nat.le_refl _) _⟩ ?_
  rintro W1 ⟨b1, b2⟩
  have x0 := (b1.cell 0).trans h0
  have x1 := (b1.cell 1).trans h1
  have x2 := (b1.cell 37).trans h2
  have x3 := (b1.cell 38).trans h3
  have HB := Lib.hid b2
  clear b1 b2 h0 h1 h2 h3
  have hout : ∀ r : Bool, (r = true ↔ (0 ≤ b ∧ b ≤ 31 ∧ (d = 0 ∨ d = 1) ∧ 0 ≤ ds ∧ ds ≤ 1073741824 ∧ 0 ≤ ro ∧ ro ≤ 1073741824)) → r = V := fun r hr => by
    rw [Bool.eq_iff_iff, hr, HD.out, HV.out]
  have HO := Lib.hid hout
  clear hout
  by_cases c0 : 0 ≤ b
  rotate_left
  · go_wp2
    go_ret
    exact ⟨ret_bool (HO.out _ ⟨fun h => (by cases h), fun h => (by omega)⟩), HB.out⟩
  by_cases c1 : b ≤ 31
  rotate_left
  · go_wp2
    go_ret
    exact ⟨ret_bool (HO.out _ ⟨fun h => (by cases h), fun h => (by omega)⟩), HB.out⟩
  by_cases c2 : d = 0 ∨ d = 1
  rotate_left
  · have d0 : (d == 0) = false := by simp; exact fun h => c2 (.inl h)
    have d1 : (d == 1) = false := by simp; exact fun h => c2 (.inr h)
    have HC2 := Lib.hid c2
    clear c2
    go_wp2
    go_ret
    exact ⟨ret_bool (HO.out _ ⟨fun h => (by cases h), fun h => (absurd h.2.2.1 HC2.out)⟩), HB.out⟩
  by_cases c3 : 0 ≤ ds
  rotate_left
  · rcases c2 with rfl | rfl
    · go_wp2
      go_ret
      exact ⟨ret_bool (HO.out _ ⟨fun h => (by cases h), fun h => (by omega)⟩), HB.out⟩
    · go_wp2
      go_ret
      exact ⟨ret_bool (HO.out _ ⟨fun h => (by cases h), fun h => (by omega)⟩), HB.out⟩
  by_cases c4 : ds ≤ 1073741824
  rotate_left
  · rcases c2 with rfl | rfl
    · go_wp2
      go_ret
      exact ⟨ret_bool (HO.out _ ⟨fun h => (by cases h), fun h => (by omega)⟩), HB.out⟩
    · go_wp2
      go_ret
      exact ⟨ret_bool (HO.out _ ⟨fun h => (by cases h), fun h => (by omega)⟩), HB.out⟩
  by_cases c5 : 0 ≤ ro
  rotate_left
  · rcases c2 with rfl | rfl
    · go_wp2
      go_ret
      exact ⟨ret_bool (HO.out _ ⟨fun h => (by cases h), fun h => (by omega)⟩), HB.out⟩
    · go_wp2
      go_ret
      exact ⟨ret_bool (HO.out _ ⟨fun h => (by cases h), fun h => (by omega)⟩), HB.out⟩
  by_cases c6 : ro ≤ 1073741824
  · rcases c2 with rfl | rfl
    · go_wp2
      go_ret
      exact ⟨ret_bool (HO.out _ ⟨fun h => ⟨by omega, by omega, by simp, by omega, by omega, by omega, by omega⟩, fun h => rfl⟩), HB.out⟩
    · go_wp2
      go_ret
      exact ⟨ret_bool (HO.out _ ⟨fun h => ⟨by omega, by omega, by simp, by omega, by omega, by omega, by omega⟩, fun h => rfl⟩), HB.out⟩
  · rcases c2 with rfl | rfl
    · go_wp2
      go_ret
      exact ⟨ret_bool (HO.out _ ⟨fun h => (by cases h), fun h => (by omega)⟩), HB.out⟩
    · go_wp2
      go_ret
      exact ⟨ret_bool (HO.out _ ⟨fun h => (by cases h), fun h => (by omega)⟩), HB.out⟩
end Go.Proofs.YtmdpiajhfohagaaGreat
namespace Go.Proofs.YtmdpiajhfohagaaGreat
open Go.RowKit
set_option linter.unusedVariables false
attribute [local go_sem ↓] Go.wp_at_zero Go.wp_at_succ

theorem Cfg.setIg_arr (c : Cfg) (x : Bool) : c.arr.setIfInBounds 34 (.bool x) = ({ c with ig := x } : Cfg).arr := by
  apply Array.ext_getElem?
  intro j
  rw [Array.getElem?_setIfInBounds, c.arr_size]
  by_cases hj : j < 39
  · rw [({ c with ig := x } : Cfg).arr_at hj]
    by_cases e : 34 = j
    · subst e; rw [if_pos rfl, if_pos (by omega)]; rfl
    · rw [if_neg e, c.arr_at hj]
      unfold Cfg.cell
      by_cases h0 : j = 0
      · simp [h0]
      by_cases h1 : j = 1
      · simp [h1]
      by_cases h2 : j < 18
      · simp [h0, h1, h2]
      by_cases h3 : j < 34
      · simp [h0, h1, h2, h3]
      by_cases h4 : j = 34
      · exact absurd h4.symm e
      by_cases h5 : j = 35
      · simp [h5]
      by_cases h6 : j = 36
      · simp [h6]
      by_cases h7 : j = 37
      · simp [h7]
      · simp [h0, h1, h2, h3, h4, h5, h6, h7]
  · rw [if_neg (by omega), Array.getElem?_eq_none (by rw [c.arr_size]; omega), Array.getElem?_eq_none (by rw [Cfg.arr_size]; omega)]
theorem Cfg.setCm_arr (c : Cfg) (x : Bool) : c.arr.setIfInBounds 35 (.bool x) = ({ c with cm := x } : Cfg).arr := by
  apply Array.ext_getElem?
  intro j
  rw [Array.getElem?_setIfInBounds, c.arr_size]
  by_cases hj : j < 39
  · rw [({ c with cm := x } : Cfg).arr_at hj]
    by_cases e : 35 = j
    · subst e; rw [if_pos rfl, if_pos (by omega)]; rfl
    · rw [if_neg e, c.arr_at hj]
      unfold Cfg.cell
      by_cases h0 : j = 0
      · simp [h0]
      by_cases h1 : j = 1
      · simp [h1]
      by_cases h2 : j < 18
      · simp [h0, h1, h2]
      by_cases h3 : j < 34
      · simp [h0, h1, h2, h3]
      by_cases h4 : j = 34
      · simp [h4]
      by_cases h5 : j = 35
      · exact absurd h5.symm e
      by_cases h6 : j = 36
      · simp [h6]
      by_cases h7 : j = 37
      · simp [h7]
      · simp [h0, h1, h2, h3, h4, h5, h6, h7]
  · rw [if_neg (by omega), Array.getElem?_eq_none (by rw [c.arr_size]; omega), Array.getElem?_eq_none (by rw [Cfg.arr_size]; omega)]
theorem Cfg.setRo_arr (c : Cfg) (x : Int) : c.arr.setIfInBounds 38 (.int .i64 x) = ({ c with ro := x } : Cfg).arr := by
  apply Array.ext_getElem?
  intro j
  rw [Array.getElem?_setIfInBounds, c.arr_size]
  by_cases hj : j < 39
  · rw [({ c with ro := x } : Cfg).arr_at hj]
    by_cases e : 38 = j
    · subst e; rw [if_pos rfl, if_pos (by omega)]; rfl
    · rw [if_neg e, c.arr_at hj]
      unfold Cfg.cell
      by_cases h0 : j = 0
      · simp [h0]
      by_cases h1 : j = 1
      · simp [h1]
      by_cases h2 : j < 18
      · simp [h0, h1, h2]
      by_cases h3 : j < 34
      · simp [h0, h1, h2, h3]
      by_cases h4 : j = 34
      · simp [h4]
      by_cases h5 : j = 35
      · simp [h5]
      by_cases h6 : j = 36
      · simp [h6]
      by_cases h7 : j = 37
      · simp [h7]
      · exact absurd (by omega) e
  · rw [if_neg (by omega), Array.getElem?_eq_none (by rw [c.arr_size]; omega), Array.getElem?_eq_none (by rw [Cfg.arr_size]; omega)]
def Cfg.noK (c : Cfg) : Cfg := { c with cm := false }
theorem Cfg.noK_arr (c : Cfg) : c.arr.setIfInBounds 35 (.bool false) = c.noK.arr := c.setCm_arr false
set_option maxRecDepth 100000 in
set_option maxHeartbeats 1600000 in
theorem plain46_ok (c : Cfg) (w : World) : Calls Tryz.prog 7 #[.agg c.arr] w fun e w' => e = .returned (.agg c.noK.arr) ∧ Below w.heap.size w w' := by
  have HP := Lib.hid c.noK_arr
  have HS : Hid ((Tryz.prog.info? 26).map (·.size) = some c.noK.arr.size) := Lib.hid (by rw [c.noK.arr_size]; exact infoPd)
  have HO := Lib.hid c.noK.arr_one
  have HZS : Hid (Cfg.zero.arr.size = c.noK.arr.size) := Lib.hid (by rw [Cfg.arr_size, Cfg.arr_size])
  have c35 := c.arr_at (j := 35) (by decide)
  obtain ⟨Z, hZ⟩ : ∃ Z, Z = c.arr := ⟨_, rfl⟩
  obtain ⟨Y, hY⟩ : ∃ Y, Y = c.noK.arr := ⟨_, rfl⟩
  rw [← hZ] at HP c35 ⊢
  rw [← hY] at HP HS HO HZS ⊢
  have HC35 := Lib.hid c35
  have HU := Lib.hid Tryz.underlying26
  clear hZ hY c35
  go_enter Tryz.func7, Tryz.ntmps7
  go_upto_region 1 with (fail)
  obtain ⟨g, hg⟩ : ∃ g, g = w.heap.size := ⟨_, rfl⟩
  refine wp_let (fun W => Blk W g 26 Z ∧ Blk W (g + 1) 26 Cfg.zero.arr ∧ Below w.heap.size w W) ⟨by rw [hg]; exact (Blk.new _ _ _).alloc _, by rw [cf0_lit, hg]; exact blk_atZ _ _ _ _ (by simp), ((Below.refl _ w).alloc (Nat.le_refl _) _).alloc (by simp) _⟩ ?_
  rintro W1 ⟨b1, b2, b3⟩
  have B1 := Lib.hid b1
  have B2 := Lib.hid b2
  have B3 := Lib.hid b3
  have HG := Lib.hid hg
  rw [← hg]
  have c35 : W1.cell? ⟨g, 35, none⟩ = some (c.cell 35) := (b1.cell 35).trans HC35.out
  have f35 := b1.frozen 35
  clear b1 b2 b3 hg
  go_upto_region 2 with (fail)
  refine wp_let (fun W => Blk W g 26 Y ∧ Blk W (g + 1) 26 Cfg.zero.arr ∧ Below w.heap.size w W) ⟨by rw [← HP.out]; exact B1.out.set_ 35 _, B2.out.far (p := ⟨g, 35, none⟩) (by show ¬ g + 1 = g; omega) _, B3.out.setCell (p := ⟨g, 35, none⟩) (by rw [HG.out]; exact Nat.le_refl _) _⟩ ?_
  rintro W2 ⟨b1, b2, b3⟩
  have D1 := Lib.hid b1
  have D2 := Lib.hid b2
  have D3 := Lib.hid b3
  clear b1 b2 b3 c35 f35
  go_wp2_with (first
    | (refine wpList_load_row rfl _ _ rfl g rfl 26 Y (0, 0) _ D1.out HU.out rfl HS.out ?_)
    | (refine wpList_store_row rfl _ _ _ rfl (g + 1) Y rfl rfl 26 _ D2.out HS.out HZS.out HO.out ?_))
  refine bodyPost_ret (v := .agg Y) (results_cell_row (g := g + 1) (t := 26) (fr := (0, 0)) Tryz.results7 _ _ Y _ rfl (setRow_heap _ _ _ Y 26 (0, 0) D2.out) HU.out rfl HS.out) rfl ⟨rfl, ?_⟩
  exact belowRow D3.out (by rw [HG.out]; omega) _
end Go.Proofs.YtmdpiajhfohagaaGreat
namespace Go.Proofs.YtmdpiajhfohagaaGreat
open Go.RowKit
set_option linter.unusedVariables false
set_option linter.unusedSimpArgs false

/-- the states of the receiver of PdcprxOwn -/
def ownS (cf : Cfg) (X : Obj) (L : List SV) : RS := ⟨cf, 0, 0, 3, L, false, 0, 0, [kArr cf.key], X, 0⟩
theorem own_one (cf : Cfg) (hok : cf.Ok) (hro : cf.ro = 0) (X : Obj) (n : Nat) (z : Nat → Nat) (zz : Nat → Int) (hn1 : 1 ≤ n) (hn9 : n ≤ 9000) (hz : ∀ j, j < n → z j < 256) :
    (ownS cf X [⟨2, n, zz⟩]).receive 0 (pduN cf n) (pduZ cf 1 n z) = ([], 0, ownS cf X [svP cf 1 n z, ⟨2, n, zz⟩]) := by
  have h := receive_newI (s := ownS cf X [⟨2, n, zz⟩]) (t := 0) (by omega) rfl hok 1 n z hn1 hn9 hz (cnt_small (by show (0 : Int) ≤ 0; omega) (by show (0 : Int) ≤ 1000; omega) (by omega))
    (by rintro (h | h); exact stored_no [⟨2, n, zz⟩] _ (fun e he => by rcases List.mem_singleton.1 he with rfl; show (2 : Int) ≠ ((1 : Nat) : Int); omega) h; exact absurd h (by show ¬ ((1 : Nat) : Int) < (0 : Int); omega)) (ownS cf X [svP cf 1 n z, ⟨2, n, zz⟩]) (by
      show _ = _
      rw [show insV (svP (ownS cf X [⟨2, n, zz⟩]).C 1 n z) (ownS cf X [⟨2, n, zz⟩]).L = [svP cf 1 n z, ⟨2, n, zz⟩] from ins_lt _ _ _ (by show ((1 : Nat) : Int) < (2 : Int); omega)]
      rfl)
  have hd : (ownS cf X [svP cf 1 n z, ⟨2, n, zz⟩]).deliver_ = ([], ownS cf X [svP cf 1 n z, ⟨2, n, zz⟩]) := by
    unfold RS.deliver_
    show ((fromL [svP cf 1 n z, ⟨2, n, zz⟩] 0).1, _) = _
    rw [from_ne (svP cf 1 n z) [⟨2, n, zz⟩] 0 (by show ((1 : Nat) : Int) ≠ 0; omega)]
    rfl
  rw [hd] at h
  simp only at h
  rw [still_ro rfl hro] at h
  exact h
theorem own_zero (cf : Cfg) (hok : cf.Ok) (hro : cf.ro = 0) (X : Obj) (n : Nat) (z : Nat → Nat) (zz : Nat → Int) (y : Nat → Nat) (hy : ∀ j, j < 1 → y j < 256) :
    ∃ s', (ownS cf X [svP cf 1 n z, ⟨2, n, zz⟩]).receive 0 (pduN cf 1) (pduZ cf 0 1 y) = ([svP cf 0 1 y, svP cf 1 n z, ⟨2, n, zz⟩], 0, s') := by
  have h := receive_newI (s := ownS cf X [svP cf 1 n z, ⟨2, n, zz⟩]) (t := 0) (by omega) rfl hok 0 1 y (by omega) (by omega) hy (cnt_small (by show (0 : Int) ≤ 0; omega) (by show (0 : Int) ≤ 1000; omega) (by omega))
    (by
      rintro (h | h)
      · refine stored_no [svP cf 1 n z, ⟨2, n, zz⟩] _ (fun e he => ?_) h
        rcases List.mem_cons.1 he with rfl | he
        · show ((1 : Nat) : Int) ≠ ((0 : Nat) : Int); omega
        · rcases List.mem_singleton.1 he with rfl
          show (2 : Int) ≠ ((0 : Nat) : Int); omega
      · exact absurd h (by show ¬ ((0 : Nat) : Int) < (0 : Int); omega)) (ownS cf X [svP cf 0 1 y, svP cf 1 n z, ⟨2, n, zz⟩]) (by
      show _ = _
      rw [show insV (svP (ownS cf X [svP cf 1 n z, ⟨2, n, zz⟩]).C 0 1 y) (ownS cf X [svP cf 1 n z, ⟨2, n, zz⟩]).L = [svP cf 0 1 y, svP cf 1 n z, ⟨2, n, zz⟩] from ins_lt _ _ _ (by show ((0 : Nat) : Int) < ((1 : Nat) : Int); omega)]
      rfl)
  have hf : fromL [svP cf 0 1 y, svP cf 1 n z, ⟨2, n, zz⟩] 0 = ([svP cf 0 1 y, svP cf 1 n z, ⟨2, n, zz⟩], [], 0 + 1 + 1 + 1) := by
    rw [from_eq (svP cf 0 1 y) _ 0 rfl, from_eq (svP cf 1 n z) _ (0 + 1) (by show ((1 : Nat) : Int) = 0 + 1; omega), from_eq ⟨2, n, zz⟩ [] (0 + 1 + 1) (by show (2 : Int) = 0 + 1 + 1; omega)]
    rfl
  have hd : (ownS cf X [svP cf 0 1 y, svP cf 1 n z, ⟨2, n, zz⟩]).deliver_ = ([svP cf 0 1 y, svP cf 1 n z, ⟨2, n, zz⟩], ⟨cf, 0, 0 + 1 + 1 + 1, 3, [], false, 0, 0, [kArr cf.key], X, 0⟩) := by
    unfold RS.deliver_
    show ((fromL [svP cf 0 1 y, svP cf 1 n z, ⟨2, n, zz⟩] 0).1, _) = _
    rw [hf]
    rfl
  rw [hd] at h
  exact ⟨_, h⟩
/-- n bytes in a block of bytes that may be written -/
def BWr (w : World) (b o n : Nat) : Prop := ∃ cur, Blk w b 5 cur ∧ ∀ j, j < n → ∃ x : Int, 0 ≤ x ∧ x < 256 ∧ cur[o + j]? = some (.int .u8 x)
theorem BWr.cell {w : World} {b o n : Nat} (h : BWr w b o n) {k : Nat} (hk : k < n) : ∃ x : Int, 0 ≤ x ∧ x < 256 ∧ w.cell? ⟨b, o + k, none⟩ = some (.int .u8 x) ∧ w.frozen? ⟨b, o + k, none⟩ = false := by
  obtain ⟨cur, hb, hc⟩ := h
  obtain ⟨x, h0, h1, h2⟩ := hc k hk
  exact ⟨x, h0, h1, (hb.cell (o + k)).trans h2, hb.frozen _⟩
theorem BWr.keepF {w w' : World} {b o n : Nat} {F : Nat → Prop} (h : BWr w b o n) (hk : KeepF F w w') (hF : ¬ F b) : BWr w' b o n := by
  obtain ⟨cur, hb, hc⟩ := h
  exact ⟨cur, hk.blk hb hF, hc⟩
theorem BWr.next {w w' : World} {b o n : Nat} (h : BWr w b o n) (hb : Below w.heap.size w w') : BWr w' b o n := by
  obtain ⟨cur, h1, hc⟩ := h
  exact ⟨cur, h1.below hb h1.lt, hc⟩
theorem BWr.put {w : World} {b o n : Nat} (h : BWr w b o n) (b' j : Nat) (v : Int) (hv : 0 ≤ v ∧ v < 256) : BWr (w.setCell ⟨b', j, none⟩ (.int .u8 v)) b o n := by
  obtain ⟨cur, hb, hc⟩ := h
  by_cases e : b' = b
  · subst e
    refine ⟨_, hb.set_ j _, fun k hk => ?_⟩
    obtain ⟨x, h0, h1, h2⟩ := hc k hk
    by_cases ej : j = o + k
    · refine ⟨v, hv.1, hv.2, ?_⟩
      have hlt : o + k < cur.size := (Array.getElem?_eq_some_iff.1 h2).1
      rw [Array.getElem?_setIfInBounds, if_pos ej, if_pos (by omega)]
    · exact ⟨x, h0, h1, by rw [Array.getElem?_setIfInBounds, if_neg ej]; exact h2⟩
  · exact ⟨cur, hb.far (p := ⟨b', j, none⟩) (fun h => e h.symm) _, hc⟩
theorem BWr.of_sl {w : World} {b o n c : Nat} {xs : List Value} (h : SL w 5 1 (some ⟨b, o, none⟩) n c xs) (hx : ∀ j, j < n → ∃ x : Int, 0 ≤ x ∧ x < 256 ∧ xs[j]? = some (.int .u8 x)) : BWr w b o n := by
  rcases h.at_ with ⟨h1, _⟩ | ⟨b', o', cur, h1, h2, _, _, _, h6⟩
  · cases h1
  · cases h1
    refine ⟨cur, h2, fun j hj => ?_⟩
    obtain ⟨x, h0, h1, h3⟩ := hx j hj
    exact ⟨x, h0, h1, (h6 j (by omega)).trans h3⟩
end Go.Proofs.YtmdpiajhfohagaaGreat
namespace Go.Proofs.YtmdpiajhfohagaaGreat
open Go.RowKit
set_option linter.unusedVariables false
set_option linter.unusedSimpArgs false
attribute [local go_sem ↓] Go.wp_at_zero Go.wp_at_succ

theorem cnts_one (w : World) (kb : Nat) (A : Option Addr) (n c : Nat) (z : Nat → Int) (hk : Blk w kb 46 #[.int .u32 2, .slice A n c]) (hn : n ≤ 9000) (hc : n ≤ c) (hz : ∀ j, j < n → 0 ≤ z j ∧ z j < 256) (hr : Row w w.heap.size A n (fun j => .int .u8 (z j))) : Cnts w (some ⟨kb, 0, none⟩) 1 (fun _ => 2) (fun _ => A) (fun _ => n) (fun _ => c) (fun _ => z) :=
  ⟨fun _ => ⟨kb, 0, rfl, hk.lt, fun k hk' => by
    obtain rfl : k = 0 := by omega
    exact ⟨hk.cell 0, hk.cell 1⟩⟩, fun k _ => ⟨by omega, by omega⟩, fun k _ => by show n ≤ 9223372036854775807; omega, fun k _ => hc, fun k _ => hz, fun k _ => hr⟩
theorem whole_one {n : Nat} (h1 : 1 ≤ n) (h9 : n ≤ 9000) : Whole 0 3 1 (fun _ => 2) (fun _ => n) :=
  ⟨⟨by omega, by omega, by omega⟩, fun k hk => by
    obtain rfl : k = 0 := by omega
    exact ⟨by show (0 : Int) < 2; omega, by show (2 : Int) < 3; omega, h1, h9⟩, .inr ⟨rfl, by show (0 : Int) < 2; omega⟩⟩
theorem pduL_at' {cf : Cfg} {ct n : Nat} {z : Nat → Nat} {j : Nat} (hj : j < pduN cf n) : (pduL cf ct n z)[j]? = some (.int .u8 ((pduZ cf ct n z j : Nat) : Int)) := by
  unfold pduL
  rw [List.getElem?_map, List.getElem?_range hj]
  rfl
set_option maxRecDepth 100000 in
set_option maxHeartbeats 12800000 in
theorem own46_walk (c : Cfg) (hck : c.Ok) (A : Option Addr) (n cp : Nat) (z : Nat → Nat) (hnm : n ≤ maxLen) (hnc : n ≤ cp) (hz : ∀ j, j < n → z j < 256) (w : World) (hr : Row w w.heap.size A n (fun j => .int .u8 ((z j : Nat) : Int))) : Calls Tryz.prog 4 #[.agg c.arr, .slice A n cp] w fun e w' => e = .returned (.bool true) ∧ Below w.heap.size w w' := by
  have HKN := Lib.hid (fun V => known_true V)
  have HPL := Lib.hid (fun V => plain46_ok c V)
  obtain ⟨cf, hcf⟩ : ∃ cf : Cfg, cf = { c.noK with ro := 0 } := ⟨_, rfl⟩
  have hok : cf.Ok := by rw [hcf]; exact ⟨hck.key, hck.code⟩
  have hcm : cf.cm = false := by rw [hcf]; rfl
  have hro : cf.ro = 0 := by rw [hcf]
  have HVL := Lib.hid (fun V => rvalid45_ok cf V)
  have HCF := Lib.hid (And.intro hok (And.intro hcm hro))
  have HS0 : Hid ((Tryz.prog.info? 26).map (·.size) = some c.arr.size) := Lib.hid (by rw [c.arr_size]; exact infoPd)
  have HS1 : Hid ((Tryz.prog.info? 26).map (·.size) = some c.noK.arr.size) := Lib.hid (by rw [c.noK.arr_size]; exact infoPd)
  have HS2 : Hid ((Tryz.prog.info? 26).map (·.size) = some cf.arr.size) := Lib.hid (by rw [cf.arr_size]; exact infoPd)
  have HSS : Hid (c.arr.size = c.noK.arr.size) := Lib.hid (by rw [c.arr_size, c.noK.arr_size])
  have HO1 := Lib.hid c.noK.arr_one
  have HSET : Hid (c.noK.arr.setIfInBounds 38 (.int .i64 0) = cf.arr) := Lib.hid (by rw [Cfg.setRo_arr, hcf])
  have HY38 := Lib.hid (show c.noK.arr[38]? = some (.int .i64 c.ro) from c.noK.arr_at (by decide))
  have HRES := Lib.hid (fun (hv : cf.Valid) V kb A5 c5 (h1 : 1 ≤ n) (h9 : n ≤ 9000) hC => rresume_any cf V hv (some ⟨kb, 0, none⟩) 1 1 0 3 (fun _ => 2) (fun _ => A5) (fun _ => n) (fun _ => c5) (fun _ => fun j => ((z j : Nat) : Int)) (Int.le_refl 0) (by unfold maxLen; omega) hC (whole_one h1 h9))
  have HPDU := Lib.hid (fun (hv : cf.Valid) ct hct A' m c' y h1 h9 V hr' hy => rpdu_any cf hok hv ct hct A' m c' y h1 h9 V hr' hy)
  obtain ⟨Z, hZ⟩ : ∃ Z, Z = c.arr := ⟨_, rfl⟩
  obtain ⟨Y, hY⟩ : ∃ Y, Y = c.noK.arr := ⟨_, rfl⟩
  obtain ⟨CA, hCA⟩ : ∃ CA, CA = cf.arr := ⟨_, rfl⟩
  rw [← hZ] at HPL HS0 HSS ⊢
  rw [← hY] at HPL HS1 HSS HO1 HSET HY38
  rw [← hCA] at HVL HS2 HSET HRES HPDU
  have HU := Lib.hid Tryz.underlying26
  have HZ := Lib.hid hz
  have HR := Lib.hid hr
  have HNC := Lib.hid hnc
  obtain ⟨i0, hi0, hz0, hz1, hz2⟩ := info_parts Tryz.infoByte
  have n0 : (0 : Int) ≤ (n : Int) := by omega
  have n9 : (n : Int) ≤ 9223372036854775807 := by unfold maxLen at hnm; omega
  clear hZ hY hCA hok hcm hro hcf hck hz hr hnc hnm
  go_enter Tryz.func4, Tryz.ntmps4
  go_upto_region 1 with (fail)
  obtain ⟨g, hg⟩ : ∃ g, g = w.heap.size := ⟨_, rfl⟩
  refine wp_let (fun W => Blk W g 26 Z ∧ Below w.heap.size w W) ⟨by rw [hg]; exact Blk.new _ _ _, (Below.refl _ w).alloc (Nat.le_refl _) _⟩ ?_
  rintro W1 ⟨b1, b2⟩
  have B1 := Lib.hid b1
  have B2 := Lib.hid b2
  have HG := Lib.hid hg
  rw [← hg]
  clear b1 b2 hg
  go_upto_region 2 with (first
    | (refine wpList_load_row rfl _ _ rfl g rfl 26 Z (0, 0) _ B1.out HU.out rfl HS0.out ?_)
    | (go_at_call 7; refine (HPL.out _).mono ?_; rintro e w2 ⟨rfl, hB⟩; have C1 := Lib.hid (B1.out.below hB B1.out.lt); have C2 := Lib.hid (B2.out.trans (hB.mono B2.out.size)); clear hB)
    | (refine wpList_store_row rfl _ _ _ rfl g Y rfl rfl 26 _ C1.out HS1.out HSS.out HO1.out ?_))
  try simp only [Act.put]
  refine wp_let (fun W => Blk W g 26 Y ∧ Below w.heap.size w W) ⟨setRow_heap _ _ _ Y 26 (0, 0) C1.out, belowRow C2.out (by rw [HG.out]; exact Nat.le_refl _) _⟩ ?_
  rintro W2 ⟨b1, b2⟩
  have D1 := Lib.hid b1
  have D2 := Lib.hid b2
  have y38 := (b1.cell 38).trans HY38.out
  have f38 := b1.frozen 38
  clear b1 b2 B1 B2 C1 C2
  go_upto_region 3 with (fail)
  refine wp_let (fun W => Blk W g 26 CA ∧ Below w.heap.size w W) ⟨by rw [← HSET.out]; exact D1.out.set_ 38 _, D2.out.setCell (p := ⟨g, 38, none⟩) (by rw [HG.out]; exact Nat.le_refl _) _⟩ ?_
  rintro W3 ⟨b1, b2⟩
  have E1 := Lib.hid b1
  have E2 := Lib.hid b2
  clear b1 b2 D1 D2 y38 f38
  by_cases hv : cf.Valid
  rotate_left
  · rw [decide_eq_false hv] at HVL
    go_wp2_with (first
      | (refine wpList_load_row rfl _ _ rfl g rfl 26 CA (0, 0) _ E1.out HU.out rfl HS2.out ?_)
      | (go_at_call 8; refine (HVL.out _).mono ?_; rintro e w2 ⟨rfl, hB⟩; have F1 := Lib.hid (E1.out.below hB E1.out.lt); have F2 := Lib.hid (E2.out.trans (hB.mono E2.out.size)); clear hB)
      | (go_at_call 9; refine (HKN.out _).mono ?_; rintro e w3 ⟨rfl, hB⟩; have F3 := Lib.hid (F2.out.trans (hB.mono F2.out.size)); clear hB))
    go_ret
    exact ⟨rfl, F3.out⟩
  rw [decide_eq_true hv] at HVL
  have HVV := Lib.hid hv
  clear hv
  by_cases hn1 : n < 1
  · have t1 : decide ((n : Int) < 1) = true := decide_eq_true (by omega)
    go_wp2_with (first
      | (refine wpList_load_row rfl _ _ rfl g rfl 26 CA (0, 0) _ E1.out HU.out rfl HS2.out ?_)
      | (go_at_call 8; refine (HVL.out _).mono ?_; rintro e w2 ⟨rfl, hB⟩; have F1 := Lib.hid (E1.out.below hB E1.out.lt); have F2 := Lib.hid (E2.out.trans (hB.mono E2.out.size)); clear hB)
      | (go_at_call 9; refine (HKN.out _).mono ?_; rintro e w3 ⟨rfl, hB⟩; have F3 := Lib.hid (F2.out.trans (hB.mono F2.out.size)); clear hB))
    go_ret
    exact ⟨rfl, F3.out⟩
  by_cases hn6 : 600 < n
  · have t1 : decide ((n : Int) < 1) = false := decide_eq_false (by omega)
    have t2 : decide ((600 : Int) < (n : Int)) = true := decide_eq_true (by omega)
    go_wp2_with (first
      | (refine wpList_load_row rfl _ _ rfl g rfl 26 CA (0, 0) _ E1.out HU.out rfl HS2.out ?_)
      | (go_at_call 8; refine (HVL.out _).mono ?_; rintro e w2 ⟨rfl, hB⟩; have F1 := Lib.hid (E1.out.below hB E1.out.lt); have F2 := Lib.hid (E2.out.trans (hB.mono E2.out.size)); clear hB)
      | (go_at_call 9; refine (HKN.out _).mono ?_; rintro e w3 ⟨rfl, hB⟩; have F3 := Lib.hid (F2.out.trans (hB.mono F2.out.size)); clear hB))
    go_ret
    exact ⟨rfl, F3.out⟩
  have t1 : decide ((n : Int) < 1) = false := decide_eq_false (by omega)
  have t2 : decide ((600 : Int) < (n : Int)) = false := decide_eq_false (by omega)
  have HN := Lib.hid (show 1 ≤ n ∧ n ≤ 600 by omega)
  clear hn1 hn6
  go_upto_region 5 with (first
      | (refine wpList_load_row rfl _ _ rfl g rfl 26 CA (0, 0) _ E1.out HU.out rfl HS2.out ?_)
      | (go_at_call 8; refine (HVL.out _).mono ?_; rintro e w2 ⟨rfl, hB⟩; have F1 := Lib.hid (E1.out.below hB E1.out.lt); have F2 := Lib.hid (E2.out.trans (hB.mono E2.out.size)); clear hB))
  obtain ⟨lb, lo, hAA, hlb, hlc⟩ := HR.out (by have := HN.out; omega)
  subst hAA
  have HSRC := Lib.hid (src_row (c := cp) HN.out.1 (HR.out.next F2.out))
  have HLB := Lib.hid (And.intro hlb hlc)
  clear hlb hlc n9 t1 t2
  have n6 : (n : Int) ≤ 600 := by have := HN.out; omega
  go_upto_region 6 with (refine wpList_sl_append rfl _ _ 41 41 rfl w2 5 i0 (.int .u8 0) 1 1 Tryz.underlying41 hi0 hz0 hz1 hz2 rfl none 0 0 [] rfl (SL.nil _ _ _) (.slice (some ⟨lb, lo, none⟩) n cp) rfl n (fnL z n) HSRC.out HN.out.1 (by have := HN.out; unfold maxLen; omega) (by have := HN.out; omega) ?_; intro A5 c5 V5 hs5 hk5 ha5; have HS5 := Lib.hid hs5; have HK5 := Lib.hid hk5; have HA5 := Lib.hid ha5; clear hs5 hk5 ha5)
  obtain ⟨kb, hkb⟩ : ∃ kb, kb = V5.heap.size := ⟨_, rfl⟩
  have hb5 : Below w2.heap.size w2 V5 := KeepF.below (Below.refl _ _) HK5.out (fun k ⟨a, ha, _⟩ => by cases ha) (Nat.le_refl _)
  rw [List.nil_append, Nat.zero_add] at HS5
  obtain ⟨ab, ao, hAA5, hab⟩ := HS5.out.some_ HN.out.1
  have habw : w2.heap.size ≤ ab := by
    rcases HA5.out _ hAA5 with ⟨a', h1, _⟩ | h2
    · cases h1
    · exact h2
  subst hAA5
  refine wp_let (fun V => Blk V kb 46 #[.int .u32 2, .slice (some ⟨ab, ao, none⟩) n c5] ∧ Blk V (kb + 1) 37 #[.int .u64 0, .int .u64 3, .slice (some ⟨kb, 0, none⟩) 1 1] ∧ Below V5.heap.size V5 V) ⟨by rw [hkb]; exact (Blk.new _ _ _).alloc _, by rw [hkb]; exact blk_atZ _ _ _ _ (by simp), ((Below.refl _ _).alloc (Nat.le_refl _) _).alloc (by simp) _⟩ ?_
  rintro V6 ⟨b1, b2, b3⟩
  rw [← hkb]
  have y0 := b2.cell 0
  have y1 := b2.cell 1
  have y2 := b2.cell 2
  simp only [List.getElem?_toArray, List.getElem?_cons_zero, List.getElem?_cons_succ] at y0 y1 y2
  have G1 := Lib.hid b1
  have G2 := Lib.hid b2
  have G3 := Lib.hid (HS5.out.next b3)
  have hw5 := F2.out.trans (hb5.mono F2.out.size)
  have G4 := Lib.hid (hw5.trans (b3.mono hw5.size))
  have G5 := Lib.hid ((F1.out.below hb5 F1.out.lt).below b3 (F1.out.below hb5 F1.out.lt).lt)
  have GN := Lib.hid (show w.heap.size ≤ ab ∧ ab < kb ∧ kb + 1 < V6.heap.size ∧ lb < w.heap.size ∧ g < ab by
    have h1 := F2.out.size
    have h2 := G2.out.lt
    have h3 := HLB.out.1
    have h4 := F1.out.lt
    omega)
  have HRS := Lib.hid (HRES.out HVV.out V6 kb (some ⟨ab, ao, none⟩) c5 HN.out.1 (by have := HN.out; omega) (cnts_one V6 kb (some ⟨ab, ao, none⟩) n c5 (fun j => ((z j : Nat) : Int)) b1 (by have := HN.out; omega) HS5.out.le (fun j hj => by have := HZ.out j hj; omega) (by
    have h := G3.out
    exact sl_rowF h)))
  clear b1 b2 b3 hb5 hw5 HS5 HK5 HA5 hkb hab habw HSRC
  go_upto_region 9 with (first
    | (refine wpList_load_row rfl _ _ rfl g rfl 26 CA (0, 0) _ G5.out HU.out rfl HS2.out ?_)
    | (go_at_call 10; refine (HRS.out).mono ?_; rintro e w7 ⟨g5, mS, mU, eb, X, l0, R0, rfl, hT, h1, h2, h3, h4, hR0, hB⟩; have HT := Lib.hid hT; have HB := Lib.hid hB; have HGS := Lib.hid (And.intro h1 (And.intro h2 (And.intro h3 (And.intro h4 hR0)))); clear hT h1 h2 h3 h4 hR0 hB))
  obtain ⟨W4, hW4⟩ : ∃ W4 : Nat → Prop, W4 = fun k => k = g5 ∨ k = mS ∨ k = mU ∨ k = eb := ⟨_, rfl⟩
  have HWL := Lib.hid (show ∀ q, W4 q → V6.heap.size ≤ q by
    rw [hW4]
    intro q hq
    have h := HGS.out
    rcases hq with h5 | h5 | h5 | h5 <;> omega)
  have HT7 := Lib.hid (show RxM w7 g5 (ownS cf X [⟨2, n, fun j => ((z j : Nat) : Int)⟩]) W4 R0 mS l0 mU eb from by rw [hW4]; exact HT.out)
  have HR0 := Lib.hid (show ∀ q, R0 q → V6.heap.size ≤ q ∧ q < w7.heap.size from fun q hq => ⟨HGS.out.2.2.2.2 q hq, HT.out.rin q hq⟩)
  have HW7 := Lib.hid (show ∀ q, W4 q → q < w7.heap.size from fun q hq => HT7.out.win q hq)
  have HSX := Lib.hid (And.intro (G1.out.below HB.out G1.out.lt) (And.intro (G2.out.below HB.out G2.out.lt) (And.intro (G5.out.below HB.out G5.out.lt) (G4.out.trans (HB.out.mono G4.out.size)))))
  have HBW0 := Lib.hid (show BWr w7 ab ao n from (BWr.of_sl G3.out (fun j hj => ⟨((z j : Nat) : Int), by omega, by have := HZ.out j hj; omega, fnL_at z hj⟩)).next HB.out)
  have hV6 := HB.out.size
  clear hW4 HT HGS y0 y1 y2 HRS
  go_wp2
  go_loopw [8] (fun v8 wr => ∃ i : Nat, i ≤ n ∧ v8 = .int .i64 i ∧ KeepF (fun q => q = ab) w7 wr ∧ BWr wr ab ao n) (fun v8 _ => n - (intOf v8).toNat)
  case atStart => exact ⟨0, by omega, rfl, KeepF.refl, HBW0.out⟩
  case round =>
    clear HBW0
    obtain ⟨i, hi, rfl, hK, hBW⟩ := hrel
    have HK := Lib.hid hK
    have HBW := Lib.hid hBW
    clear hK hBW
    have i0' : (0 : Int) ≤ (i : Int) := by omega
    by_cases hlt : i < n
    · have i1 : (i : Int) < (n : Int) := by omega
      have gn := GN.out
      have y2 : wr.cell? ⟨kb + 1, 2, none⟩ = some (.slice (some ⟨kb, 0, none⟩) 1 1) := (HK.out.blk HSX.out.2.1 (by omega)).cell 2
      have k1 : wr.cell? ⟨kb, 1, none⟩ = some (.slice (some ⟨ab, ao, none⟩) n c5) := (HK.out.blk HSX.out.1 (by omega)).cell 1
      have cz : wr.cell? ⟨lb, lo + i, none⟩ = some (.int .u8 ((z i : Nat) : Int)) := (HK.out.cell (p := ⟨lb, lo + i, none⟩) (by show lb < _; omega) (by show ¬ lb = ab; omega)).trans ((HSX.out.2.2.2.cell (p := ⟨lb, lo + i, none⟩) HLB.out.1).trans (HLB.out.2 i hlt))
      have hz8 := HZ.out i hlt
      obtain ⟨x, x0, x1, cx, fx⟩ := HBW.out.cell hlt
      have hcn : (n : Int) ≤ (c5 : Int) := by have := G3.out.le; omega
      generalize z i = zi at cz hz8
      have HLT := Lib.hid hlt
      clear hlt gn
      go_upto_region 12 with (fail)
      go_region
      go_wp2
      go_roundw
      case rel => exact ⟨i + 1, HLT.out, by go_num, (HK.out.setCell (p := ⟨ab, ao + i, none⟩) rfl _).drew, (HBW.out.put ab (ao + i) _ (by constructor <;> first | omega | (simp [IntKind.wrap_u8]; omega))).next ((Below.refl _ _).drew)⟩
      case measure => have := HLT.out; simp [intOf]; omega
    · have hie : i = n := by omega
      have i1 : ¬ (i : Int) < (n : Int) := by omega
      have HIE := Lib.hid hie
      clear hie hlt hi HBW
      have gn := GN.out
      have HG13 := Lib.hid (HK.out.blk HSX.out.2.2.1 (by omega))
      have hw13 : Below w.heap.size w wr := KeepF.below HSX.out.2.2.2 HK.out (fun q hq => by omega) HSX.out.2.2.2.size
      have HW13 := Lib.hid hw13
      have HT13 := Lib.hid (HT7.out.keepF HK.out (fun q hq => ⟨fun h => by have := HWL.out q h; omega, fun h => by have := HR0.out q h; omega⟩))
      have hR13 := HR.out.next hw13
      have HP1 := Lib.hid (show Calls Tryz.prog 12 #[.agg CA, .int .u32 1, .slice (some ⟨lb, lo, none⟩) n cp] wr (PduC cf 1 n z wr) from HPDU.out HVV.out 1 (by decide) (some ⟨lb, lo, none⟩) n cp z HN.out.1 (by have := HN.out; omega) wr hR13 HZ.out)
      have hk7 := HK.out.size
      have HK7 := Lib.hid (show w7.heap.size ≤ wr.heap.size from hk7)
      clear gn hw13 hR13 hk7
      go_upto_region 14 with (first
        | (refine wpList_load_row rfl _ _ rfl g rfl 26 CA (0, 0) _ HG13.out HU.out rfl HS2.out ?_)
        | (go_at_call 12; refine (HP1.out).mono ?_; rintro e V14 ⟨A9, c9, rfl, hs9, hf9, hb9⟩; have HS9 := Lib.hid hs9; have HF9 := Lib.hid hf9; have HB9 := Lib.hid hb9; clear hs9 hf9 hb9))
      obtain ⟨_, hle, hm6, _⟩ := pdu_least cf n
      have hm1 : 1 ≤ pduN cf n := by have := HN.out; unfold Cfg.least at hle; split at hle <;> omega
      obtain ⟨m, hm⟩ : ∃ m, m = pduN cf n := ⟨_, rfl⟩
      have HM := Lib.hid (show m = pduN cf n ∧ 1 ≤ m ∧ m ≤ 606 by have := HN.out; omega)
      obtain ⟨pL, hpL⟩ : ∃ pL, pL = pduL cf 1 n z := ⟨_, rfl⟩
      have HPLA := Lib.hid (show ∀ j, j < m → pL[j]? = some (.int .u8 ((pduZ cf 1 n z j : Nat) : Int)) by rw [hm, hpL]; exact fun j hj => pduL_at' hj)
      have HPL1 := Lib.hid (show ∀ u, u ∈ pL → u.oneCell' = true by
        rw [hpL]
        intro u hu
        obtain ⟨j, _, rfl⟩ := List.mem_map.1 hu
        rfl)
      rw [← hm, ← hpL] at HS9
      rw [← hm]
      clear hm hpL hle hm6 hm1
      obtain ⟨pb, po, hpp, hpbl⟩ := HS9.out.some_ HM.out.2.1
      have hpbw := HF9.out _ hpp
      subst hpp
      have HPB := Lib.hid (show wr.heap.size ≤ pb ∧ pb < V14.heap.size from ⟨hpbw, hpbl⟩)
      have HSRC14 := Lib.hid (src3 HS9.out HPL1.out)
      clear hpbw hpbl
      go_upto_region 15 with (refine wpList_sl_append rfl _ _ 41 41 rfl V14 5 i0 (.int .u8 0) 1 1 Tryz.underlying41 hi0 hz0 hz1 hz2 rfl none 0 0 [] rfl (SL.nil _ _ _) (.slice (some ⟨pb, po, none⟩) m c9) rfl m pL HSRC14.out HM.out.2.1 (by have := HM.out; unfold maxLen; omega) (by have := HM.out; omega) ?_; intro A10 c10 V15 hs10 hk10 ha10; have HS10 := Lib.hid hs10; have HK10 := Lib.hid hk10; have HA10 := Lib.hid ha10; clear hs10 hk10 ha10)
      rw [List.nil_append, Nat.zero_add] at HS10
      have hb15 : Below V14.heap.size V14 V15 := KeepF.below (Below.refl _ _) HK10.out (fun k ⟨a, ha, _⟩ => by cases ha) (Nat.le_refl _)
      obtain ⟨ob, oo, hoo, hobl⟩ := HS10.out.some_ HM.out.2.1
      have hobw : V14.heap.size ≤ ob := by
        rcases HA10.out _ hoo with ⟨a', h1, _⟩ | h2
        · cases h1
        · exact h2
      subst hoo
      have HOB := Lib.hid (show V14.heap.size ≤ ob ∧ ob < V15.heap.size from ⟨hobw, hobl⟩)
      have hbr5 := HB9.out.trans (hb15.mono HB9.out.size)
      have HBR5 := Lib.hid hbr5
      have HT15 := Lib.hid (HT13.out.below hbr5)
      have HS9' := Lib.hid (HS9.out.next hb15)
      have HX1 := Lib.hid (own_one cf HCF.out.1 HCF.out.2.2 X n z (fun j => ((z j : Nat) : Int)) HN.out.1 (by have := HN.out; omega) HZ.out)
      have hl0 : l0.length ≤ 12 := by
        have h := congrArg List.length HT15.out.lv
        rw [List.length_map] at h
        rw [h]
        show 1 ≤ 12
        decide
      have HRC := Lib.hid (show Calls Tryz.prog 11 #[.pointer (some ⟨g5, 0, none⟩), .int .i64 0, .slice (some ⟨ob, oo, none⟩) m c10] V15 (RecvO g5 (ownS cf X [⟨2, n, fun j => ((z j : Nat) : Int)⟩]) W4 R0 mS mU eb 0 (pduN cf n) (pduZ cf 1 n z) V15) from by
        have hmc := HS10.out.le
        have hrow := HS10.out.rowOf (f := fun j => .int .u8 ((pduZ cf 1 n z j : Nat) : Int)) (fun j hj => HPLA.out j hj)
        have hm := HM.out.1
        have hA : ∀ a, (some ⟨ob, oo, none⟩ : Option Addr) = some a → ¬ W4 a.block := fun a ha hw => by
          cases ha
          have h1 := HW7.out _ hw
          have h2 := HOB.out
          have h3 := HPB.out
          have h4 := HK7.out
          simp only at h1
          omega
        rw [hm] at hmc hrow ⊢
        exact recv_pdu g5 (ownS cf X [⟨2, n, fun j => ((z j : Nat) : Int)⟩]) W4 R0 mS l0 mU eb V15 HT15.out HCF.out.1 HVV.out HCF.out.2.1 hl0 (by show (0 : Int) < _; decide) 0 (some ⟨ob, oo, none⟩) n c10 1 z HN.out.1 (by have := HN.out; omega) HZ.out hmc hrow hA)
      clear hb15 hobw hobl hbr5 hl0 HK10 HA10
      go_upto_region 16 with (go_at_call 11; refine (HRC.out).mono ?_; rintro e u2 ⟨R6, l6, A6, c6, lo6, rfl, hM6, hm6, hp6, hT6, hr6, hr6b, hk6⟩; rw [HX1.out] at hm6 hT6 ⊢; have HT6 := Lib.hid hT6; have HR6 := Lib.hid hr6; have HK6 := Lib.hid hk6; clear hM6 hm6 hp6 hT6 hr6 hr6b hk6)
      have hnW : ∀ q, w7.heap.size ≤ q → ¬ W4 q := fun q hq hw => by have := HW7.out q hw; omega
      have hp1 := HPB.out
      have hp2 := HOB.out
      have hp3 := HK7.out
      have S9 := HS9'.out.keepF HK6.out (fun a ha => by cases ha; exact hnW _ (by show w7.heap.size ≤ pb; omega))
      have S10 := HS10.out.keepF HK6.out (fun a ha => by cases ha; exact hnW _ (by show w7.heap.size ≤ ob; omega))
      have s1 := row_string 41 9 5 Tryz.underlying41 Tryz.underlying5 Tryz.underlying9 (S10.rowOf (f := fun j => .int .u8 ((pduZ cf 1 n z j : Nat) : Int)) (fun j hj => HPLA.out j hj)) c10
      have s2 := row_string 41 9 5 Tryz.underlying41 Tryz.underlying5 Tryz.underlying9 (S9.rowOf (f := fun j => .int .u8 ((pduZ cf 1 n z j : Nat) : Int)) (fun j hj => HPLA.out j hj)) c9
      generalize bytesOf m (fun j => ((pduZ cf 1 n z j : Nat) : Int)) = SS at s1 s2
      have HBO := Lib.hid (show BWr u2 ob oo m from BWr.of_sl S10 (fun j hj => ⟨((pduZ cf 1 n z j : Nat) : Int), by omega, by have := pduZ_lt HCF.out.1.keyN HZ.out (ct := 1) j; omega, HPLA.out j hj⟩))
      have hz15 : V14.heap.size ≤ V15.heap.size := by omega
      have HZ15 := Lib.hid (show w7.heap.size ≤ V15.heap.size by omega)
      have m0 : (0 : Int) ≤ (m : Int) := by omega
      have m6 : (m : Int) ≤ 606 := by have := HM.out; omega
      clear hnW hp1 hp2 hp3 S9 S10 hz15
      go_wp2
      go_loopw [14] (fun v14 wr => ∃ i : Nat, i ≤ m ∧ v14 = .int .i64 i ∧ KeepF (fun q => q = ob) u2 wr ∧ BWr wr ob oo m) (fun v14 _ => m - (intOf v14).toNat)
      case atStart => exact ⟨0, by omega, rfl, KeepF.refl, HBO.out⟩
      case round =>
        clear HBO s1 s2
        obtain ⟨i, hi, rfl, hK, hBW⟩ := hrel
        have HK2 := Lib.hid hK
        have HBW2 := Lib.hid hBW
        clear hK hBW
        have j0 : (0 : Int) ≤ (i : Int) := by omega
        by_cases hlt : i < m
        · have j1 : (i : Int) < (m : Int) := by omega
          obtain ⟨x, x0, x1, cx, fx⟩ := HBW2.out.cell hlt
          have HLT := Lib.hid hlt
          clear hlt
          go_wp2
          go_roundw
          case rel => exact ⟨i + 1, HLT.out, by go_num, HK2.out.setCell (p := ⟨ob, oo + i, none⟩) rfl _, HBW2.out.put ob (oo + i) _ (by constructor <;> first | omega | (simp [IntKind.wrap_u8]; omega))⟩
          case measure => have := HLT.out; simp [intOf]; omega
        · have hie2 : i = m := by omega
          have j1 : ¬ (i : Int) < (m : Int) := by omega
          have HIE2 := Lib.hid hie2
          clear hie2 hlt hi HBW2
          have hlo1 := HW13.out.trans (HBR5.out.mono HW13.out.size)
          have gn := GN.out
          have hz15 := HZ15.out
          have hob := HOB.out
          have hpb := HPB.out
          have hk7 := HK7.out
          have hv6 : w.heap.size ≤ V6.heap.size := by omega
          have hlo2 := KeepF.below hlo1 HK6.out (fun q hq => by have := HWL.out q hq; omega) hlo1.size
          have hlo3 : Below w.heap.size w wr := KeepF.below hlo2 HK2.out (fun q hq => by omega) hlo2.size
          have HLO := Lib.hid hlo3
          have HT21 := Lib.hid (HT6.out.keepF HK2.out (fun q hq => ⟨fun h => by have := HW7.out q h; omega, fun h => by
            rcases HR6.out q h with h1 | h1
            · have := HR0.out q h1; omega
            · omega⟩))
          have hl6 : l6.map (·.v) = [svP cf 1 n z, ⟨2, n, fun j => ((z j : Nat) : Int)⟩] := HT6.out.lv
          have e6 : l6.length = 2 := by
            have h := congrArg List.length hl6
            rw [List.length_map] at h
            exact h
          have HL6 := Lib.hid (And.intro hl6 e6)
          have HEX := Lib.hid (rexport_ok g5 (ownS cf X [svP cf 1 n z, ⟨2, n, fun j => ((z j : Nat) : Int)⟩]) W4 R6 mS l6 mU eb wr HT21.out (sortedOK_small (by omega)) (by omega))
          have hGC : Blk wr g 26 CA := HK2.out.blk (HK6.out.blk (HG13.out.below HBR5.out HG13.out.lt) (fun h => by have := HWL.out _ h; omega)) (by omega)
          have HGC := Lib.hid hGC
          have HWR := Lib.hid (show (∀ q, W4 q → q < wr.heap.size) ∧ (∀ q, R6 q → q < wr.heap.size) from ⟨HT21.out.win, HT21.out.rin⟩)
          clear hlo1 gn hz15 hob hpb hk7 hv6 hlo2 hlo3 hl6 e6 hGC
          go_upto_region 22 with (go_at_call 13; refine (HEX.out).mono ?_; rintro e u3 ⟨A7, c7, lx, rfl, hlx, hs7, hf7, hx7, hB7⟩; have HLX := Lib.hid hlx; have HS7 := Lib.hid hs7; have HF7 := Lib.hid hf7; have HX7 := Lib.hid hx7; have HB7 := Lib.hid hB7; clear hlx hs7 hf7 hx7 hB7)
          obtain ⟨xb, hxb⟩ : ∃ xb, xb = u3.heap.size := ⟨_, rfl⟩
          obtain ⟨V, hV⟩ : ∃ V, V = u3.alloc (.cells #[.int .u64 (ownS cf X [svP cf 1 n z, ⟨2, n, fun j => ((z j : Nat) : Int)⟩]).deliver, .int .u64 (ownS cf X [svP cf 1 n z, ⟨2, n, fun j => ((z j : Nat) : Int)⟩]).next, .slice A7 l6.length c7] 37) := ⟨_, rfl⟩
          have hb37 : Below u3.heap.size u3 V := by rw [hV]; exact (Below.refl _ _).alloc (Nat.le_refl _) _
          have hVB : Blk V xb 37 #[.int .u64 (ownS cf X [svP cf 1 n z, ⟨2, n, fun j => ((z j : Nat) : Int)⟩]).deliver, .int .u64 (ownS cf X [svP cf 1 n z, ⟨2, n, fun j => ((z j : Nat) : Int)⟩]).next, .slice A7 l6.length c7] := by rw [hV, hxb]; exact Blk.new _ _ _
          rw [← hV, ← hxb]
          obtain ⟨x1, x2, hx12⟩ : ∃ x1 x2, lx = [x1, x2] := by
            have h := congrArg List.length HLX.out
            rw [List.length_map, List.length_map, HL6.out.2] at h
            rcases lx with _ | ⟨a, _ | ⟨b, _ | ⟨c, r⟩⟩⟩
            · simp at h
            · simp at h
            · exact ⟨a, b, rfl⟩
            · simp at h
          subst hx12
          have hv12 : [x1.v, x2.v] = [svP cf 1 n z, ⟨2, n, fun j => ((z j : Nat) : Int)⟩] := HLX.out.trans HL6.out.1
          have hv1 : x1.v = svP cf 1 n z := by injection hv12
          have hv2 : x2.v = ⟨2, n, fun j => ((z j : Nat) : Int)⟩ := by
            injection hv12 with _ h
            injection h
          have hn1 : x1.v.n = n := by rw [hv1]; rfl
          have hn2 : x2.v.n = n := by rw [hv2]
          have hX1 := HX7.out x1 (by simp)
          have hX2 := HX7.out x2 (by simp)
          have hS1 := hX1.1.next hb37
          have hS2 := hX2.1.next hb37
          obtain ⟨p1, o1, hA1, hp1l⟩ := hS1.some_ (by rw [hn1]; exact HN.out.1)
          obtain ⟨p2, o2, hA2, hp2l⟩ := hS2.some_ (by rw [hn2]; exact HN.out.1)
          have hp1w := hX1.2 _ hA1
          have hp2w := hX2.2 _ hA2
          have hby : ∀ (v : SV), v.n = n → (∀ j, j < n → 0 ≤ v.z j ∧ v.z j < 256) → ∀ j, j < v.n → ∃ x : Int, 0 ≤ x ∧ x < 256 ∧ v.bytes[j]? = some (.int .u8 x) := fun v hn hb j hj => ⟨v.z j, (hb j (by omega)).1, (hb j (by omega)).2, by
            unfold SV.bytes
            rw [List.getElem?_map, List.getElem?_range hj]
            rfl⟩
          have hw1 : BWr V p1 o1 n := by
            have h := BWr.of_sl (by rw [← hA1]; exact hS1) (hby x1.v hn1 (fun j hj => by rw [hv1]; have := HZ.out j hj; have e : (svP cf 1 n z).z j = ((z j : Nat) : Int) := congrArg (fun q : Nat => (q : Int)) (plainZ_at cf 1 n z j hj); rw [e]; omega))
            rwa [hn1] at h
          have hw2 : BWr V p2 o2 n := by
            have h := BWr.of_sl (by rw [← hA2]; exact hS2) (hby x2.v hn2 (fun j hj => by rw [hv2]; have := HZ.out j hj; show (0 : Int) ≤ ((z j : Nat) : Int) ∧ ((z j : Nat) : Int) < 256; omega))
            rwa [hn2] at h
          have hs7 := HS7.out.next hb37
          rw [HL6.out.2] at hs7 hVB
          obtain ⟨hb, ho, hA7, hhbl⟩ := hs7.some_ (by decide)
          have hhbw := HF7.out _ hA7
          have hhn : ∀ p o, (∃ x : SE, SL V 5 1 x.A x.v.n x.c x.v.bytes ∧ x.A = some ⟨p, o, none⟩) → p ≠ hb ∧ p ≠ xb := fun p o ⟨x, hx, hA⟩ => by
            obtain ⟨c1, hc1⟩ := hx.obj hA
            obtain ⟨c2, hc2⟩ := hs7.obj hA7
            refine ⟨fun e => ?_, fun e => ?_⟩
            · simp only at hc1 hc2
              rw [e, hc2] at hc1
              cases hc1
            · simp only at hc1
              rw [e, show V.heap[xb]? = _ from hVB] at hc1
              cases hc1
          have hne1 := hhn p1 o1 ⟨x1, hS1, hA1⟩
          have hne2 := hhn p2 o2 ⟨x2, hS2, hA2⟩
          have hc1 : V.cell? ⟨hb, ho + 0 * 2 + 1, none⟩ = some (.slice (some ⟨p1, o1, none⟩) n x1.c) := by
            have h := hs7.cell (j := 1) hA7 (by omega)
            rw [show ho + 0 * 2 + 1 = ho + 1 by omega, h]
            show some (Value.slice x1.A x1.v.n x1.c) = _
            rw [hA1, hn1]
          have hc2 : V.cell? ⟨hb, ho + 1 * 2 + 1, none⟩ = some (.slice (some ⟨p2, o2, none⟩) n x2.c) := by
            have h := hs7.cell (j := 3) hA7 (by omega)
            rw [show ho + 1 * 2 + 1 = ho + 3 by omega, h]
            show some (Value.slice x2.A x2.v.n x2.c) = _
            rw [hA2, hn2]
          have hle1 : n ≤ x1.c := by have := hS1.le; omega
          have hle2 : n ≤ x2.c := by have := hS2.le; omega
          subst hA7
          obtain ⟨F, hF⟩ : ∃ F : Nat → Prop, F = fun q => q = p1 ∨ q = p2 := ⟨_, rfl⟩
          have HEL := Lib.hid (show ∀ i, i < 2 → ∃ p o cc, V.cell? ⟨hb, ho + i * 2 + 1, none⟩ = some (.slice (some ⟨p, o, none⟩) n cc) ∧ n ≤ cc ∧ F p ∧ ((p = p1 ∧ o = o1) ∨ (p = p2 ∧ o = o2)) by
            intro i hi
            rcases (by omega : i = 0 ∨ i = 1) with rfl | rfl
            · exact ⟨p1, o1, x1.c, hc1, hle1, by rw [hF]; exact .inl rfl, .inl ⟨rfl, rfl⟩⟩
            · exact ⟨p2, o2, x2.c, hc2, hle2, by rw [hF]; exact .inr rfl, .inr ⟨rfl, rfl⟩⟩)
          have HFN := Lib.hid (show ∀ q, F q → q ≠ hb ∧ q ≠ xb ∧ wr.heap.size ≤ q by
            rw [hF]
            rintro q (rfl | rfl)
            · exact ⟨hne1.1, hne1.2, hp1w⟩
            · exact ⟨hne2.1, hne2.2, hp2w⟩)
          have HVX := Lib.hid hVB
          have HHB := Lib.hid hhbl
          have hbV : Below wr.heap.size wr V := HB7.out.trans (hb37.mono HB7.out.size)
          have HBV := Lib.hid hbV
          have HWW := Lib.hid (And.intro hw1 hw2)
          clear hV hxb hb37 hVB hv12 hv1 hv2 hn1 hn2 hX1 hX2 hS1 hS2 hA1 hA2 hp1l hp2l hp1w hp2w hby hw1 hw2 hs7 hhbl hhbw hhn hne1 hne2 hc1 hc2 hle1 hle2 hF hbV
          go_wp2
          go_loopw [16, 17] (fun v16 v17 W => ∃ i : Nat, i ≤ 2 ∧ v16 = .int .i64 i ∧ KeepF F V W ∧ BWr W p1 o1 n ∧ BWr W p2 o2 n) (fun v16 _ _ => 2 - (intOf v16).toNat)
          case atStart => exact ⟨0, by omega, rfl, KeepF.refl, HWW.out⟩
          case round =>
            clear HWW
            obtain ⟨i, hi, rfl, hK, hw1, hw2⟩ := hrel
            have HK3 := Lib.hid hK
            have HW3 := Lib.hid (And.intro hw1 hw2)
            clear hK hw1 hw2
            have r0 : (0 : Int) ≤ (i : Int) := by omega
            have xs2 : V.cell? ⟨xb, 2, none⟩ = some (.slice (some ⟨hb, ho, none⟩) 2 c7) := HVX.out.cell 2
            have HXS := Lib.hid (show ∀ W, KeepF F V W → W.cell? ⟨xb, 2, none⟩ = some (.slice (some ⟨hb, ho, none⟩) 2 c7) from fun W hW => (hW.blk HVX.out (fun h => (HFN.out _ h).2.1 rfl)).cell 2)
            clear xs2
            by_cases hlt : i < 2
            · have r1 : (i : Int) < 2 := by omega
              obtain ⟨p, o, cc, hcell, hncc, hFp, hpo⟩ := HEL.out i hlt
              have HCE := Lib.hid (show ∀ W, KeepF F V W → W.cell? ⟨hb, ho + i * 2 + 1, none⟩ = some (.slice (some ⟨p, o, none⟩) n cc) from fun W hW => (hW.cell (p := ⟨hb, ho + i * 2 + 1, none⟩) HHB.out (fun h => (HFN.out _ h).1 rfl)).trans hcell)
              have HFP := Lib.hid (And.intro hFp hpo)
              have ncc : (n : Int) ≤ (cc : Int) := by omega
              have HLT := Lib.hid hlt
              have xs2 := HXS.out _ HK3.out
              have xce := HCE.out _ HK3.out
              clear hcell hncc hFp hpo hlt
              go_wp2
              go_loopw [17] (fun v17 W => ∃ k : Nat, k ≤ n ∧ v17 = .int .i64 k ∧ KeepF F V W ∧ BWr W p1 o1 n ∧ BWr W p2 o2 n) (fun v17 _ => n - (intOf v17).toNat)
              case atStart => exact ⟨0, by omega, rfl, HK3.out, HW3.out.1, HW3.out.2⟩
              case round =>
                clear HK3 HW3 xs2 xce
                obtain ⟨k, hk, rfl, hK, hw1, hw2⟩ := hrel
                have HK4 := Lib.hid hK
                have HW4 := Lib.hid (And.intro hw1 hw2)
                have xs2 := HXS.out _ hK
                have xce := HCE.out _ hK
                clear hK hw1 hw2
                have q0 : (0 : Int) ≤ (k : Int) := by omega
                by_cases hkn : k < n
                · have q1 : (k : Int) < (n : Int) := by omega
                  obtain ⟨x, x0, x1', cx, fx⟩ : ∃ x : Int, 0 ≤ x ∧ x < 256 ∧ wr.cell? ⟨p, o + k, none⟩ = some (.int .u8 x) ∧ wr.frozen? ⟨p, o + k, none⟩ = false := by
                    rcases HFP.out.2 with ⟨rfl, rfl⟩ | ⟨rfl, rfl⟩
                    · exact HW4.out.1.cell hkn
                    · exact HW4.out.2.cell hkn
                  have HKN2 := Lib.hid hkn
                  clear hkn
                  go_wp2
                  go_roundw
                  case rel => exact ⟨k + 1, HKN2.out, by go_num, HK4.out.setCell (p := ⟨p, o + k, none⟩) HFP.out.1 _, HW4.out.1.put p (o + k) 9 (by decide), HW4.out.2.put p (o + k) 9 (by decide)⟩
                  case measure => have := HKN2.out; simp [intOf]; omega
                · have hkne : k = n := by omega
                  have q1 : ¬ (k : Int) < (n : Int) := by omega
                  have HKE := Lib.hid hkne
                  clear hkne hkn hk
                  go_wp2
                  go_roundw
                  case rel => first | exact ⟨i + 1, HLT.out, by go_num, HK4.out, HW4.out.1, HW4.out.2⟩ | (((repeat apply Exists.intro); refine ⟨?_, rfl⟩); exact ⟨i + 1, HLT.out, by go_num, HK4.out, HW4.out.1, HW4.out.2⟩)
                  case measure => have := HLT.out; simp [intOf]; omega
            · have hie3 : i = 2 := by omega
              have r1 : ¬ (i : Int) < 2 := by omega
              have xs2 := HXS.out _ HK3.out
              have HIE3 := Lib.hid hie3
              clear hie3 hlt hi HW3
              have hKV := HK3.out
              have HGF := Lib.hid (show Blk wr g 26 CA from hKV.blk (HGC.out.below HBV.out HGC.out.lt) (fun h => by have h1 := (HFN.out _ h).2.2; have h2 := HGC.out.lt; omega))
              have hlo4 : Below w.heap.size w V := HLO.out.trans (HBV.out.mono HLO.out.size)
              have hlo5 : Below w.heap.size w wr := KeepF.below hlo4 hKV (fun q hq => by have h1 := (HFN.out q hq).2.2; have h2 := HLO.out.size; omega) hlo4.size
              have HLO5 := Lib.hid hlo5
              have HT29 := Lib.hid ((HT21.out.below HBV.out).keepF hKV (fun q hq => by
                have h1 := (HFN.out q hq).2.2
                exact ⟨fun h => by have := HWR.out.1 q h; omega, fun h => by have := HWR.out.2 q h; omega⟩))
              obtain ⟨u6, hu6⟩ : ∃ u, u = wr.alloc (.cells #[.int .u8 5] 5) := ⟨_, rfl⟩
              obtain ⟨fb, hfb⟩ : ∃ fb, fb = wr.heap.size := ⟨_, rfl⟩
              have hb6 : Below wr.heap.size wr u6 := by rw [hu6]; exact (Below.refl _ _).alloc (Nat.le_refl _) _
              have HP0 := Lib.hid (show Calls Tryz.prog 12 #[.agg CA, .int .u32 0, .slice (some ⟨fb, 0, none⟩) 1 1] u6 (PduC cf 0 1 (fun _ => 5) u6) from HPDU.out HVV.out 0 (by decide) (some ⟨fb, 0, none⟩) 1 1 (fun _ => 5) (by decide) (by decide) u6 (by
                rw [hu6, hfb]
                exact row_lit wr #[.int .u8 5] 1 (fun _ => 5) rfl (fun j hj => by
                  obtain rfl : j = 0 := by omega
                  rfl)) (fun _ _ => by decide))
              have HB6 := Lib.hid hb6
              have HU6 := Lib.hid hu6
              have HFB := Lib.hid hfb
              obtain ⟨s9, hX9⟩ := own_zero cf HCF.out.1 HCF.out.2.2 X n z (fun j => ((z j : Nat) : Int)) (fun _ => 5) (fun _ _ => by decide)
              have HX9 := Lib.hid hX9
              have hW4l := HT29.out.win
              have HRC0 := Lib.hid (show ∀ A5 c5 u1, Below wr.heap.size wr u1 → SL u1 5 1 A5 (pduN cf 1) c5 (pduL cf 0 1 (fun _ => 5)) → Fresh u6.heap.size A5 → Calls Tryz.prog 11 #[.pointer (some ⟨g5, 0, none⟩), .int .i64 0, .slice A5 (pduN cf 1) c5] u1 (RecvO g5 (ownS cf X [svP cf 1 n z, ⟨2, n, fun j => ((z j : Nat) : Int)⟩]) W4 R6 mS mU eb 0 (pduN cf 1) (pduZ cf 0 1 (fun _ => 5)) u1) from fun A5 c5 u1 hu hs hf => recv_pdu g5 (ownS cf X [svP cf 1 n z, ⟨2, n, fun j => ((z j : Nat) : Int)⟩]) W4 R6 mS l6 mU eb u1 (HT29.out.below hu) HCF.out.1 HVV.out HCF.out.2.1 (by have := HL6.out.2; omega) (by show (0 : Int) < _; decide) 0 A5 1 c5 0 (fun _ => 5) (by decide) (by decide) (fun _ _ => by decide) hs.le (hs.rowOf (fun j hj => pduL_at' hj)) (fun a ha hw => by
                have h1 := hf a ha
                have h2 := hW4l _ hw
                have h3 := HB6.out.size
                omega))
              have hlbw := HLB.out.1
              clear hKV hlo4 hlo5 hu6 hfb hb6 hX9 hW4l HPDU
              go_upto_region 30 with (first
                | (refine wpList_load_row rfl _ _ rfl g rfl 26 CA (0, 0) _ HGF.out HU.out rfl HS2.out ?_)
                | (go_at_call 12; rw [← HU6.out, ← HFB.out]; refine (HP0.out).mono ?_; rintro e u7 ⟨A8, c8, rfl, hs8, hf8, hB8⟩; have HRV := Lib.hid (HRC0.out A8 c8 u7 (HB6.out.trans (hB8.mono HB6.out.size)) hs8 hf8); have HB8 := Lib.hid (HB6.out.trans (hB8.mono HB6.out.size)); clear hs8 hf8 hB8)
                | (go_at_call 11; refine (HRV.out).mono ?_; rintro e u9 ⟨R9, l9, A9', c9', lo9, rfl, hM9, hm9, hp9, hT9, hr9, hr9b, hk9⟩; rw [HX9.out] at hm9 ⊢; have HM9 := Lib.hid (And.intro hM9 (And.intro hm9 hp9)); have HK9 := Lib.hid hk9; clear hM9 hm9 hp9 hT9 hr9 hr9b hk9))
              have hlo6 : Below w.heap.size w u9 := KeepF.below (HLO5.out.trans (HB8.out.mono HLO5.out.size)) HK9.out (fun q hq => by have h1 := HWL.out q hq; have h2 := G4.out.size; omega) (Nat.le_trans HLO5.out.size HB8.out.size)
              have e9 : lo9.length = 3 := by
                have h := congrArg List.length HM9.out.2.1
                rw [List.length_map] at h
                exact h
              obtain ⟨b5, hb5⟩ : ∃ b, b = u9.heap.size := ⟨_, rfl⟩
              obtain ⟨U, hU⟩ : ∃ U, U = (u9.alloc (.cells #[.int .u8 5] 5)).alloc (.cells #[.slice (some ⟨b5, 0, none⟩) 1 1, .slice (some ⟨lb, lo, none⟩) n cp, .slice (some ⟨lb, lo, none⟩) n cp] 41) := ⟨_, rfl⟩
              have hbU : Below u9.heap.size u9 U := by rw [hU]; exact ((Below.refl _ _).alloc (Nat.le_refl _) _).alloc (by simp) _
              have hB5 : Blk U b5 5 #[.int .u8 5] := by rw [hU, hb5]; exact (Blk.new _ _ _).alloc _
              have hBL : Blk U (b5 + 1) 41 #[.slice (some ⟨b5, 0, none⟩) 1 1, .slice (some ⟨lb, lo, none⟩) n cp, .slice (some ⟨lb, lo, none⟩) n cp] := by rw [hU, hb5]; exact blk_atZ _ _ _ _ (by simp)
              have hSU := HM9.out.1.1.next hbU
              obtain ⟨q9, r9, hA9, hq9⟩ := hSU.some_ (by omega)
              have hrw := HR.out.next (hlo6.trans (hbU.mono hlo6.size))
              have hsame : SameB U A9' (some ⟨b5 + 1, 0, none⟩) 3 := fun k hk => by
                have hkl : k < lo9.length := by omega
                have hcell := hSU.cell (j := k) hA9 (by omega)
                rw [List.getElem?_map, List.getElem?_eq_getElem hkl] at hcell
                have hv : (lo9[k]).v = [svP cf 0 1 (fun _ => 5), svP cf 1 n z, ⟨2, n, fun j => ((z j : Nat) : Int)⟩][k]'(by simpa using hk) := by
                  have h : (lo9.map (·.v))[k]? = some (lo9[k]).v := by rw [List.getElem?_map, List.getElem?_eq_getElem hkl]; rfl
                  rw [HM9.out.2.1, List.getElem?_eq_getElem (by simpa using hk)] at h
                  exact (Option.some.inj h).symm
                have hpk := (HM9.out.2.2 lo9[k] (List.getElem_mem hkl)).keep (KeepF.of_below (F := fun _ => False) hbU) (fun _ h => h.elim)
                have hle : ∀ (nn : Nat) (zz : Nat → Int), (lo9[k]).v.n = nn → (∀ j, j < nn → (lo9[k]).v.z j = zz j) → ∀ (PB : Option Addr) (pc : Nat) (y : Nat → Int), U.cell? ⟨b5 + 1, 0 + k, none⟩ = some (.slice PB nn pc) → Row U U.heap.size PB nn (fun j => .int .u8 (y j)) → (∀ j, j < nn → zz j = y j) → ∃ n' z1 z2, BE2 U A9' k n' z1 ∧ BE2 U (some ⟨b5 + 1, 0, none⟩) k n' z2 ∧ ∀ j, j < n' → z1 j = z2 j := fun nn zz h1 h2 PB pc y h3 h4 h5 =>
                  ⟨nn, (lo9[k]).v.z, y, ⟨q9, r9, (lo9[k]).A, (lo9[k]).c, hA9, hq9, by rw [hcell, ← h1]; rfl, by rw [← h1]; exact hpk.row⟩, ⟨b5 + 1, 0, PB, pc, rfl, hBL.lt, h3, h4⟩, fun j hj => (h2 j hj).trans (h5 j hj)⟩
                rcases (by omega : k = 0 ∨ k = 1 ∨ k = 2) with rfl | rfl | rfl
                · exact hle 1 (fun _ => 5) (by rw [hv]; rfl) (fun j hj => by rw [hv]; exact congrArg (fun q : Nat => (q : Int)) (plainZ_at cf 0 1 (fun _ => 5) j hj)) (some ⟨b5, 0, none⟩) 1 (fun _ => 5) (hBL.cell 0) (fun _ => ⟨b5, 0, rfl, hB5.lt, fun j hj => by
                    obtain rfl : j = 0 := by omega
                    exact hB5.cell 0⟩) (fun _ _ => rfl)
                · exact hle n (fun j => ((z j : Nat) : Int)) (by rw [hv]; rfl) (fun j hj => by rw [hv]; exact congrArg (fun q : Nat => (q : Int)) (plainZ_at cf 1 n z j hj)) (some ⟨lb, lo, none⟩) cp (fun j => ((z j : Nat) : Int)) (hBL.cell 1) hrw (fun _ _ => rfl)
                · exact hle n (fun j => ((z j : Nat) : Int)) (by rw [hv]; rfl) (fun j hj => by rw [hv]; rfl) (some ⟨lb, lo, none⟩) cp (fun j => ((z j : Nat) : Int)) (hBL.cell 2) hrw (fun _ _ => rfl)
              have HSM := Lib.hid (samel_true A9' (some ⟨b5 + 1, 0, none⟩) 3 c9' 3 U (by unfold maxLen; omega) hsame)
              have HLU := Lib.hid (hlo6.trans (hbU.mono hlo6.size))
              have HUU := Lib.hid hU
              have HB5 := Lib.hid hb5
              rw [e9]
              clear hlo6 e9 hb5 hU hbU hB5 hBL hSU hA9 hq9 hrw hsame xs2
              go_wp2_with (first
                | (go_at_call 15; rw [← HB5.out, ← HUU.out]; refine (HSM.out).mono ?_; rintro e v1 ⟨rfl, hB⟩; have HL9 := Lib.hid (HLU.out.trans (hB.mono HLU.out.size)); clear hB)
                | (go_at_call 9; refine (HKN.out _).mono ?_; rintro e v2 ⟨rfl, hB⟩; have HL8 := Lib.hid (HL9.out.trans (hB.mono HL9.out.size)); clear hB))
              go_ret
              exact ⟨rfl, HL8.out⟩
theorem own46_walk' (c : Cfg) (hck : c.Ok) (A : Option Addr) (n cp : Nat) (zz : Nat → Int) (hnm : n ≤ maxLen) (hc : n ≤ cp ∧ ∀ j, j < n → 0 ≤ zz j ∧ zz j < 256) (w : World) (hr : Row w w.heap.size A n (fun j => .int .u8 (zz j))) : Calls Tryz.prog 4 #[.agg c.arr, .slice A n cp] w fun e w' => e = .returned (.bool true) ∧ Below w.heap.size w w' :=
  own46_walk c hck A n cp (nf zz) hnm hc.1 (fun j hj => nf_lt hc.2 hj) w (fun hn => by
    obtain ⟨b, o, h1, h2, h3⟩ := hr hn
    exact ⟨b, o, h1, h2, fun j hj => by
      show _ = some (Value.int .u8 ((nf zz j : Nat) : Int))
      rw [h3 j hj, nf_cast hc.2 hj]⟩)
end Go.Proofs.YtmdpiajhfohagaaGreat
