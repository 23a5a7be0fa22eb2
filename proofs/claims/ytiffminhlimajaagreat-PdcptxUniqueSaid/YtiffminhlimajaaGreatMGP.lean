/- SameForward of the reference is true of states that read alike. A PDCP configuration by value among a law's arguments. Printed by gen/xzn.py. the reference's Valid; equality of configurations. One new transmitter among a law's calls; PdcptxWindow: the walk. PdcptxWindow: the walk. PdcptxEnds: the walk. PdcptxExpires: the states, in plain Lean. PdcptxExpires: the walk. law 45: configurations with integrity; a configuration without compression. Export, with packets in blocks that are not frozen: XTGA and XTG once more (printed by gen/xtg.py with the changes of gen/xsc.py). PdcptxOwn: blocks of bytes that the law writes; the states. PdcptxOwn: the walk. Printed by gen/xsg.py. -/
import Derived.Test.YtiffminhlimajaaGreatMGI
import Derived.Test.YtiffminhlimajaaGreatMGC
import Derived.Test.YtiffminhlimajaaGreatMGK
import Derived.Test.YtiffminhlimajaaGreatMGJ
import Derived.ProofKit
import Derived.OpenShut
import Derived.ChangeOld
import Derived.Deep.Fields
import Derived.Laws.StructEq
import Derived.ChangeKeysEq
import Derived.Lib.SlBytesConst
import Derived.Lib.SmallJoins
import Derived.Deep.RegionHeld3
namespace Go.Proofs.YtiffminhlimajaaGreat
open Go.RowKit
set_option linter.unusedVariables false
attribute [local go_sem ↓] Go.wp_at_zero Go.wp_at_succ

/-- element k of a slice of counted packets; of a slice of packets -/
def CE2 (w : World) (A : Option Addr) (k : Nat) (ct : Int) (n : Nat) (z : Nat → Int) : Prop :=
  ∃ lb lo PA pc, A = some ⟨lb, lo, none⟩ ∧ lb < w.heap.size ∧ w.cell? ⟨lb, lo + k * 2, none⟩ = some (.int .u32 ct) ∧ w.cell? ⟨lb, lo + k * 2 + 1, none⟩ = some (.slice PA n pc) ∧ Row w w.heap.size PA n (fun j => .int .u8 (z j))
def BE2 (w : World) (A : Option Addr) (k : Nat) (n : Nat) (z : Nat → Int) : Prop :=
  ∃ lb lo PA pc, A = some ⟨lb, lo, none⟩ ∧ lb < w.heap.size ∧ w.cell? ⟨lb, lo + k, none⟩ = some (.slice PA n pc) ∧ Row w w.heap.size PA n (fun j => .int .u8 (z j))
theorem CE2.below {w w' : World} {A : Option Addr} {k : Nat} {ct : Int} {n : Nat} {z : Nat → Int} (h : CE2 w A k ct n z) (hb : Below w.heap.size w w') : CE2 w' A k ct n z := by
  obtain ⟨lb, lo, PA, pc, h1, h2, h3, h4, h5⟩ := h
  exact ⟨lb, lo, PA, pc, h1, Nat.lt_of_lt_of_le h2 hb.size, (hb.cell (p := ⟨lb, lo + k * 2, none⟩) h2).trans h3, (hb.cell (p := ⟨lb, lo + k * 2 + 1, none⟩) h2).trans h4, h5.next hb⟩
theorem BE2.below {w w' : World} {A : Option Addr} {k : Nat} {n : Nat} {z : Nat → Int} (h : BE2 w A k n z) (hb : Below w.heap.size w w') : BE2 w' A k n z := by
  obtain ⟨lb, lo, PA, pc, h1, h2, h3, h5⟩ := h
  exact ⟨lb, lo, PA, pc, h1, Nat.lt_of_lt_of_le h2 hb.size, (hb.cell (p := ⟨lb, lo + k, none⟩) h2).trans h3, h5.next hb⟩
def SameC (w : World) (A A' : Option Addr) (m : Nat) : Prop := ∀ k, k < m → ∃ ct n z z', CE2 w A k ct n z ∧ CE2 w A' k ct n z' ∧ ∀ j, j < n → z j = z' j
def SameB (w : World) (A A' : Option Addr) (m : Nat) : Prop := ∀ k, k < m → ∃ n z z', BE2 w A k n z ∧ BE2 w A' k n z' ∧ ∀ j, j < n → z j = z' j
theorem SameC.below {w w' : World} {A A' : Option Addr} {m : Nat} (h : SameC w A A' m) (hb : Below w.heap.size w w') : SameC w' A A' m := fun k hk => by
  obtain ⟨ct, n, z, z', h1, h2, h3⟩ := h k hk
  exact ⟨ct, n, z, z', h1.below hb, h2.below hb, h3⟩
theorem SameB.below {w w' : World} {A A' : Option Addr} {m : Nat} (h : SameB w A A' m) (hb : Below w.heap.size w w') : SameB w' A A' m := fun k hk => by
  obtain ⟨n, z, z', h1, h2, h3⟩ := h k hk
  exact ⟨n, z, z', h1.below hb, h2.below hb, h3⟩
set_option maxRecDepth 100000 in
set_option maxHeartbeats 1600000 in
theorem samec_true (A A' : Option Addr) (m c c' : Nat) (w : World) (hm : m ≤ maxLen) (h : SameC w A A' m) :
    Calls Tryz.prog 58 #[.slice A m c, .slice A' m c'] w fun e w' => e = .returned (.bool true) ∧ Below w.heap.size w w' := by
  unfold maxLen at hm
  have HS := Lib.hid h
  have hm' : (m : Int) ≤ 9223372036854775807 := by omega
  clear h
  go_enter Tryz.func58, Tryz.ntmps58
  go_wp2
  go_loopw [5] (fun v wr => ∃ k : Nat, k ≤ m ∧ v = .int .i64 k ∧ Below w.heap.size w wr) (fun v _ => m - (intOf v).toNat)
  case atStart => exact ⟨0, by omega, rfl, Below.refl _ _⟩
  case round =>
    obtain ⟨k, hk, rfl, hb⟩ := hrel
    by_cases hlt : k < m
    · obtain ⟨ct, n, z, z', ⟨lb, lo, PA, pc, rfl, h2, h3, h4, h5⟩, ⟨lb', lo', PA', pc', rfl, k2, k3, k4, k5⟩, he⟩ := (HS.out.below hb) k hlt
      have s1 := fun q => row_string (P := Tryz.prog) (w := wr.drewN q) 27 9 5 Tryz.underlying27 Tryz.underlying5 Tryz.underlying9 (show Row (wr.drewN q) wr.heap.size PA n (fun j => .int .u8 (z j)) from h5) pc
      have s2 := fun q => row_string (P := Tryz.prog) (w := wr.drewN q) 27 9 5 Tryz.underlying27 Tryz.underlying5 Tryz.underlying9 (show Row (wr.drewN q) wr.heap.size PA' n (fun j => .int .u8 (z' j)) from k5) pc'
      rw [← bytesOf_congr he] at s2
      have BB := Lib.hid hb
      have k0 : (0 : Int) ≤ (k : Int) := by omega
      have k1 : (k : Int) < (m : Int) := by omega
      clear h5 k5 he hb
      go_upto_region 6 with (fail)
      have hg : (ct != ct) = false := by simp
      go_quiet (fail)
      go_wp2
      go_roundw
      case rel => exact ⟨k + 1, by omega, by go_num, below_drewN BB.out _⟩
      case measure => simp [intOf]; omega
    · obtain rfl : k = m := by omega
      have BB := Lib.hid hb
      clear hb
      go_wp2
      go_ret
      exact ⟨rfl, BB.out⟩
set_option maxRecDepth 100000 in
set_option maxHeartbeats 1600000 in
theorem samel_true (A A' : Option Addr) (m c c' : Nat) (w : World) (hm : m ≤ maxLen) (h : SameB w A A' m) :
    Calls Tryz.prog 59 #[.slice A m c, .slice A' m c'] w fun e w' => e = .returned (.bool true) ∧ Below w.heap.size w w' := by
  unfold maxLen at hm
  have HS := Lib.hid h
  have hm' : (m : Int) ≤ 9223372036854775807 := by omega
  clear h
  go_enter Tryz.func59, Tryz.ntmps59
  go_wp2
  go_loopw [5] (fun v wr => ∃ k : Nat, k ≤ m ∧ v = .int .i64 k ∧ Below w.heap.size w wr) (fun v _ => m - (intOf v).toNat)
  case atStart => exact ⟨0, by omega, rfl, Below.refl _ _⟩
  case round =>
    obtain ⟨k, hk, rfl, hb⟩ := hrel
    by_cases hlt : k < m
    · obtain ⟨n, z, z', ⟨lb, lo, PA, pc, rfl, h2, h3, h5⟩, ⟨lb', lo', PA', pc', rfl, k2, k3, k5⟩, he⟩ := (HS.out.below hb) k hlt
      have s1 := fun q => row_string (P := Tryz.prog) (w := wr.drewN q) 27 9 5 Tryz.underlying27 Tryz.underlying5 Tryz.underlying9 (show Row (wr.drewN q) wr.heap.size PA n (fun j => .int .u8 (z j)) from h5) pc
      have s2 := fun q => row_string (P := Tryz.prog) (w := wr.drewN q) 27 9 5 Tryz.underlying27 Tryz.underlying5 Tryz.underlying9 (show Row (wr.drewN q) wr.heap.size PA' n (fun j => .int .u8 (z' j)) from k5) pc'
      rw [← bytesOf_congr he] at s2
      have BB := Lib.hid hb
      have k0 : (0 : Int) ≤ (k : Int) := by omega
      have k1 : (k : Int) < (m : Int) := by omega
      clear h5 k5 he hb
      go_upto_region 6 with (fail)
      go_quiet (fail)
      go_wp2
      go_roundw
      case rel => exact ⟨k + 1, by omega, by go_num, below_drewN BB.out _⟩
      case measure => simp [intOf]; omega
    · obtain rfl : k = m := by omega
      have BB := Lib.hid hb
      clear hb
      go_wp2
      go_ret
      exact ⟨rfl, BB.out⟩
set_option maxRecDepth 100000 in
set_option maxHeartbeats 1600000 in
theorem samef_true (nx : Int) (us : Bool) (A A' C C' : Option Addr) (m c c' mq d d' : Nat) (w : World) (hm : m ≤ maxLen) (hmq : mq ≤ maxLen) (h : SameC w A A' m) (h2 : SameB w C C' mq) :
    Calls Tryz.prog 25 #[.agg #[.int .u32 nx, .bool us, .slice A m c, .slice C mq d], .agg #[.int .u32 nx, .bool us, .slice A' m c', .slice C' mq d']] w fun e w' => e = .returned (.bool true) ∧ Below w.heap.size w w' := by
  have HC := Lib.hid (fun (V : World) (hb : Below w.heap.size w V) => samec_true A A' m c c' V hm (h.below hb))
  have HL := Lib.hid (fun (V : World) (hb : Below w.heap.size w V) => samel_true C C' mq d d' V hmq (h2.below hb))
  clear h h2 hm hmq
  go_enter Tryz.func25, Tryz.ntmps25
  go_upto_region 1 with (fail)
  refine wp_let (fun V => Blk V w.heap.size 36 #[.int .u32 nx, .bool us, .slice A m c, .slice C mq d] ∧ Blk V (w.heap.size + 1) 36 #[.int .u32 nx, .bool us, .slice A' m c', .slice C' mq d'] ∧ Below w.heap.size w V) ⟨(Blk.new _ _ _).alloc _, blk_atZ _ _ _ _ (by simp), ((Below.refl _ w).alloc (Nat.le_refl _) _).alloc (by simp) _⟩ ?_
  rintro W1 ⟨b1, b2, b3⟩
  obtain ⟨fa, hfa⟩ : ∃ fa, fa = w.heap.size := ⟨_, rfl⟩
  have B1 := Lib.hid b1
  have B2 := Lib.hid b2
  have B3 := Lib.hid b3
  have x0 := b1.cell 0
  have x1 := b1.cell 1
  have x2 := b1.cell 2
  have x3 := b1.cell 3
  have y0 := b2.cell 0
  have y1 := b2.cell 1
  have y2 := b2.cell 2
  have y3 := b2.cell 3
  simp at x0 x1 x2 x3 y0 y1 y2 y3
  clear b1 b2 b3 hfa
  go_wp2_with (first
    | (go_at_call 58; refine (HC.out _ B3.out).mono ?_; rintro e w2 ⟨rfl, hb⟩; have B4 := Lib.hid (B3.out.trans (hb.mono B3.out.size)); have P1 := B1.out.below hb B1.out.lt; have P2 := B2.out.below hb B2.out.lt; have u3 := P1.cell 3; have v3 := P2.cell 3; simp at u3 v3; clear hb P1 P2)
    | (go_at_call 59; refine (HL.out _ B4.out).mono ?_; rintro e w3 ⟨rfl, hb⟩; have B5 := Lib.hid (B4.out.trans (hb.mono B4.out.size)); clear hb))
  go_ret
  exact ⟨rfl, B5.out⟩
end Go.Proofs.YtiffminhlimajaaGreat
namespace Go.Proofs.YtiffminhlimajaaGreat
open Go.ChangeShapes Go.WideShapes Go.ChangeAt Go.RowKit

def valInt : Option Value → Int
  | some (.int _ a) => a
  | _ => 0
section
variable {H : Type} {enc : TypeId × Value → H} {w : World} {base : Nat} {spare : Nat → Bool} {held : Bool}
theorem open_b16 {fuel : Nat} {L : List Value} {x : DataW H × List MemPlace} (h : DataW.trod enc Tryz.prog w base spare held fuel 23 L = some x) :
    ∃ f : Nat → Int, (∀ j, j < 16 → L[j]? = some (.int .u8 (f j))) ∧ ∀ j, j < 16 → 0 ≤ f j ∧ f j < 256 := by
  obtain ⟨xs, m, _, _, _, hx, hel⟩ := DataW.trod_array Tryz.underlying23 h
  have c5 : Tryz.prog.cellsOf 5 = 1 := by kernel_rfl
  have key : ∀ j, j < 16 → ∃ a, L[j]? = some (.int .u8 a) ∧ 0 ≤ a ∧ a < 256 := fun j hj => by
    have h1 := hel j hj
    rw [c5, Nat.mul_one, List.getElem?_eq_getElem (by omega)] at h1
    obtain ⟨a, e, _, hw⟩ := DataW.trod_int Tryz.underlying5 h1
    have h2 := congrArg List.head? e
    simp [List.head?_take] at h2
    have hb := bounds_u8 hw
    exact ⟨a, h2, hb.1, by omega⟩
  refine ⟨fun j => valInt L[j]?, fun j hj => ?_, fun j hj => ?_⟩
  · obtain ⟨a, e, _⟩ := key j hj
    simp only [e, valInt]
  · obtain ⟨a, e, hb⟩ := key j hj
    simp only [e, valInt]
    exact hb
set_option maxRecDepth 100000 in
theorem open_cfg {r : Reach} {b0 : Nat} {v : Value} {d : DataW H} {p : List MemPlace}
    (hv : Value.okWide Tryz.prog w r b0 25 v) (h : DataW.Trod enc Tryz.prog w base spare held 25 v d p) : ∃ c : Cfg, v = .agg c.arr ∧ c.Ok := by
  obtain ⟨cs, rfl, hsz⟩ := okWide_struct Tryz.underlying25 hv
  have hc : Tryz.prog.cellsOf 25 = 39 := by kernel_rfl
  have h9 : cs.size = 39 := hsz.trans hc
  obtain ⟨fuel, hf⟩ := h
  obtain ⟨xs, n, _, _, _, hlen, hg⟩ := DataW.trod_struct Tryz.underlying25 hf
  have c3 : Tryz.prog.cellsOf 3 = 1 := by kernel_rfl
  have c22 : Tryz.prog.cellsOf 22 = 1 := by kernel_rfl
  have c4 : Tryz.prog.cellsOf 4 = 1 := by kernel_rfl
  have c16 : Tryz.prog.cellsOf 23 = 16 := by kernel_rfl
  have hx9 : xs.length = 9 := hlen
  have keyi : ∀ (i o : Nat) (ty : TypeId), Tryz.prog.underlying ty = some (.int .i64) → i < 9 → DataW.trod enc Tryz.prog w base spare held n ty (List.take 1 (List.drop o (Value.agg cs).cells.toList)) = xs[i]? → ∃ a, cs[o]? = some (Value.int .i64 a) := by
    intro i o ty hu hi h1
    rw [List.getElem?_eq_getElem (by omega)] at h1
    obtain ⟨a, e, _, _⟩ := DataW.trod_int hu h1
    refine ⟨a, ?_⟩
    have h2 := congrArg List.head? e
    simp [Value.cells, List.head?_take] at h2
    exact h2
  have keyb : ∀ (i o : Nat), i < 9 → DataW.trod enc Tryz.prog w base spare held n 4 (List.take 1 (List.drop o (Value.agg cs).cells.toList)) = xs[i]? → ∃ a, cs[o]? = some (Value.bool a) := by
    intro i o hi h1
    rw [List.getElem?_eq_getElem (by omega)] at h1
    obtain ⟨a, e, _⟩ := DataW.trod_bool Tryz.underlying4 h1
    refine ⟨a, ?_⟩
    have h2 := congrArg List.head? e
    simp [Value.cells, List.head?_take] at h2
    exact h2
  have keya : ∀ (i o : Nat), i < 9 → DataW.trod enc Tryz.prog w base spare held n 23 (List.take 16 (List.drop o (Value.agg cs).cells.toList)) = xs[i]? → ∃ f : Nat → Int, (∀ j, j < 16 → cs[o + j]? = some (.int .u8 (f j))) ∧ ∀ j, j < 16 → 0 ≤ f j ∧ f j < 256 := by
    intro i o hi h1
    rw [List.getElem?_eq_getElem (by omega)] at h1
    obtain ⟨f, e, hb⟩ := open_b16 h1
    refine ⟨f, fun j hj => ?_, hb⟩
    have := e j hj
    rw [List.getElem?_take, if_pos hj, List.getElem?_drop] at this
    simpa [Value.cells] using this
  obtain ⟨a0, e0⟩ := keyi 0 0 3 Tryz.underlying3 (by decide) (by have h1 : DataW.trod enc Tryz.prog w base spare held n 3 (List.take (Tryz.prog.cellsOf 3) (List.drop 0 (Value.agg cs).cells.toList)) = xs[0]? := hg 0 _ rfl; rwa [c3] at h1)
  obtain ⟨a1, e1⟩ := keyi 1 1 22 Tryz.underlying22 (by decide) (by have h1 : DataW.trod enc Tryz.prog w base spare held n 22 (List.take (Tryz.prog.cellsOf 22) (List.drop 1 (Value.agg cs).cells.toList)) = xs[1]? := hg 1 _ rfl; rwa [c22] at h1)
  obtain ⟨a2, e2, r2⟩ := keya 2 2 (by decide) (by have h1 : DataW.trod enc Tryz.prog w base spare held n 23 (List.take (Tryz.prog.cellsOf 23) (List.drop 2 (Value.agg cs).cells.toList)) = xs[2]? := hg 2 _ rfl; rwa [c16] at h1)
  obtain ⟨a3, e3, r3⟩ := keya 3 18 (by decide) (by have h1 : DataW.trod enc Tryz.prog w base spare held n 23 (List.take (Tryz.prog.cellsOf 23) (List.drop 18 (Value.agg cs).cells.toList)) = xs[3]? := hg 3 _ rfl; rwa [c16] at h1)
  obtain ⟨a4, e4⟩ := keyb 4 34 (by decide) (by have h1 : DataW.trod enc Tryz.prog w base spare held n 4 (List.take (Tryz.prog.cellsOf 4) (List.drop 34 (Value.agg cs).cells.toList)) = xs[4]? := hg 4 _ rfl; rwa [c4] at h1)
  obtain ⟨a5, e5⟩ := keyb 5 35 (by decide) (by have h1 : DataW.trod enc Tryz.prog w base spare held n 4 (List.take (Tryz.prog.cellsOf 4) (List.drop 35 (Value.agg cs).cells.toList)) = xs[5]? := hg 5 _ rfl; rwa [c4] at h1)
  obtain ⟨a6, e6⟩ := keyb 6 36 (by decide) (by have h1 : DataW.trod enc Tryz.prog w base spare held n 4 (List.take (Tryz.prog.cellsOf 4) (List.drop 36 (Value.agg cs).cells.toList)) = xs[6]? := hg 6 _ rfl; rwa [c4] at h1)
  obtain ⟨a7, e7⟩ := keyi 7 37 3 Tryz.underlying3 (by decide) (by have h1 : DataW.trod enc Tryz.prog w base spare held n 3 (List.take (Tryz.prog.cellsOf 3) (List.drop 37 (Value.agg cs).cells.toList)) = xs[7]? := hg 7 _ rfl; rwa [c3] at h1)
  obtain ⟨a8, e8⟩ := keyi 8 38 3 Tryz.underlying3 (by decide) (by have h1 : DataW.trod enc Tryz.prog w base spare held n 3 (List.take (Tryz.prog.cellsOf 3) (List.drop 38 (Value.agg cs).cells.toList)) = xs[8]? := hg 8 _ rfl; rwa [c3] at h1)
  obtain ⟨c, hcd⟩ : ∃ c : Cfg, c = ⟨a0, a1, a2, a3, a4, a5, a6, a7, a8⟩ := ⟨_, rfl⟩
  refine ⟨c, ?_, by rw [hcd]; exact ⟨r2, r3⟩⟩
  have : cs = c.arr := by
    apply Array.ext_getElem?
    intro i
    by_cases hi : i < 39
    · rw [c.arr_at hi, hcd]
      unfold Cfg.cell
      rcases (by omega : i = 0 ∨ i = 1 ∨ (2 ≤ i ∧ i < 18) ∨ (18 ≤ i ∧ i < 34) ∨ i = 34 ∨ i = 35 ∨ i = 36 ∨ i = 37 ∨ i = 38) with rfl | rfl | h | h | rfl | rfl | rfl | rfl | rfl
      · exact e0
      · exact e1
      · rw [if_neg (by omega), if_neg (by omega), if_pos (by omega)]
        have := e2 (i - 2) (by omega)
        rwa [show 2 + (i - 2) = i by omega] at this
      · rw [if_neg (by omega), if_neg (by omega), if_neg (by omega), if_pos (by omega)]
        have := e3 (i - 18) (by omega)
        rwa [show 18 + (i - 18) = i by omega] at this
      · exact e4
      · exact e5
      · exact e6
      · exact e7
      · exact e8
    · rw [Array.getElem?_eq_none (by omega), Array.getElem?_eq_none (by rw [c.arr_size]; omega)]
  rw [this]
end
end Go.Proofs.YtiffminhlimajaaGreat
namespace Go.Proofs.YtiffminhlimajaaGreat
open Go.RowKit
set_option linter.unusedVariables false
attribute [local go_sem ↓] Go.wp_at_zero Go.wp_at_succ

set_option maxRecDepth 100000 in
set_option maxHeartbeats 1600000 in
theorem rvalid45_ok (c : Cfg) (w : World) : Calls Tryz.prog 16 #[.agg c.arr] w fun e w' => e = .returned (.bool (decide c.Valid)) ∧ Below w.heap.size w w' := by
  have h0 : c.arr[0]? = some (.int .i64 c.b) := c.arr_at (by decide)
  have h1 : c.arr[1]? = some (.int .i64 c.d) := c.arr_at (by decide)
  have h2 : c.arr[37]? = some (.int .i64 c.ds) := c.arr_at (by decide)
  have h3 : c.arr[38]? = some (.int .i64 c.ro) := c.arr_at (by decide)
  have HV := Lib.hid (show c.Valid ↔ (0 ≤ c.b ∧ c.b ≤ 31 ∧ (c.d = 0 ∨ c.d = 1) ∧ 0 ≤ c.ds ∧ c.ds ≤ 1073741824 ∧ 0 ≤ c.ro ∧ c.ro ≤ 1073741824) from Iff.rfl)
  obtain ⟨V, hV⟩ : ∃ V, V = decide c.Valid := ⟨_, rfl⟩
  have HD := Lib.hid (show V = true ↔ c.Valid from by rw [hV]; exact decide_eq_true_iff)
  obtain ⟨Z, hZ⟩ : ∃ Z, Z = c.arr := ⟨_, rfl⟩
  rw [← hV]
  rw [← hZ] at h0 h1 h2 h3 ⊢
  obtain ⟨b, hb⟩ : ∃ b, b = c.b := ⟨_, rfl⟩
  obtain ⟨d, hd⟩ : ∃ d, d = c.d := ⟨_, rfl⟩
  obtain ⟨ds, hds⟩ : ∃ ds, ds = c.ds := ⟨_, rfl⟩
  obtain ⟨ro, hro⟩ : ∃ ro, ro = c.ro := ⟨_, rfl⟩
  rw [← hb] at h0 HV
  rw [← hd] at h1 HV
  rw [← hds] at h2 HV
  rw [← hro] at h3 HV
  clear hZ hV hb hd hds hro
  go_enter Tryz.func16, Tryz.ntmps16
  go_upto_region 1 with (fail)
  refine wp_let (fun W => Blk W w.heap.size 25 Z ∧ Below w.heap.size w W) ⟨Blk.new _ _ _, (Below.refl _ w).alloc (Nat.le_refl _) _⟩ ?_
  rintro W1 ⟨b1, b2⟩
  have x0 := (b1.cell 0).trans h0
  have x1 := (b1.cell 1).trans h1
  have x2 := (b1.cell 37).trans h2
  have x3 := (b1.cell 38).trans h3
  have HB := Lib.hid b2
  clear b1 b2 h0 h1 h2 h3
  have hout : ∀ r : Bool, (r = true ↔ (0 ≤ b ∧ b ≤ 31 ∧ (d = 0 ∨ d = 1) ∧ 0 ≤ ds ∧ ds ≤ 1073741824 ∧ 0 ≤ ro ∧ ro ≤ 1073741824)) → r = V := fun r hr => by
    rw [Bool.eq_iff_iff, hr, HD.out, HV.out]
  have HO := Lib.hid hout
  clear hout
  by_cases c0 : 0 ≤ b
  rotate_left
  · go_wp2
    go_ret
    exact ⟨ret_bool (HO.out _ ⟨fun h => (by cases h), fun h => (by omega)⟩), HB.out⟩
  by_cases c1 : b ≤ 31
  rotate_left
  · go_wp2
    go_ret
    exact ⟨ret_bool (HO.out _ ⟨fun h => (by cases h), fun h => (by omega)⟩), HB.out⟩
  by_cases c2 : d = 0 ∨ d = 1
  rotate_left
  · have d0 : (d == 0) = false := by simp; exact fun h => c2 (.inl h)
    have d1 : (d == 1) = false := by simp; exact fun h => c2 (.inr h)
    have HC2 := Lib.hid c2
    clear c2
    go_wp2
    go_ret
    exact ⟨ret_bool (HO.out _ ⟨fun h => (by cases h), fun h => (absurd h.2.2.1 HC2.out)⟩), HB.out⟩
  by_cases c3 : 0 ≤ ds
  rotate_left
  · rcases c2 with rfl | rfl
    · go_wp2
      go_ret
      exact ⟨ret_bool (HO.out _ ⟨fun h => (by cases h), fun h => (by omega)⟩), HB.out⟩
    · go_wp2
      go_ret
      exact ⟨ret_bool (HO.out _ ⟨fun h => (by cases h), fun h => (by omega)⟩), HB.out⟩
  by_cases c4 : ds ≤ 1073741824
  rotate_left
  · rcases c2 with rfl | rfl
    · go_wp2
      go_ret
      exact ⟨ret_bool (HO.out _ ⟨fun h => (by cases h), fun h => (by omega)⟩), HB.out⟩
    · go_wp2
      go_ret
      exact ⟨ret_bool (HO.out _ ⟨fun h => (by cases h), fun h => (by omega)⟩), HB.out⟩
  by_cases c5 : 0 ≤ ro
  rotate_left
  · rcases c2 with rfl | rfl
    · go_wp2
      go_ret
      exact ⟨ret_bool (HO.out _ ⟨fun h => (by cases h), fun h => (by omega)⟩), HB.out⟩
    · go_wp2
      go_ret
      exact ⟨ret_bool (HO.out _ ⟨fun h => (by cases h), fun h => (by omega)⟩), HB.out⟩
  by_cases c6 : ro ≤ 1073741824
  · rcases c2 with rfl | rfl
    · go_wp2
      go_ret
      exact ⟨ret_bool (HO.out _ ⟨fun h => ⟨by omega, by omega, by simp, by omega, by omega, by omega, by omega⟩, fun h => rfl⟩), HB.out⟩
    · go_wp2
      go_ret
      exact ⟨ret_bool (HO.out _ ⟨fun h => ⟨by omega, by omega, by simp, by omega, by omega, by omega, by omega⟩, fun h => rfl⟩), HB.out⟩
  · rcases c2 with rfl | rfl
    · go_wp2
      go_ret
      exact ⟨ret_bool (HO.out _ ⟨fun h => (by cases h), fun h => (by omega)⟩), HB.out⟩
    · go_wp2
      go_ret
      exact ⟨ret_bool (HO.out _ ⟨fun h => (by cases h), fun h => (by omega)⟩), HB.out⟩
theorem cells5 : Tryz.prog.cellsOf 5 = 1 := by kernel_rfl
theorem k_part (f : Nat → Int) (i : Nat) (hi : i < 16) (w : World) : (part 5 (kArr f) (i * 1)).run Tryz.prog w = .ok (.int .u8 (f i)) w := by
  obtain ⟨q, hq, _, hqs, _⟩ := info_parts Tryz.infoByte
  have h := kArr_at f i hi
  simp [part, Sem.run_bind, sizeOf, typeInfo, hq, hqs, h]
theorem k_items (f : Nat → Int) (d : Nat) : ∀ (is : List Nat) (_ : ∀ i, i ∈ is → i < 16) (w : World), (Op.eqItems (d + 1) 5 1 (kArr f) (kArr f) is).run Tryz.prog w = .ok true w
  | [], _, w => by simp [Op.eqItems]
  | i :: is, h, w => by
    simp only [Op.eqItems, Sem.run_bind, k_part f i (h i (by simp)) w, Result.andThen_ok]
    have hr := k_items f d is (fun j hj => h j (by simp [hj])) w
    simp [go_sem, hr]
theorem k_self (f : Nat → Int) (d : Nat) (w : World) : (Op.equalIn (d + 2) 23 (.agg (kArr f)) (.agg (kArr f))).run Tryz.prog w = .ok true w := by
  obtain ⟨q, hq, _⟩ := info_parts Tryz.infoByte
  rw [run_equalIn_array w (d + 1) (kArr f) (kArr f) Tryz.underlying23 hq, cells5, k_items f d (List.range 16) (fun i hi => by simpa using hi) w]
set_option maxRecDepth 100000 in
set_option maxHeartbeats 4000000 in
theorem cfg_self (c : Cfg) (w : World) : (binOp .eql 25 (.agg c.arr) (.agg c.arr)).run Tryz.prog w = .ok (.bool true) w := by
  have h1 := fun w => k_self c.key 9997 w
  have h2 := fun w => k_self c.code 9997 w
  rw [cfgLit_eq]
  unfold cfgLit
  simp only [kArr] at h1 h2
  simp [go_sem, h1, h2]
end Go.Proofs.YtiffminhlimajaaGreat
namespace Go.Proofs.YtiffminhlimajaaGreat
open Go.RowKit
set_option linter.unusedVariables false
attribute [local go_sem ↓] Go.wp_at_zero Go.wp_at_succ

/-- a transmitter of blocks that w0 had not -/
def Solo (w0 w : World) (g : Nat) (s : TS) : Prop := ∃ W R, TxI w g s W R ∧ (∀ k, W k → w0.heap.size ≤ k) ∧ Below w0.heap.size w0 w
section
variable {w0 w w' : World} {g : Nat} {s : TS}
theorem Solo.of_new {w1 : World} (hb : Below w0.heap.size w0 w1) (h : TxNewO w1 w g s) : Solo w0 w g s := by
  obtain ⟨W, R, h1, h2, h3, h4⟩ := h
  exact ⟨W, R, h1, fun k hk => Nat.le_trans hb.size (h2 k hk), hb.trans (h4.mono hb.size)⟩
theorem Solo.low (h : Solo w0 w g s) : Below w0.heap.size w0 w := by
  obtain ⟨W, R, h1, h2, h3⟩ := h
  exact h3
theorem Solo.below (h : Solo w0 w g s) (hb : Below w.heap.size w w') : Solo w0 w' g s := by
  obtain ⟨W, R, h1, h2, h3⟩ := h
  exact ⟨W, R, h1.below hb, h2, h3.trans (hb.mono h3.size)⟩
theorem Solo.call (h : Solo w0 w g s) : ∃ W R, TxI w g s W R ∧ (∀ k, W k → w0.heap.size ≤ k) ∧ ∀ w' s', TxO W R w w' g s' → Solo w0 w' g s' := by
  obtain ⟨W, R, h1, h2, h3⟩ := h
  refine ⟨W, R, h1, h2, fun w' s' hO => ?_⟩
  obtain ⟨W', R', hI, hW, hR, hK⟩ := hO
  have hs := h3.size
  exact ⟨W', R', hI, fun k hk => by
    rcases hW k hk with h | h
    · exact h2 k h
    · omega, KeepF.below h3 hK (fun k hk => h2 k hk) hs⟩
/-- Next of such a transmitter -/
theorem solo_next (h : Solo w0 w g s) (hf : s.Fine) (hig : s.C.ig = false) (hcm : s.C.cm = false) (hpl : s.P.length ≤ 1000000) (t : Int) (ht1 : -9223372036854775808 ≤ t) (ht2 : t ≤ 9223372036854775807) :
    Calls Tryz.prog 18 #[.pointer (some ⟨g, 0, none⟩), .int .i64 t] w fun e w' => ∃ A c, e = .returned (.tuple #[.slice A (s.send t).n c, .int .u32 (s.send t).ct, .int .i64 (s.send t).e]) ∧ (s.send t).n ≤ c ∧ Row w' w'.heap.size A (s.send t).n (fun j => .int .u8 (((s.send t).z j : Nat) : Int)) ∧ Solo w0 w' g (s.send t).s := by
  obtain ⟨W, R, hI, hW, hc⟩ := h.call
  refine (tNext_ok g s W R w hI hf t ht1 ht2 (builds_plain g s.C hf.ok hf.val hig hcm) hpl).mono ?_
  rintro e w' ⟨A, c, W', R', h1, h2, h3, h4, h5, h6, h7, h8⟩
  exact ⟨A, c, h1, h2, h3, hc w' _ ⟨W', R', h4, h5, h6, h7⟩⟩
theorem solo_confirm (h : Solo w0 w g s) (x : Int) (i : Nat) (e0 : PV) (he : s.P[i]? = some e0) (hx : e0.ct = x) (hno : ∀ j, j < i → ∀ e, s.P[j]? = some e → e.ct ≠ x) :
    Calls Tryz.prog 20 #[.pointer (some ⟨g, 0, none⟩), .int .u32 x] w fun e w' => e = .returned (.int .i64 0) ∧ Solo w0 w' g { s with P := s.P.eraseIdx i } := by
  obtain ⟨W, R, hI, hW, hc⟩ := h.call
  exact (tconfirm_ok g s W R w hI x i e0 he hx hno).mono fun e w' ⟨h1, h2⟩ => ⟨h1, hc w' _ h2⟩
theorem solo_confirm_no (h : Solo w0 w g s) (x : Int) (hno : ∀ e, e ∈ s.P → e.ct ≠ x) :
    Calls Tryz.prog 20 #[.pointer (some ⟨g, 0, none⟩), .int .u32 x] w fun e w' => e = .returned (.int .i64 10) ∧ Solo w0 w' g s := by
  obtain ⟨W, R, hI, hW, hc⟩ := h.call
  exact (tconfirm_no g s W R w hI x hno).mono fun e w' ⟨h1, h2⟩ => ⟨h1, h.below h2⟩
end
def cf1 : Cfg := { Cfg.zero with ac := true }
theorem cf1_lit : cf1.arr = #[.int .i64 0, .int .i64 0, .int .u8 0, .int .u8 0, .int .u8 0, .int .u8 0, .int .u8 0, .int .u8 0, .int .u8 0, .int .u8 0, .int .u8 0, .int .u8 0, .int .u8 0, .int .u8 0, .int .u8 0, .int .u8 0, .int .u8 0, .int .u8 0, .int .u8 0, .int .u8 0, .int .u8 0, .int .u8 0, .int .u8 0, .int .u8 0, .int .u8 0, .int .u8 0, .int .u8 0, .int .u8 0, .int .u8 0, .int .u8 0, .int .u8 0, .int .u8 0, .int .u8 0, .int .u8 0, .bool false, .bool false, .bool true, .int .i64 0, .int .i64 0] := by kernel_rfl
theorem cf1_ok : cf1.Ok := ⟨fun _ _ => ⟨Int.le_refl 0, by show (0 : Int) < 256; decide⟩, fun _ _ => ⟨Int.le_refl 0, by show (0 : Int) < 256; decide⟩⟩
theorem cf1_valid : cf1.Valid := by unfold cf1 Cfg.zero Cfg.Valid; decide
/-- the states of PdcptxWindow -/
def wS0 (nx fi : Int) (z y0 y1 : Nat → Int) : TS := ⟨cf1, 0, nx, [⟨1, y0, 0⟩, ⟨1, y1, 0⟩], [⟨fi, 1, z, true⟩], [kArr cf1.key], cNew⟩
def wS1 (nx fi : Int) (z y0 y1 : Nat → Int) : TS := { wS0 nx fi z y0 y1 with P := [⟨fi, 1, z, false⟩] }
def wS2 (nx fi : Int) (z y0 y1 : Nat → Int) : TS := { wS0 nx fi z y0 y1 with Q := [⟨1, y1, 0⟩], next := nx + 1, P := [⟨fi, 1, z, false⟩, ⟨nx, 1, y0, false⟩] }
theorem fine_of {s : TS} (h : s.C = cf1) (hq : ∀ q, q ∈ s.Q → q.at_ = 0) (hn : 0 ≤ s.now) : s.Fine := ⟨by rw [h]; exact cf1_ok, by rw [h]; exact cf1_valid, fun q h2 => by rw [hq q h2]; exact ⟨Int.le_refl _, hn⟩⟩
theorem tick0 {s : TS} (h : s.C.ds = 0) (hn : s.now = 0) : s.tick 0 = s := by
  rw [TS.tick_zero h, hn]
  have : max (0 : Int) 0 = s.now := by rw [hn]; rfl
  rw [this]
section
variable {nx fi : Int} {z y0 y1 : Nat → Int}
theorem w_send0 : (wS0 nx fi z y0 y1).send 0 = ⟨pduN cf1 1, pduZ cf1 fi.toNat 1 (nf z), fi, 0, wS1 nx fi z y0 y1⟩ := by
  unfold TS.send
  rw [if_neg (by decide), tick0 rfl rfl]
  rfl
theorem w_send1_full (h1 : nx ≠ 4294967296) (h : 2048 ≤ (nx - fi) % 18446744073709551616) : (wS1 nx fi z y0 y1).send 0 = ⟨0, zB, 0, 7, wS1 nx fi z y0 y1⟩ := by
  unfold TS.send
  rw [if_neg (by decide), tick0 rfl rfl]
  show (if nx = 4294967296 then _ else if decide (2048 ≤ (nx - fi) % 18446744073709551616) = true then _ else _) = _
  rw [if_neg h1, if_pos (decide_eq_true h)]
theorem w_send1 (h1 : nx ≠ 4294967296) (h : ¬ 2048 ≤ (nx - fi) % 18446744073709551616) : (wS1 nx fi z y0 y1).send 0 = ⟨pduN cf1 1, pduZ cf1 nx.toNat 1 (nf y0), nx, 0, wS2 nx fi z y0 y1⟩ := by
  unfold TS.send
  rw [if_neg (by decide), tick0 rfl rfl]
  show (if nx = 4294967296 then _ else if decide (2048 ≤ (nx - fi) % 18446744073709551616) = true then _ else _) = _
  rw [if_neg h1, if_neg (by rw [decide_eq_false h]; decide)]
  rfl
theorem w_send2_full (h1 : nx ≠ 4294967296) : (({ wS1 nx fi z y0 y1 with P := [] } : TS).send 0).e = 0 := by
  unfold TS.send
  rw [if_neg (by decide), tick0 rfl rfl]
  show (if nx = 4294967296 then _ else _ : NX).e = 0
  rw [if_neg h1]
  rfl
theorem w_send2 (h1 : nx + 1 ≠ 4294967296) : (({ wS2 nx fi z y0 y1 with P := [⟨nx, 1, y0, false⟩] } : TS).send 0).e = 0 := by
  unfold TS.send
  rw [if_neg (by decide), tick0 rfl rfl]
  show (if nx + 1 = 4294967296 then _ else if decide (2048 ≤ (nx + 1 - nx) % 18446744073709551616) = true then _ else _ : NX).e = 0
  rw [if_neg h1, show nx + 1 - nx = 1 by omega]
  rfl
end
end Go.Proofs.YtiffminhlimajaaGreat
namespace Go.Proofs.YtiffminhlimajaaGreat
open Go.RowKit
set_option linter.unusedVariables false
attribute [local go_sem ↓] Go.wp_at_zero Go.wp_at_succ
theorem alloc_at (W : World) (o : Obj) (k : Nat) (hk : k = W.heap.size) : (W.alloc o).heap[k]? = some o := by subst hk; exact heap_alloc_new W o
theorem row_cell {V : World} {b j : Nat} {C : Array Value} {t : TypeId} {fr : Nat × Nat} (h : V.heap[b]? = some (.cells C t fr)) : V.cell? ⟨b, j, none⟩ = C[j]? := cell_of_row V b j C t fr h
/-- the state that PdcptxWindow lays -/
structure WinM (w V : World) (N : Nat) (nx fi : Int) : Prop where
  cn : Cnts V (some ⟨N + 1, 0, none⟩) 1 (fun _ => fi) (fun _ => some ⟨N, 0, none⟩) (fun _ => 1) (fun _ => 1) (fun _ _ => 97)
  br : BRows V (some ⟨N + 4, 0, none⟩) 2 (fun k => some ⟨N + 2 + k, 0, none⟩) (fun _ => 1) (fun _ => 1) (fun k _ => if k = 0 then 98 else 99)
  f0 : V.cell? ⟨N + 5, 0, none⟩ = some (.int .u32 nx)
  f1 : V.cell? ⟨N + 5, 1, none⟩ = some (.bool false)
  f2 : V.cell? ⟨N + 5, 2, none⟩ = some (.slice (some ⟨N + 1, 0, none⟩) 1 1)
  f3 : V.cell? ⟨N + 5, 3, none⟩ = some (.slice (some ⟨N + 4, 0, none⟩) 2 2)
  low : Below w.heap.size w V
theorem win_mem (w : World) (fi nx : Int) (hfi : 0 ≤ fi ∧ fi < 4294967296) (fr1 fr2 fr3 : Nat × Nat) :
    WinM w ((((((w.alloc (.cells #[.int .u8 97] 5 fr1)).alloc (.cells #[.int .u32 fi, .slice (some ⟨w.heap.size, 0, none⟩) 1 1] 47)).alloc (.cells #[.int .u8 98] 5 fr2)).alloc (.cells #[.int .u8 99] 5 fr3)).alloc (.cells #[.slice (some ⟨w.heap.size + 2, 0, none⟩) 1 1, .slice (some ⟨w.heap.size + 3, 0, none⟩) 1 1] 27)).alloc (.cells #[.int .u32 nx, .bool false, .slice (some ⟨w.heap.size + 1, 0, none⟩) 1 1, .slice (some ⟨w.heap.size + 4, 0, none⟩) 2 2] 36)) w.heap.size nx fi := by
  obtain ⟨V, hV⟩ : ∃ V, V = ((((((w.alloc (.cells #[.int .u8 97] 5 fr1)).alloc (.cells #[.int .u32 fi, .slice (some ⟨w.heap.size, 0, none⟩) 1 1] 47)).alloc (.cells #[.int .u8 98] 5 fr2)).alloc (.cells #[.int .u8 99] 5 fr3)).alloc (.cells #[.slice (some ⟨w.heap.size + 2, 0, none⟩) 1 1, .slice (some ⟨w.heap.size + 3, 0, none⟩) 1 1] 27)).alloc (.cells #[.int .u32 nx, .bool false, .slice (some ⟨w.heap.size + 1, 0, none⟩) 1 1, .slice (some ⟨w.heap.size + 4, 0, none⟩) 2 2] 36)) := ⟨_, rfl⟩
  have hs : V.heap.size = w.heap.size + 6 := by rw [hV]; simp
  have h0 : V.heap[w.heap.size]? = some (.cells #[.int .u8 97] 5 fr1) := by rw [hV, Below.heap_alloc _ _ _ (by simp only [World.size_alloc]; omega), Below.heap_alloc _ _ _ (by simp only [World.size_alloc]; omega), Below.heap_alloc _ _ _ (by simp only [World.size_alloc]; omega), Below.heap_alloc _ _ _ (by simp only [World.size_alloc]; omega), Below.heap_alloc _ _ _ (by simp only [World.size_alloc]; omega)]; exact alloc_at _ _ _ (by first | rfl | (simp only [World.size_alloc]; done) | (simp only [World.size_alloc]; omega))
  have h1 : V.heap[w.heap.size + 1]? = some (.cells #[.int .u32 fi, .slice (some ⟨w.heap.size, 0, none⟩) 1 1] 47) := by rw [hV, Below.heap_alloc _ _ _ (by simp only [World.size_alloc]; omega), Below.heap_alloc _ _ _ (by simp only [World.size_alloc]; omega), Below.heap_alloc _ _ _ (by simp only [World.size_alloc]; omega), Below.heap_alloc _ _ _ (by simp only [World.size_alloc]; omega)]; exact alloc_at _ _ _ (by first | rfl | (simp only [World.size_alloc]; done) | (simp only [World.size_alloc]; omega))
  have h2 : V.heap[w.heap.size + 2]? = some (.cells #[.int .u8 98] 5 fr2) := by rw [hV, Below.heap_alloc _ _ _ (by simp only [World.size_alloc]; omega), Below.heap_alloc _ _ _ (by simp only [World.size_alloc]; omega), Below.heap_alloc _ _ _ (by simp only [World.size_alloc]; omega)]; exact alloc_at _ _ _ (by first | rfl | (simp only [World.size_alloc]; done) | (simp only [World.size_alloc]; omega))
  have h3 : V.heap[w.heap.size + 3]? = some (.cells #[.int .u8 99] 5 fr3) := by rw [hV, Below.heap_alloc _ _ _ (by simp only [World.size_alloc]; omega), Below.heap_alloc _ _ _ (by simp only [World.size_alloc]; omega)]; exact alloc_at _ _ _ (by first | rfl | (simp only [World.size_alloc]; done) | (simp only [World.size_alloc]; omega))
  have h4 : V.heap[w.heap.size + 4]? = some (.cells #[.slice (some ⟨w.heap.size + 2, 0, none⟩) 1 1, .slice (some ⟨w.heap.size + 3, 0, none⟩) 1 1] 27) := by rw [hV, Below.heap_alloc _ _ _ (by simp only [World.size_alloc]; omega)]; exact alloc_at _ _ _ (by first | rfl | (simp only [World.size_alloc]; done) | (simp only [World.size_alloc]; omega))
  have h5 : V.heap[w.heap.size + 5]? = some (.cells #[.int .u32 nx, .bool false, .slice (some ⟨w.heap.size + 1, 0, none⟩) 1 1, .slice (some ⟨w.heap.size + 4, 0, none⟩) 2 2] 36) := by rw [hV]; exact alloc_at _ _ _ (by first | rfl | (simp only [World.size_alloc]; done) | (simp only [World.size_alloc]; omega))
  have hb : Below w.heap.size w V := by
    rw [hV]
    exact ((((((Below.refl _ w).alloc (Nat.le_refl _) _).alloc (by simp only [World.size_alloc]; omega) _).alloc (by simp only [World.size_alloc]; omega) _).alloc (by simp only [World.size_alloc]; omega) _).alloc (by simp only [World.size_alloc]; omega) _).alloc (by simp only [World.size_alloc]; omega) _
  rw [← hV]
  refine ⟨⟨fun _ => ⟨w.heap.size + 1, 0, rfl, by omega, fun k hk => ?_⟩, fun _ _ => hfi, fun _ _ => by decide, fun _ _ => Nat.le_refl _, fun _ _ _ _ => by decide, fun k hk hn => ⟨w.heap.size, 0, rfl, by omega, fun j hj => ?_⟩⟩,
    ⟨fun _ => ⟨w.heap.size + 4, 0, rfl, by omega, fun k hk => ?_⟩, fun _ _ => by decide, fun _ _ => Nat.le_refl _, fun k _ _ _ => ?_, fun k hk hn => ⟨w.heap.size + 2 + k, 0, rfl, by omega, fun j hj => ?_⟩⟩, ?_, ?_, ?_, ?_, hb⟩
  · obtain rfl : k = 0 := by omega
    exact ⟨row_cell h1, row_cell h1⟩
  · obtain rfl : j = 0 := by omega
    exact row_cell h0
  · rcases (by omega : k = 0 ∨ k = 1) with rfl | rfl
    · exact row_cell h4
    · exact row_cell h4
  · show 0 ≤ (if k = 0 then (98 : Int) else 99) ∧ (if k = 0 then (98 : Int) else 99) < 256
    split <;> decide
  · obtain rfl : j = 0 := by omega
    rcases (by omega : k = 0 ∨ k = 1) with rfl | rfl
    · exact row_cell h2
    · exact row_cell h3
  · exact row_cell h5
  · exact row_cell h5
  · exact row_cell h5
  · exact row_cell h5
set_option maxRecDepth 100000 in
set_option maxHeartbeats 3200000 in
theorem window_walk (fi fa : Int) (hfi : 0 ≤ fi ∧ fi < 4294967296) (hfa : -9223372036854775808 ≤ fa ∧ fa ≤ 9223372036854775807) (w : World) : Calls Tryz.prog 4 #[.int .u32 fi, .int .i64 fa] w fun e w' => e = .returned (.bool true) ∧ Below w.heap.size w w' := by
  have HKN := Lib.hid (fun V => known45_true V)
  obtain ⟨hfi1, hfi2⟩ := hfi
  obtain ⟨hfa1, hfa2⟩ := hfa
  by_cases g1 : fa < 1
  · go_enter Tryz.func4, Tryz.ntmps4
    go_wp2_with (go_at_call 17; with_reducible refine (HKN.out _).mono ?_; rintro e w9 ⟨rfl, hB⟩; have E9 := Lib.hid hB; clear hB)
    go_ret
    exact ⟨rfl, E9.out⟩
  by_cases g2 : 2100 < fa
  · go_enter Tryz.func4, Tryz.ntmps4
    go_wp2_with (go_at_call 17; with_reducible refine (HKN.out _).mono ?_; rintro e w9 ⟨rfl, hB⟩; have E9 := Lib.hid hB; clear hB)
    go_ret
    exact ⟨rfl, E9.out⟩
  have a0 : 0 ≤ fa := by omega
  have a1 : fa < 4294967296 := by omega
  have a2 : fa < 18446744073709551616 := by omega
  have a3 : fi + fa < 18446744073709551616 := by omega
  by_cases g3 : 4294967295 ≤ fi + fa
  · go_enter Tryz.func4, Tryz.ntmps4
    go_wp2_with (go_at_call 17; with_reducible refine (HKN.out _).mono ?_; rintro e w9 ⟨rfl, hB⟩; have E9 := Lib.hid hB; clear hB)
    go_ret
    exact ⟨rfl, E9.out⟩
  have kc := fun (w : World) (C : Array Value) (n c : Nat) => Lib.run_convert_bytes_const (P := Tryz.prog) w 27 5 C n c Tryz.underlying27 Tryz.underlying5
  have kc2 := fun (w : World) (C : Array Value) (n c g : Nat) (hg : g = w.heap.size) => Joins.run_convert_bytes_const_at (P := Tryz.prog) w 27 5 C n c g hg Tryz.underlying27 Tryz.underlying5
  have a4 : fi + fa < 4294967296 := by omega
  go_enter Tryz.func4, Tryz.ntmps4
  go_upto_region 4 with (fail)
  obtain ⟨N, hN⟩ : ∃ N, N = w.heap.size := ⟨_, rfl⟩
  refine wp_let (fun V => WinM w V N (fi + fa) fi) (by rw [hN]; exact win_mem w fi (fi + fa) ⟨hfi1, hfi2⟩ _ _ _) ?_
  intro V hM
  rw [← hN]
  have HM := Lib.hid hM
  have x0 : V.cell? ⟨N + 1 + 1 + 1 + 1 + 1, 0, none⟩ = some (.int .u32 (fi + fa)) := hM.f0
  have x1 : V.cell? ⟨N + 1 + 1 + 1 + 1 + 1, 1, none⟩ = some (.bool false) := hM.f1
  have x2 : V.cell? ⟨N + 1 + 1 + 1 + 1 + 1, 2, none⟩ = some (.slice (some ⟨N + 1, 0, none⟩) 1 1) := hM.f2
  have x3 : V.cell? ⟨N + 1 + 1 + 1 + 1 + 1, 3, none⟩ = some (.slice (some ⟨N + 4, 0, none⟩) 2 2) := hM.f3
  clear hM hN kc kc2
  have hnx0 : 0 ≤ fi + fa := by omega
  by_cases g4 : 2048 < fa
  · have HR := Lib.hid (tresume_no cf1 (some ⟨N + 1, 0, none⟩) (some ⟨N + 4, 0, none⟩) 1 1 2 2 (fi + fa) false (fun _ => fi) (fun _ => some ⟨N, 0, none⟩) (fun _ => 1) (fun _ => 1) (fun _ _ => 97) (fun k => some ⟨N + 2 + k, 0, none⟩) (fun _ => 1) (fun _ => 1) (fun k _ => if k = 0 then 98 else 99) V ⟨hnx0, a4⟩ (by decide) (by decide) HM.out.cn HM.out.br (fun h => by
      have h2 := h.2.window (by decide)
      simp only [nextOf] at h2
      have h3 : fi + fa - fi ≤ 2048 := h2
      omega))
    rw [cf1_lit] at HR
    go_wp2_with (first
      | (go_at_call 15; with_reducible refine (HR.out).mono ?_; rintro e w2 ⟨rfl, hB⟩; have E2 := Lib.hid (HM.out.low.trans (hB.mono HM.out.low.size)); clear hB)
      | (go_at_call 17; with_reducible refine (HKN.out _).mono ?_; rintro e w10 ⟨rfl, hB⟩; have E9 := Lib.hid hB; clear hB))
    go_ret
    exact ⟨rfl, E2.out.trans (E9.out.mono E2.out.size)⟩
  obtain ⟨z, hz⟩ : ∃ z : Nat → Int, z = fun _ => 97 := ⟨_, rfl⟩
  obtain ⟨y0, hy0⟩ : ∃ y0 : Nat → Int, y0 = fun _ => if 0 = 0 then 98 else 99 := ⟨_, rfl⟩
  obtain ⟨y1, hy1⟩ : ∃ y1 : Nat → Int, y1 = fun _ => if 1 = 0 then 98 else 99 := ⟨_, rfl⟩
  obtain ⟨nx, hnx⟩ : ∃ nx, nx = fi + fa := ⟨_, rfl⟩
  have HR : Hid (Calls Tryz.prog 15 #[.agg cf1.arr, .agg #[.int .u32 (fi + fa), .bool false, .slice (some ⟨N + 1, 0, none⟩) 1 1, .slice (some ⟨N + 4, 0, none⟩) 2 2]] V fun e w' => ∃ g, e = .returned (.tuple #[.pointer (some ⟨g, 0, none⟩), .int .i64 0]) ∧ Solo w w' g (wS0 nx fi z y0 y1)) := Lib.hid ((tresume_ok cf1 (some ⟨N + 1, 0, none⟩) (some ⟨N + 4, 0, none⟩) 1 1 2 2 (fi + fa) false (fun _ => fi) (fun _ => some ⟨N, 0, none⟩) (fun _ => 1) (fun _ => 1) (fun _ _ => 97) (fun k => some ⟨N + 2 + k, 0, none⟩) (fun _ => 1) (fun _ => 1) (fun k _ => if k = 0 then 98 else 99) V ⟨hnx0, a4⟩ (by decide) (by decide) HM.out.cn HM.out.br cf1_valid ⟨fun h => absurd h (by decide), fun _ => rfl, fun k hk => ⟨rfl, by show fi < fi + fa; omega, fun h => by omega⟩, fun _ => by show fi + fa - fi ≤ 2048; omega, fun _ _ => rfl⟩).mono (by
    rintro e w' ⟨g, W, R, rfl, hI, hW, hR, hB⟩
    have hl := HM.out.low
    refine ⟨g, rfl, W, R, ?_, fun k hk => Nat.le_trans hl.size (hW k hk), hl.trans (hB.mono hl.size)⟩
    rw [hz, hy0, hy1, hnx]
    exact hI))
  rw [cf1_lit] at HR
  have HNX := Lib.hid hnx
  clear hz hy0 hy1 hnx
  have hne : nx ≠ 4294967296 := by rw [HNX.out]; omega
  have hne1 : nx + 1 ≠ 4294967296 := by rw [HNX.out]; omega
  have HNE := Lib.hid hne
  have HNE1 := Lib.hid hne1
  clear hne hne1
  go_upto_region 9 with (go_at_call 15; with_reducible refine (HR.out).mono ?_; rintro e w4 ⟨g, rfl, hS⟩; have S4 := Lib.hid hS; clear hS)
  have HX1 := Lib.hid (solo_next S4.out (fine_of rfl (fun q hq => by rcases List.mem_cons.1 hq with rfl | hq; rfl; rcases List.mem_cons.1 hq with rfl | hq; rfl; cases hq) (Int.le_refl _)) rfl rfl (by decide : 1 ≤ 1000000) 0 (by decide) (by decide))
  rw [w_send0] at HX1
  go_upto_region 10 with (go_at_call 18; with_reducible refine (HX1.out).mono ?_; rintro e w5 ⟨A, c, he, _, _, hS⟩; subst he; have S5 := Lib.hid hS; clear hS)
  by_cases g5 : fa = 2048
  · have HX2 := Lib.hid (solo_next S5.out (fine_of rfl (fun q hq => by rcases List.mem_cons.1 hq with rfl | hq; rfl; rcases List.mem_cons.1 hq with rfl | hq; rfl; cases hq) (Int.le_refl _)) rfl rfl (by decide : 1 ≤ 1000000) 0 (by decide) (by decide))
    rw [w_send1_full HNE.out (by rw [HNX.out]; omega)] at HX2
    go_upto_region 11 with (go_at_call 18; with_reducible refine (HX2.out).mono ?_; rintro e w6 ⟨A, c, he, _, _, hS⟩; subst he; have S6 := Lib.hid hS; clear hS)
    have HC1 := Lib.hid (solo_confirm S6.out fi 0 ⟨fi, 1, z, false⟩ rfl rfl (fun j hj => absurd hj (by omega)))
    have HNC : Hid (∀ e, e ∈ (wS1 nx fi z y0 y1).P.eraseIdx 0 → e.ct ≠ fi) := Lib.hid (fun e he => absurd (show e ∈ ([] : List PV) from he) List.not_mem_nil)
    go_upto_region 15 with (first
      | (go_at_call 20; with_reducible refine (HC2.out).mono ?_; rintro e w8 ⟨rfl, hS⟩; have S8 := Lib.hid hS; clear hS)
      | (go_at_call 20; with_reducible refine (HC1.out).mono ?_; rintro e w7 ⟨rfl, hS⟩; have HC2 := Lib.hid (solo_confirm_no hS fi HNC.out); clear hS))
    have HX3 := Lib.hid (solo_next (s := { wS1 nx fi z y0 y1 with P := [] }) S8.out (fine_of rfl (fun q hq => by rcases List.mem_cons.1 hq with rfl | hq; rfl; rcases List.mem_cons.1 hq with rfl | hq; rfl; cases hq) (Int.le_refl _)) rfl rfl (by decide : 0 ≤ 1000000) 0 (by decide) (by decide))
    rw [w_send2_full HNE.out] at HX3
    go_wp2_with (first
      | (go_at_call 18; with_reducible refine (HX3.out).mono ?_; rintro e w9 ⟨A, c, he, _, _, hS⟩; subst he; have S9 := Lib.hid hS; clear hS)
      | (go_at_call 17; with_reducible refine (HKN.out _).mono ?_; rintro e w10 ⟨rfl, hB⟩; have E9 := Lib.hid hB; clear hB))
    go_ret
    have h9 := S9.out.low
    exact ⟨rfl, h9.trans (E9.out.mono h9.size)⟩
  · have HX2 := Lib.hid (solo_next S5.out (fine_of rfl (fun q hq => by rcases List.mem_cons.1 hq with rfl | hq; rfl; rcases List.mem_cons.1 hq with rfl | hq; rfl; cases hq) (Int.le_refl _)) rfl rfl (by decide : 1 ≤ 1000000) 0 (by decide) (by decide))
    rw [w_send1 HNE.out (by rw [HNX.out]; omega), HNX.out] at HX2
    have g6 : fa < 2048 := by omega
    go_upto_region 11 with (go_at_call 18; with_reducible refine (HX2.out).mono ?_; rintro e w6 ⟨A, c, he, _, _, hS⟩; subst he; have S6 := Lib.hid hS; clear hS)
    have HC1 := Lib.hid (solo_confirm S6.out fi 0 ⟨fi, 1, z, false⟩ rfl rfl (fun j hj => absurd hj (by omega)))
    have HNC : Hid (∀ e, e ∈ (wS2 (fi + fa) fi z y0 y1).P.eraseIdx 0 → e.ct ≠ fi) := Lib.hid (fun e he => by
      have h1 : e = ⟨fi + fa, 1, y0, false⟩ := List.mem_singleton.1 (show e ∈ [(⟨fi + fa, 1, y0, false⟩ : PV)] from he)
      rw [h1]
      show fi + fa ≠ fi
      omega)
    go_upto_region 15 with (first
      | (go_at_call 20; with_reducible refine (HC2.out).mono ?_; rintro e w8 ⟨rfl, hS⟩; have S8 := Lib.hid hS; clear hS)
      | (go_at_call 20; with_reducible refine (HC1.out).mono ?_; rintro e w7 ⟨rfl, hS⟩; have HC2 := Lib.hid (solo_confirm_no hS fi HNC.out); clear hS))
    have HX3 := Lib.hid (solo_next (s := { wS2 (fi + fa) fi z y0 y1 with P := [⟨fi + fa, 1, y0, false⟩] }) S8.out (fine_of rfl (fun q hq => by rcases List.mem_cons.1 hq with rfl | hq; rfl; cases hq) (Int.le_refl _)) rfl rfl (by decide : 1 ≤ 1000000) 0 (by decide) (by decide))
    rw [w_send2 (by rw [← HNX.out]; exact HNE1.out)] at HX3
    go_wp2_with (first
      | (go_at_call 18; with_reducible refine (HX3.out).mono ?_; rintro e w9 ⟨A, c, he, _, _, hS⟩; subst he; have S9 := Lib.hid hS; clear hS)
      | (go_at_call 17; with_reducible refine (HKN.out _).mono ?_; rintro e w10 ⟨rfl, hB⟩; have E9 := Lib.hid hB; clear hB))
    go_ret
    have h9 := S9.out.low
    exact ⟨rfl, h9.trans (E9.out.mono h9.size)⟩
end Go.Proofs.YtiffminhlimajaaGreat
namespace Go.Proofs.YtiffminhlimajaaGreat
open Go.RowKit
set_option linter.unusedVariables false
attribute [local go_sem ↓] Go.wp_at_zero Go.wp_at_succ

section
variable {w0 w w' : World} {g : Nat} {s : TS}
/-- Submit of one byte -/
theorem solo_sub1 (h : Solo w0 w g s) (hf : s.Fine) (hcm : s.C.cm = false) (hql : s.Q.length ≤ 1000000) (t : Int) (ht1 : -9223372036854775808 ≤ t) (ht2 : t ≤ 9223372036854775807) (v : Int) (hv : 0 ≤ v ∧ v < 256) :
    Calls Tryz.prog 22 #[.pointer (some ⟨g, 0, none⟩), .int .i64 t, .slice (some ⟨w.heap.size, 0, none⟩) 1 1] (w.alloc (.cells #[.int .u8 v] 5)) fun e w' => e = .returned (.int .i64 (s.submit t 1 (fun _ => v)).1) ∧ Solo w0 w' g (s.submit t 1 (fun _ => v)).2 := by
  obtain ⟨W, R, hI, hW, hc⟩ := h.call
  have hb : Below w.heap.size w (w.alloc (.cells #[.int .u8 v] 5)) := (Below.refl _ _).alloc (Nat.le_refl _) _
  have hB : Blk (w.alloc (.cells #[.int .u8 v] 5)) w.heap.size 5 #[.int .u8 v] := Blk.new _ _ _
  refine (tsubmit_ok g s W R _ (hI.below hb) hf hcm hql t ht1 ht2 (some ⟨w.heap.size, 0, none⟩) 1 1 (fun _ => v) ⟨fun _ => ⟨_, _, rfl, by simp, fun j hj => ?_⟩, fun j hj => hv, fun a ha _ hw => ?_⟩ (by decide)).mono ?_
  · obtain rfl : j = 0 := by omega
    rw [Nat.zero_add, hB.cell]
    rfl
  · cases ha
    have := hI.win _ hw
    exact absurd this (Nat.lt_irrefl _)
  · rintro e w' ⟨he, hO⟩
    exact ⟨he, hc _ _ (TxO.comp (fun _ h => .inl h) (fun _ h => .inl h) (KeepF.of_below hb) hO)⟩
theorem solo_queued (h : Solo w0 w g s) : Calls Tryz.prog 23 #[.pointer (some ⟨g, 0, none⟩)] w fun e w' => e = .returned (.int .i64 (s.Q.length : Nat)) ∧ w = w' := by
  obtain ⟨W, R, ⟨qA, qc, lq, pA, pc, lp, ub, cb, hT⟩, _⟩ := h
  have c1 := hT.cq
  have hl : (s.Q.length : Nat) = lq.length := by rw [← hT.qv, List.length_map]
  rw [hl]
  obtain ⟨n, hn⟩ : ∃ n, n = lq.length := ⟨_, rfl⟩
  rw [← hn] at c1 ⊢
  clear hT hl hn
  go_enter Tryz.func23, Tryz.ntmps23
  go_wp2
  go_ret
  exact ⟨rfl, rfl⟩
theorem solo_export (h : Solo w0 w g s) (hn : s.P.length ≤ 1000000 ∧ s.Q.length ≤ 1000000) :
    Calls Tryz.prog 24 #[.pointer (some ⟨g, 0, none⟩)] w fun e w' => ∃ pA pn pc qA qn qc, e = .returned (.agg #[.int .u32 (s.next % 4294967296), .bool (decide (s.next = 4294967296)), .slice pA pn pc, .slice qA qn qc]) ∧ Solo w0 w' g s ∧ Below w.heap.size w w' := by
  obtain ⟨W, R, hI, hW, hc⟩ := h.call
  refine (texport_ok g s W R w hI hn).mono ?_
  rintro e w' ⟨pA, pc, lp, qA, qc, lq, he, hF, hB⟩
  exact ⟨pA, _, pc, qA, _, qc, he, h.below hB, hB⟩
end
def cfE (ac : Bool) : Cfg := { Cfg.zero with ac := ac }
theorem cfE_lit (ac : Bool) : (cfE ac).arr = #[.int .i64 0, .int .i64 0, .int .u8 0, .int .u8 0, .int .u8 0, .int .u8 0, .int .u8 0, .int .u8 0, .int .u8 0, .int .u8 0, .int .u8 0, .int .u8 0, .int .u8 0, .int .u8 0, .int .u8 0, .int .u8 0, .int .u8 0, .int .u8 0, .int .u8 0, .int .u8 0, .int .u8 0, .int .u8 0, .int .u8 0, .int .u8 0, .int .u8 0, .int .u8 0, .int .u8 0, .int .u8 0, .int .u8 0, .int .u8 0, .int .u8 0, .int .u8 0, .int .u8 0, .int .u8 0, .bool false, .bool false, .bool ac, .int .i64 0, .int .i64 0] := by kernel_rfl
theorem cfE_ok (ac : Bool) : (cfE ac).Ok := ⟨fun _ _ => ⟨Int.le_refl 0, by show (0 : Int) < 256; decide⟩, fun _ _ => ⟨Int.le_refl 0, by show (0 : Int) < 256; decide⟩⟩
theorem cfE_valid (ac : Bool) : (cfE ac).Valid := by
  show (0 : Int) ≤ 0 ∧ (0 : Int) ≤ 31 ∧ ((0 : Int) = 0 ∨ (0 : Int) = 1) ∧ (0 : Int) ≤ 0 ∧ (0 : Int) ≤ 1073741824 ∧ (0 : Int) ≤ 0 ∧ (0 : Int) ≤ 1073741824
  decide
theorem fineE {ac : Bool} {s : TS} (h : s.C = cfE ac) (hq : ∀ q, q ∈ s.Q → q.at_ = 0) (hn : s.now = 0) : s.Fine := ⟨by rw [h]; exact cfE_ok ac, by rw [h]; exact cfE_valid ac, fun q h2 => by rw [hq q h2, hn]; exact ⟨Int.le_refl _, Int.le_refl _⟩⟩
/-- the packets; what is pending -/
def eq1 (k : Nat) : QV := ⟨1, fun _ => (k : Int), 0⟩
def eP (N0 : Int) (j : Nat) : PV := ⟨N0 + j, 1, fun _ => (j : Int), false⟩
def eS (ac : Bool) (N0 : Int) (i : Nat) : TS := ⟨cfE ac, 0, N0, (List.range i).map eq1, [], [kArr (cfE ac).key], cNew⟩
def nS (ac : Bool) (N0 : Int) (m k : Nat) : TS := ⟨cfE ac, 0, N0 + k, ((List.range m).map eq1).drop k, if ac = true then (List.range k).map (eP N0) else [], [kArr (cfE ac).key], cNew⟩
theorem eS_fine (ac : Bool) (N0 : Int) (i : Nat) : (eS ac N0 i).Fine := fineE rfl (fun q hq => by
  obtain ⟨k, _, rfl⟩ := List.mem_map.1 hq
  rfl) rfl
theorem nS_fine (ac : Bool) (N0 : Int) (m k : Nat) : (nS ac N0 m k).Fine := fineE rfl (fun q hq => by
  obtain ⟨k, _, rfl⟩ := List.mem_map.1 (List.mem_of_mem_drop hq)
  rfl) rfl
theorem eS_submit (ac : Bool) (N0 : Int) (i : Nat) : (eS ac N0 i).submit 0 1 (fun _ => (i : Int)) = (0, eS ac N0 (i + 1)) := by
  unfold TS.submit
  rw [if_neg (by decide), if_neg (by decide), if_neg (by decide), tick0 rfl rfl]
  unfold eS
  rw [List.range_succ, List.map_append]
  rfl
theorem eS_nS (ac : Bool) (N0 : Int) (m : Nat) : eS ac N0 m = nS ac N0 m 0 := by
  unfold eS nS
  simp
theorem nS_rep (ac : Bool) (N0 : Int) (m k : Nat) : firstRep (nS ac N0 m k).P = none := firstRep_no (fun e he => by
  unfold nS at he
  dsimp only at he
  split at he
  · obtain ⟨j, _, rfl⟩ := List.mem_map.1 he
    rfl
  · cases he)
theorem nS_Q (ac : Bool) (N0 : Int) (m k : Nat) (hk : k < m) : (nS ac N0 m k).Q = eq1 k :: ((List.range m).map eq1).drop (k + 1) := by
  unfold nS
  dsimp only
  rw [List.drop_eq_getElem_cons (by simpa using hk)]
  simp
theorem nS_full (ac : Bool) (N0 : Int) (m k : Nat) (hk : k ≤ 100) : (nS ac N0 m k).full = false := by
  unfold TS.full nS
  dsimp only
  cases ac
  · rfl
  · rw [if_pos rfl]
    cases k with
    | zero => rfl
    | succ k =>
      rw [List.range_succ_eq_map, List.map_cons]
      show decide (2048 ≤ (N0 + ((k + 1 : Nat) : Int) - (N0 + ((0 : Nat) : Int))) % 18446744073709551616) = false
      exact decide_eq_false (by omega)
theorem nS_next (ac : Bool) (N0 : Int) (m k : Nat) : (nS ac N0 m k).next = N0 + k := rfl
theorem nS_send (ac : Bool) (N0 : Int) (m k : Nat) (hk : k < m) (hk2 : k ≤ 100) (hn : N0 + k ≠ 4294967296) : ((nS ac N0 m k).send 0).e = 0 ∧ ((nS ac N0 m k).send 0).ct = N0 + k ∧ ((nS ac N0 m k).send 0).s = nS ac N0 m (k + 1) := by
  have hs : (nS ac N0 m k).send 0 = ⟨pduN (cfE ac) 1, pduZ (cfE ac) (N0 + k).toNat 1 (nf (eq1 k).z), N0 + k, 0, nS ac N0 m (k + 1)⟩ := by
    unfold TS.send
    rw [if_neg (by decide), nS_rep, tick0 rfl rfl]
    dsimp only
    rw [nS_Q ac N0 m k hk]
    dsimp only
    rw [nS_next, if_neg hn, nS_full ac N0 m k hk2, if_neg (by decide)]
    unfold nS
    dsimp only
    rw [List.range_succ, List.map_append]
    cases ac
    · simp [Int.add_assoc, cfE, eq1]
    · simp [Int.add_assoc, cfE, eq1, eP]
  rw [hs]
  exact ⟨rfl, rfl, rfl⟩
theorem nS_used (ac : Bool) (N0 : Int) (m k : Nat) (hk : k < m) (hn : N0 + k = 4294967296) : (nS ac N0 m k).send 0 = ⟨0, zB, 0, 460, nS ac N0 m k⟩ := by
  unfold TS.send
  rw [if_neg (by decide), nS_rep, tick0 rfl rfl]
  dsimp only
  rw [nS_Q ac N0 m k hk]
  dsimp only
  rw [nS_next, if_pos hn]
set_option maxRecDepth 100000 in
set_option maxHeartbeats 3200000 in
theorem ends_walk (le pk : Int) (ac : Bool) (hle : -9223372036854775808 ≤ le ∧ le ≤ 9223372036854775807) (hpk : -9223372036854775808 ≤ pk ∧ pk ≤ 9223372036854775807) (w : World) : Calls Tryz.prog 8 #[.int .i64 le, .int .i64 pk, .bool ac] w fun e w' => e = .returned (.bool true) ∧ Below w.heap.size w w' := by
  have HKN := Lib.hid (fun V => known45_true V)
  obtain ⟨hl1, hl2⟩ := hle
  obtain ⟨hp1, hp2⟩ := hpk
  by_cases g1 : le < 0
  · go_enter Tryz.func8, Tryz.ntmps8
    go_wp2_with (go_at_call 17; with_reducible refine (HKN.out _).mono ?_; rintro e w9 ⟨rfl, hB⟩; have E9 := Lib.hid hB; clear hB)
    go_ret
    exact ⟨rfl, E9.out⟩
  by_cases g2 : 20 < le
  · go_enter Tryz.func8, Tryz.ntmps8
    go_wp2_with (go_at_call 17; with_reducible refine (HKN.out _).mono ?_; rintro e w9 ⟨rfl, hB⟩; have E9 := Lib.hid hB; clear hB)
    go_ret
    exact ⟨rfl, E9.out⟩
  by_cases g3 : pk < 0
  · go_enter Tryz.func8, Tryz.ntmps8
    go_wp2_with (go_at_call 17; with_reducible refine (HKN.out _).mono ?_; rintro e w9 ⟨rfl, hB⟩; have E9 := Lib.hid hB; clear hB)
    go_ret
    exact ⟨rfl, E9.out⟩
  by_cases g4 : 30 < pk
  · go_enter Tryz.func8, Tryz.ntmps8
    go_wp2_with (go_at_call 17; with_reducible refine (HKN.out _).mono ?_; rintro e w9 ⟨rfl, hB⟩; have E9 := Lib.hid hB; clear hB)
    go_ret
    exact ⟨rfl, E9.out⟩
  obtain ⟨L, rfl⟩ : ∃ L : Nat, le = (L : Int) := ⟨le.toNat, by omega⟩
  obtain ⟨M, rfl⟩ : ∃ M : Nat, pk = (M : Int) := ⟨pk.toNat, by omega⟩
  have HL : Hid (L ≤ 20) := Lib.hid (by omega)
  have HM : Hid (M ≤ 30) := Lib.hid (by omega)
  have hl3 : (L : Int) < 18446744073709551616 := by omega
  have hl4 : (0 : Int) ≤ (L : Int) := by omega
  have hl5 : (0 : Int) ≤ 4294967296 - (L : Int) := by omega
  have hl6 : 4294967296 - (L : Int) < 18446744073709551616 := by omega
  go_enter Tryz.func8, Tryz.ntmps8
  go_upto_region 4 with (fail)
  obtain ⟨nx, hnx⟩ : ∃ nx, nx = -(L : Int) % 4294967296 := ⟨_, rfl⟩
  obtain ⟨us, hus⟩ : ∃ us, us = ((L : Int) == 0) := ⟨_, rfl⟩
  obtain ⟨N0, hN0⟩ : ∃ N0, N0 = 4294967296 - (L : Int) := ⟨_, rfl⟩
  have HN0 := Lib.hid hN0
  have hnx0 : 0 ≤ nx ∧ nx < 4294967296 := by rw [hnx]; omega
  have HNU : Hid (nextOf nx us = N0 ∧ (us = true → nx = 0)) := Lib.hid (by
    rw [hnx, hus, hN0]
    unfold nextOf
    rcases Nat.eq_zero_or_pos L with h0 | h0
    · subst h0
      exact ⟨rfl, fun _ => rfl⟩
    · have hb : ((L : Int) == 0) = false := by simp; omega
      rw [hb, if_neg (by decide)]
      exact ⟨by omega, fun h => by cases h⟩)
  obtain ⟨fb, hfb⟩ : ∃ fb, fb = w.heap.size := ⟨_, rfl⟩
  refine wp_let (fun V => Blk V fb 36 #[.int .u32 nx, .bool us, .slice none 0 0, .slice none 0 0] ∧ Below w.heap.size w V) (by rw [hfb, hnx, hus]; exact ⟨Blk.new _ _ _, (Below.refl _ w).alloc (Nat.le_refl _) _⟩) ?_
  rintro V ⟨v1, v2⟩
  have x0 := v1.cell 0
  have x1 := v1.cell 1
  have x2 := v1.cell 2
  have x3 := v1.cell 3
  simp only [List.getElem?_toArray, List.getElem?_cons_zero, List.getElem?_cons_succ] at x0 x1 x2 x3
  have D1 := Lib.hid v2
  have HR : Hid (Calls Tryz.prog 15 #[.agg (cfE ac).arr, .agg #[.int .u32 nx, .bool us, .slice none 0 0, .slice none 0 0]] V fun e w' => ∃ g, e = .returned (.tuple #[.pointer (some ⟨g, 0, none⟩), .int .i64 0]) ∧ Solo w w' g (eS ac N0 0)) := Lib.hid ((tresume_ok (cfE ac) none none 0 0 0 0 nx us (fun _ => 0) (fun _ => none) (fun _ => 0) (fun _ => 0) (fun _ _ => 0) (fun _ => none) (fun _ => 0) (fun _ => 0) (fun _ _ => 0) V hnx0 (by omega) (by omega) (Cnts.empty V) (BRows.empty V) (cfE_valid ac) ⟨HNU.out.2, fun h => absurd h (by omega), fun k hk => absurd hk (by omega), fun h => absurd h (by omega), fun k hk => absurd hk (by omega)⟩).mono (by
    rintro e w' ⟨g, W, R, rfl, hI, hW, hR, hB⟩
    have hl := D1.out
    refine ⟨g, rfl, W, R, ?_, fun k hk => Nat.le_trans hl.size (hW k hk), hl.trans (hB.mono hl.size)⟩
    rw [HNU.out.1] at hI
    exact hI))
  rw [cfE_lit] at HR
  rw [← hfb, ← hnx, ← hus]
  clear v1 v2 hnx hus hN0 hfb
  go_wp2_with (go_at_call 15; with_reducible refine (HR.out).mono ?_; rintro e w4 ⟨g, rfl, hS⟩; have S4 := Lib.hid hS; clear hS)
  go_loopw [10] (fun v wr => ∃ i : Nat, i ≤ M ∧ v = .int .i64 i ∧ Solo w wr g (eS ac N0 i)) (fun v _ => M - (intOf v).toNat)
  case atStart => exact ⟨0, by omega, rfl, S4.out⟩
  case round =>
    obtain ⟨i, hi, rfl, hS⟩ := hrel
    have SI := Lib.hid hS
    clear hS
    by_cases hlt : i < M
    · have i0 : (0 : Int) ≤ (i : Int) := by omega
      have i1 : (i : Int) < 256 := by have := HM.out; omega
      have i2 : (i : Int) < (M : Int) := by omega
      have HSB := Lib.hid (solo_sub1 SI.out (eS_fine ac N0 i) rfl (by unfold eS; dsimp only; rw [List.length_map, List.length_range]; have := HM.out; omega) 0 (by decide) (by decide) (i : Int) ⟨i0, i1⟩)
      rw [eS_submit] at HSB
      go_wp2_with (go_at_call 22; with_reducible refine (HSB.out).mono ?_; rintro e w5 ⟨rfl, hS⟩; have S5 := Lib.hid hS; clear hS)
      go_roundw
      case rel => first | exact ⟨i + 1, by omega, by go_num, S5.out⟩ | (((repeat apply Exists.intro); refine ⟨?_, rfl⟩); exact ⟨i + 1, by omega, by go_num, S5.out⟩)
      case measure => simp [intOf]; omega
    · obtain rfl : i = M := by omega
      go_wp2
      have SN := Lib.hid (eS_nS ac N0 i ▸ SI.out)
      go_loopw [11] (fun v wq => ∃ k : Nat, k ≤ i ∧ v = .int .i64 k ∧ Solo w wq g (nS ac N0 i (min k L))) (fun v _ => i - (intOf v).toNat)
      case atStart => exact ⟨0, by omega, rfl, by rw [Nat.zero_min]; exact SN.out⟩
      case round =>
        obtain ⟨k, hk, rfl, hS⟩ := hrel
        have SK := Lib.hid hS
        clear hS SI SN
        by_cases hlk : k < i
        · have k0 : (0 : Int) ≤ (k : Int) := by omega
          have k2 : (k : Int) < (i : Int) := by omega
          have HX := Lib.hid (solo_next SK.out (nS_fine ac N0 i (min k L)) rfl rfl (by
            unfold nS
            dsimp only
            split
            · rw [List.length_map, List.length_range]; have := HL.out; omega
            · exact Nat.zero_le _) 0 (by decide) (by decide))
          by_cases hkL : k < L
          · have k3 : (k : Int) < (L : Int) := by omega
            have hmn : min k L = k := by omega
            rw [hmn] at HX
            have hsd := nS_send ac N0 i k hlk (by have := HM.out; omega) (by rw [HN0.out]; omega)
            rw [hsd.1, hsd.2.1, hsd.2.2] at HX
            obtain ⟨x, hx⟩ : ∃ x, x = N0 + (k : Int) := ⟨_, rfl⟩
            rw [← hx] at HX
            have k4 : (0 : Int) ≤ (L : Int) - (k : Int) := by omega
            have k5 : (L : Int) - (k : Int) < 18446744073709551616 := by omega
            have k6 : (0 : Int) ≤ x := by rw [hx, HN0.out]; omega
            have k7 : x < 18446744073709551616 := by rw [hx, HN0.out]; omega
            obtain ⟨d, hd⟩ : ∃ d, d = (L : Int) - (k : Int) := ⟨_, rfl⟩
            have kd : (L : Int) - (k : Int) = d := hd.symm
            have k8 : x = 4294967296 - d := by rw [hd, hx, HN0.out]; omega
            have kc1 : (0 : Int) ≤ 4294967296 - d := by omega
            have kc2 : 4294967296 - d < 18446744073709551616 := by omega
            have k9 : (0 : Int) ≤ d := by omega
            have ka : d < 18446744073709551616 := by omega
            have HKX := Lib.hid hx
            subst k8
            clear hx hd
            clear hsd
            have hkb : (k : Int) < 256 := by have := HM.out; omega
            clear hmn hi hl5 hl6 hl1 hl2 hl3 hl4 hnx0 g1 g2 g3 g4 hk hp1 hp2
            go_wp2_with (go_at_call 18; with_reducible refine (HX.out).mono ?_; rintro e w6 ⟨A, c, he, _, _, hS⟩; subst he; have S6 := Lib.hid hS; clear hS)
            go_roundw
            case rel => first | exact ⟨k + 1, by omega, by go_num, by rw [show min (k + 1) L = k + 1 by omega]; exact S6.out⟩ | (((repeat apply Exists.intro); refine ⟨?_, rfl⟩); exact ⟨k + 1, by omega, by go_num, by rw [show min (k + 1) L = k + 1 by omega]; exact S6.out⟩)
            case measure => simp [intOf]; omega
          · have k3 : ¬ (k : Int) < (L : Int) := by omega
            have hmn : min k L = L := by omega
            rw [hmn, nS_used ac N0 i L (by omega) (by rw [HN0.out]; omega)] at HX
            have k4 : (L : Int) ≤ (k : Int) := by omega
            have hkb : (k : Int) < 256 := by have := HM.out; omega
            clear hmn hi hl5 hl6 hl1 hl2 hl3 hl4 hnx0 g1 g2 g3 g4 hk hp1 hp2
            go_wp2_with (go_at_call 18; with_reducible refine (HX.out).mono ?_; rintro e w6 ⟨A, c, he, _, _, hS⟩; subst he; have S6 := Lib.hid hS; clear hS)
            go_roundw
            case rel => first | exact ⟨k + 1, by omega, by go_num, by rw [show min (k + 1) L = L by omega]; exact S6.out⟩ | (((repeat apply Exists.intro); refine ⟨?_, rfl⟩); exact ⟨k + 1, by omega, by go_num, by rw [show min (k + 1) L = L by omega]; exact S6.out⟩)
            case measure => simp [intOf]; omega
        · obtain rfl : k = i := by omega
          by_cases hLk : L ≤ k
          · rw [show min k L = L by omega] at SK
            have HEX := Lib.hid (solo_export SK.out (by
              constructor
              · unfold nS
                dsimp only
                split
                · rw [List.length_map, List.length_range]; have := HM.out; omega
                · exact Nat.zero_le _
              · unfold nS
                dsimp only
                rw [List.length_drop, List.length_map, List.length_range]; have := HM.out; omega))
            rw [nS_next, show decide (N0 + ((L : Nat) : Int) = 4294967296) = true from decide_eq_true (by rw [HN0.out]; omega)] at HEX
            have HQL : Hid ((nS ac N0 k L).Q.length = k - L) := Lib.hid (by unfold nS; dsimp only; rw [List.length_drop, List.length_map, List.length_range])
            obtain ⟨nx2, hnx2⟩ : ∃ nx2, nx2 = (N0 + ((L : Nat) : Int)) % 4294967296 := ⟨_, rfl⟩
            rw [← hnx2] at HEX
            clear hnx2
            have f1 : (((k - L : Nat) : Nat) : Int) = (k : Int) - (L : Int) := by omega
            have f2 : (0 : Int) ≤ (k : Int) - (L : Int) := by omega
            have f3 : (L : Int) ≤ (k : Int) := by omega
            have f4 : ¬ (k : Int) - (L : Int) < 0 := by omega
            have f5 : (k : Int) - (L : Int) ≤ 9223372036854775807 := by have := HM.out; omega
            have f6 : -9223372036854775808 ≤ (k : Int) - (L : Int) := by omega
            go_wp2_with (first
              | (go_at_call 24; with_reducible refine (HEX.out).mono ?_; rintro e w7 ⟨pA, pn, pc, qA, qn, qc, rfl, hS, hB⟩; have S7 := Lib.hid (hS.below ((Below.refl _ w7).alloc (Nat.le_refl _) (.cells #[.int .u32 nx2, .bool true, .slice pA pn pc, .slice qA qn qc] 36))); have HQ7 := Lib.hid (HQL.out ▸ solo_queued S7.out); clear hS hB)
              | (go_at_call 23; with_reducible refine (HQ7.out).mono ?_; rintro e w8 ⟨rfl, rfl⟩)
              | (go_at_call 17; with_reducible refine (HKN.out _).mono ?_; rintro e w9 ⟨rfl, hB⟩; have E9 := Lib.hid hB; clear hB))
            go_ret
            have h7 := S7.out.low
            exact ⟨rfl, h7.trans (E9.out.mono h7.size)⟩
          · rw [show min k L = k by omega] at SK
            have HEX := Lib.hid (solo_export SK.out (by
              constructor
              · unfold nS
                dsimp only
                split
                · rw [List.length_map, List.length_range]; have := HM.out; omega
                · exact Nat.zero_le _
              · unfold nS
                dsimp only
                rw [List.length_drop, List.length_map, List.length_range]; have := HM.out; omega))
            rw [nS_next, show decide (N0 + ((k : Nat) : Int) = 4294967296) = false from decide_eq_false (by rw [HN0.out]; omega)] at HEX
            have HQL : Hid ((nS ac N0 k k).Q.length = 0) := Lib.hid (by unfold nS; dsimp only; rw [List.length_drop, List.length_map, List.length_range]; omega)
            obtain ⟨nx2, hnx2⟩ : ∃ nx2, nx2 = (N0 + ((k : Nat) : Int)) % 4294967296 := ⟨_, rfl⟩
            rw [← hnx2] at HEX
            clear hnx2
            have f3 : ¬ (L : Int) ≤ (k : Int) := by omega
            have f4 : (k : Int) - (L : Int) < 0 := by omega
            have f5 : (k : Int) - (L : Int) ≤ 9223372036854775807 := by omega
            have f6 : -9223372036854775808 ≤ (k : Int) - (L : Int) := by have := HL.out; omega
            go_wp2_with (first
              | (go_at_call 24; with_reducible refine (HEX.out).mono ?_; rintro e w7 ⟨pA, pn, pc, qA, qn, qc, rfl, hS, hB⟩; have S7 := Lib.hid (hS.below ((Below.refl _ w7).alloc (Nat.le_refl _) (.cells #[.int .u32 nx2, .bool false, .slice pA pn pc, .slice qA qn qc] 36))); have HQ7 := Lib.hid (HQL.out ▸ solo_queued S7.out); clear hS hB)
              | (go_at_call 23; with_reducible refine (HQ7.out).mono ?_; rintro e w8 ⟨rfl, rfl⟩)
              | (go_at_call 17; with_reducible refine (HKN.out _).mono ?_; rintro e w9 ⟨rfl, hB⟩; have E9 := Lib.hid hB; clear hB))
            go_ret
            have h7 := S7.out.low
            exact ⟨rfl, h7.trans (E9.out.mono h7.size)⟩
end Go.Proofs.YtiffminhlimajaaGreat
namespace Go.Proofs.YtiffminhlimajaaGreat
open Go.RowKit
set_option linter.unusedVariables false
attribute [local go_sem ↓] Go.wp_at_zero Go.wp_at_succ

def cfX (ds : Int) : Cfg := { Cfg.zero with ds := ds }
theorem cfX_lit (ds : Int) : (cfX ds).arr = #[.int .i64 0, .int .i64 0, .int .u8 0, .int .u8 0, .int .u8 0, .int .u8 0, .int .u8 0, .int .u8 0, .int .u8 0, .int .u8 0, .int .u8 0, .int .u8 0, .int .u8 0, .int .u8 0, .int .u8 0, .int .u8 0, .int .u8 0, .int .u8 0, .int .u8 0, .int .u8 0, .int .u8 0, .int .u8 0, .int .u8 0, .int .u8 0, .int .u8 0, .int .u8 0, .int .u8 0, .int .u8 0, .int .u8 0, .int .u8 0, .int .u8 0, .int .u8 0, .int .u8 0, .int .u8 0, .bool false, .bool false, .bool false, .int .i64 ds, .int .i64 0] := by kernel_rfl
theorem cfX_ok (ds : Int) : (cfX ds).Ok := ⟨fun _ _ => ⟨Int.le_refl 0, by show (0 : Int) < 256; decide⟩, fun _ _ => ⟨Int.le_refl 0, by show (0 : Int) < 256; decide⟩⟩
theorem cfX_valid {ds : Int} (h : 0 ≤ ds ∧ ds ≤ 1000) : (cfX ds).Valid := by
  show (0 : Int) ≤ 0 ∧ (0 : Int) ≤ 31 ∧ ((0 : Int) = 0 ∨ (0 : Int) = 1) ∧ (0 : Int) ≤ ds ∧ ds ≤ 1073741824 ∧ (0 : Int) ≤ 0 ∧ (0 : Int) ≤ 1073741824
  omega
/-- the time behind i submissions -/
def exT (T : Nat → Int) : Nat → Int
  | 0 => 0
  | i + 1 => max (exT T i) (T i)
theorem exT_rng {T : Nat → Int} : ∀ {i : Nat}, (∀ j, j < i → 0 ≤ T j ∧ T j ≤ 5000) → 0 ≤ exT T i ∧ exT T i ≤ 5000
  | 0, _ => ⟨Int.le_refl _, by show (0 : Int) ≤ 5000; decide⟩
  | i + 1, h => by
    have h1 := exT_rng (T := T) (i := i) (fun j hj => h j (by omega))
    have h2 := h i (by omega)
    show 0 ≤ max (exT T i) (T i) ∧ max (exT T i) (T i) ≤ 5000
    omega
theorem exT_mono (T : Nat → Int) : ∀ {i j : Nat}, i ≤ j → exT T i ≤ exT T j
  | i, 0, h => by obtain rfl : i = 0 := by omega
                  exact Int.le_refl _
  | i, j + 1, h => by
    rcases Nat.lt_or_ge i (j + 1) with h1 | h1
    · have := exT_mono T (i := i) (j := j) (by omega)
      show exT T i ≤ max (exT T j) (T j)
      omega
    · obtain rfl : i = j + 1 := by omega
      exact Int.le_refl _
def exQ (T : Nat → Int) (j : Nat) : QV := ⟨1, fun _ => (j : Int), exT T (j + 1)⟩
def exA (T : Nat → Int) (n : Nat) : List QV := (List.range n).map (exQ T)
def gn (ds N : Int) (q : QV) : Bool := decide (0 < ds) && decide (ds ≤ N - q.at_)
theorem gn_mono {ds N M : Int} (h : N ≤ M) {q : QV} (hq : gn ds M q = false) : gn ds N q = false := by
  unfold gn at hq ⊢
  simp only [Bool.and_eq_false_iff, decide_eq_false_iff_not] at hq ⊢
  rcases hq with hq | hq
  · exact .inl hq
  · exact .inr (by omega)
theorem filt_filt {ds N M : Int} (h : N ≤ M) (l : List QV) : (l.filter fun q => !gn ds N q).filter (fun q => !gn ds M q) = l.filter fun q => !gn ds M q := by
  rw [List.filter_filter]
  refine List.filter_congr (fun q _ => ?_)
  cases hm : gn ds M q
  · rw [gn_mono h hm]; rfl
  · rfl
def xS (ds : Int) (T : Nat → Int) (i : Nat) : TS := ⟨cfX ds, exT T i, 0, (exA T i).filter fun q => !gn ds (exT T i) q, [], [kArr (cfX ds).key], cNew⟩
def zS (ds N : Int) (F : List QV) (c : Nat) : TS := ⟨cfX ds, N, (c : Int), F.drop c, [], [kArr (cfX ds).key], cNew⟩
theorem xS_fine {ds : Int} (h : 0 ≤ ds ∧ ds ≤ 1000) {T : Nat → Int} {i : Nat} (hT : ∀ j, j < i → 0 ≤ T j ∧ T j ≤ 5000) : (xS ds T i).Fine := ⟨cfX_ok ds, cfX_valid h, fun q hq => by
  obtain ⟨j, hj, rfl⟩ := List.mem_map.1 (List.mem_filter.1 hq).1
  have hj : j < i := by simpa using hj
  exact ⟨(exT_rng (i := j + 1) (fun k hk => hT k (by omega))).1, exT_mono T (by omega)⟩⟩
theorem xS_submit {ds : Int} (h : 0 ≤ ds ∧ ds ≤ 1000) {T : Nat → Int} {i : Nat} (hT : 0 ≤ T i ∧ T i ≤ 5000) : (xS ds T i).submit (T i) 1 (fun _ => (i : Int)) = (0, xS ds T (i + 1)) := by
  unfold TS.submit
  rw [if_neg (by omega), if_neg (by decide), if_neg (by decide)]
  have hq : ((xS ds T i).tick (T i)).Q ++ [⟨1, fun _ => (i : Int), max (exT T i) (T i)⟩] = (xS ds T (i + 1)).Q := by
    show ((exA T i).filter fun q => !gn ds (exT T i) q).filter (fun q => !gn ds (exT T (i + 1)) q) ++ [exQ T i] = (exA T (i + 1)).filter fun q => !gn ds (exT T (i + 1)) q
    rw [filt_filt (exT_mono T (by omega)), show exA T (i + 1) = exA T i ++ [exQ T i] by unfold exA; rw [List.range_succ, List.map_append]; rfl, List.filter_append]
    have hg : gn ds (exT T (i + 1)) (exQ T i) = false := by
      unfold gn exQ
      simp only [Bool.and_eq_false_iff, decide_eq_false_iff_not]
      by_cases h0 : 0 < ds
      · exact .inr (by omega)
      · exact .inl h0
    simp [hg]
  show (0, ({ (xS ds T i).tick (T i) with Q := ((xS ds T i).tick (T i)).Q ++ [⟨1, fun _ => (i : Int), max (exT T i) (T i)⟩] } : TS)) = (0, xS ds T (i + 1))
  rw [hq]
  rfl
/-- the packets that are left at the end; how many of the first i -/
def exF (ds N : Int) (T : Nat → Int) (n : Nat) : List QV := (exA T n).filter fun q => !gn ds N q
def kept (ds N : Int) (T : Nat → Int) (i : Nat) : Nat := (exF ds N T i).length
theorem kept_zero (ds N : Int) (T : Nat → Int) : kept ds N T 0 = 0 := rfl
theorem kept_gone {ds N : Int} {T : Nat → Int} {i : Nat} (h : gn ds N (exQ T i) = true) : kept ds N T (i + 1) = kept ds N T i := by
  unfold kept exF exA
  rw [List.range_succ, List.map_append, List.filter_append]
  simp [h]
theorem kept_stays {ds N : Int} {T : Nat → Int} {i : Nat} (h : gn ds N (exQ T i) = false) : kept ds N T (i + 1) = kept ds N T i + 1 := by
  unfold kept exF exA
  rw [List.range_succ, List.map_append, List.filter_append]
  simp [h]
theorem kept_le (ds N : Int) (T : Nat → Int) (i : Nat) : kept ds N T i ≤ i := by
  unfold kept exF exA
  have := List.length_filter_le (fun q => !gn ds N q) ((List.range i).map (exQ T))
  simpa using this
theorem drop_mid {α : Type} (a : List α) (x : α) (g : List α) : (a ++ x :: g).drop a.length = x :: (a ++ x :: g).drop (a.length + 1) := by
  induction a with
  | nil => rfl
  | cons y a ih => simp
theorem exF_at {ds N : Int} {T : Nat → Int} {i n : Nat} (hi : i < n) (h : gn ds N (exQ T i) = false) : (exF ds N T n).drop (kept ds N T i) = exQ T i :: (exF ds N T n).drop (kept ds N T i + 1) := by
  have hs : exA T n = exA T i ++ exQ T i :: (exA T n).drop (i + 1) := by
    have hl : i < (exA T n).length := by unfold exA; simpa using hi
    have h1 := (List.take_append_drop i (exA T n)).symm
    rw [List.drop_eq_getElem_cons hl] at h1
    have h2 : (exA T n).take i = exA T i := by
      unfold exA
      rw [← List.map_take, List.take_range, Nat.min_eq_left (by omega)]
    have h3' : (exA T n)[i]? = some (exQ T i) := by unfold exA; rw [List.getElem?_map, List.getElem?_range hi]; rfl
    obtain ⟨_, h3⟩ := List.getElem?_eq_some_iff.1 h3'
    rw [h2, h3] at h1
    exact h1
  have hf : exF ds N T n = exF ds N T i ++ exQ T i :: ((exA T n).drop (i + 1)).filter (fun q => !gn ds N q) := by
    unfold exF
    conv => lhs; rw [hs]
    rw [List.filter_append, List.filter_cons_of_pos (by rw [h]; rfl)]
  unfold kept
  rw [hf]
  exact drop_mid _ _ _
theorem xS_tick {ds : Int} {T : Nat → Int} {n : Nat} {now N : Int} (hN : N = max (exT T n) now) : (xS ds T n).tick now = zS ds N (exF ds N T n) 0 := by
  have hq : ((exA T n).filter fun q => !gn ds (exT T n) q).filter (fun q => !gn ds N q) = exF ds N T n := filt_filt (by omega) _
  show ({ xS ds T n with now := max (exT T n) now, Q := ((exA T n).filter fun q => !gn ds (exT T n) q).filter (fun q => !gn ds (max (exT T n) now) q) } : TS) = _
  rw [← hN, hq]
  rfl
theorem zS_tick {ds : Int} {T : Nat → Int} {n c : Nat} {now N : Int} (hN : now ≤ N) : (zS ds N (exF ds N T n) c).tick now = zS ds N (exF ds N T n) c := by
  have hm : max N now = N := by omega
  have hq : ((exF ds N T n).drop c).filter (fun q => !gn ds N q) = (exF ds N T n).drop c := List.filter_eq_self.2 (fun q hq => (List.mem_filter.1 (List.mem_of_mem_drop hq)).2)
  show ({ zS ds N (exF ds N T n) c with now := max N now, Q := ((exF ds N T n).drop c).filter (fun q => !gn ds (max N now) q) } : TS) = _
  rw [hm, hq]
  rfl
theorem x_send {ds : Int} {T : Nat → Int} {n c : Nat} {now N : Int} {s : TS} (hnow : now ≤ 5000) (hP : s.P = []) (hC : s.C = cfX ds) (hn : s.next = (c : Int)) (ht : s.tick now = zS ds N (exF ds N T n) c) (hc : c ≤ 1000) {q : QV} {r : List QV} (hF : (exF ds N T n).drop c = q :: (exF ds N T n).drop (c + 1)) :
    s.send now = ⟨pduN (cfX ds) q.n, pduZ (cfX ds) c q.n (nf q.z), (c : Int), 0, zS ds N (exF ds N T n) (c + 1)⟩ := by
  unfold TS.send TS.full
  rw [if_neg (by omega), hP, hC, hn, ht]
  show (match (exF ds N T n).drop c with | [] => (⟨0, zB, 0, 10, zS ds N (exF ds N T n) c⟩ : NX) | q :: r => _) = _
  rw [hF]
  show (if (c : Int) = 4294967296 then _ else _ : NX) = _
  rw [if_neg (by omega)]
  rfl
theorem x_send_none {ds : Int} {T : Nat → Int} {n c : Nat} {now N : Int} {s : TS} (hnow : now ≤ 5000) (hP : s.P = []) (ht : s.tick now = zS ds N (exF ds N T n) c) (hc : (exF ds N T n).length ≤ c) :
    s.send now = ⟨0, zB, 0, 10, zS ds N (exF ds N T n) c⟩ := by
  unfold TS.send
  rw [if_neg (by omega), hP, ht]
  show (match (exF ds N T n).drop c with | [] => (⟨0, zB, 0, 10, zS ds N (exF ds N T n) c⟩ : NX) | q :: r => _) = _
  rw [List.drop_eq_nil_of_le hc]
/-- a packet's byte, deciphered -/
theorem x_byte (ds : Int) (c i : Nat) (hi : i < 256) : cryF (fun _ => 0) c 0 0 (fun j => pduZ (cfX ds) c 1 (nf fun _ => (i : Int)) (2 + j)) 0 = i := by
  have h1 : pduZ (cfX ds) c 1 (nf fun _ => (i : Int)) 2 = cryF (fun _ => 0) c 0 0 (nf fun _ => (i : Int)) 0 := by
    show cryF (nf (cfX ds).key) c (cfX ds).b.toNat (cfX ds).d.toNat (plainZ (cfX ds) c 1 (nf fun _ => (i : Int))) 0 = _
    rw [pdu_plain rfl (by decide)]
    rfl
  have h2 := cryF_back (fun _ => 0) c 0 0 (nf fun _ => (i : Int)) 0
  show pduZ (cfX ds) c 1 (nf fun _ => (i : Int)) 2 ^^^ ksF (fun _ => 0) c 0 0 0 = i
  rw [h1]
  exact h2
end Go.Proofs.YtiffminhlimajaaGreat
namespace Go.Proofs.YtiffminhlimajaaGreat
open Go.RowKit
set_option linter.unusedVariables false
attribute [local go_sem ↓] Go.wp_at_zero Go.wp_at_succ

/-- a transmitter of blocks that w0 had not, and blocks N of others -/
def SoloN (w0 w : World) (g : Nat) (s : TS) (N : Nat → Prop) : Prop := ∃ W R, TxI w g s W R ∧ (∀ k, W k → w0.heap.size ≤ k) ∧ Below w0.heap.size w0 w ∧ (∀ k, N k → w0.heap.size ≤ k ∧ k < w.heap.size ∧ ¬ W k ∧ ¬ R k)
section
variable {w0 w w' : World} {g : Nat} {s : TS} {N N' : Nat → Prop}
theorem SoloN.of (h : Solo w0 w g s) : SoloN w0 w g s (fun _ => False) := by
  obtain ⟨W, R, h1, h2, h3⟩ := h
  exact ⟨W, R, h1, h2, h3, fun k hk => hk.elim⟩
theorem SoloN.low (h : SoloN w0 w g s N) : Below w0.heap.size w0 w := by
  obtain ⟨W, R, h1, h2, h3, h4⟩ := h
  exact h3
theorem SoloN.solo (h : SoloN w0 w g s N) : Solo w0 w g s := by
  obtain ⟨W, R, h1, h2, h3, h4⟩ := h
  exact ⟨W, R, h1, h2, h3⟩
theorem SoloN.below (h : SoloN w0 w g s N) (hb : Below w.heap.size w w') : SoloN w0 w' g s N := by
  obtain ⟨W, R, h1, h2, h3, h4⟩ := h
  exact ⟨W, R, h1.below hb, h2, h3.trans (hb.mono h3.size), fun k hk => ⟨(h4 k hk).1, Nat.lt_of_lt_of_le (h4 k hk).2.1 hb.size, (h4 k hk).2.2⟩⟩
/-- others' blocks changed -/
theorem SoloN.other (h : SoloN w0 w g s N) (hk : KeepF N w w') (hN : ∀ k, N' k → (N k ∨ w.heap.size ≤ k) ∧ k < w'.heap.size) : SoloN w0 w' g s N' := by
  obtain ⟨W, R, h1, h2, h3, h4⟩ := h
  have hs := h3.size
  refine ⟨W, R, h1.keepF hk (fun k hn => (h4 k hn).2.2), h2, KeepF.below h3 hk (fun k hn => (h4 k hn).1) hs, fun k hn => ?_⟩
  obtain ⟨h5 | h5, h6⟩ := hN k hn
  · exact ⟨(h4 k h5).1, h6, (h4 k h5).2.2⟩
  · exact ⟨by omega, h6, fun hw => by have := h1.win k hw; omega, fun hr => by have := h1.rin k hr; omega⟩
theorem SoloN.call (h : SoloN w0 w g s N) : ∃ W R, TxI w g s W R ∧ ∀ w' s', TxO W R w w' g s' → SoloN w0 w' g s' N ∧ ∀ k, N k → w'.heap[k]? = w.heap[k]? := by
  obtain ⟨W, R, h1, h2, h3, h4⟩ := h
  refine ⟨W, R, h1, fun w' s' hO => ?_⟩
  obtain ⟨W', R', hI, hW, hR, hK⟩ := hO
  have hs := h3.size
  refine ⟨⟨W', R', hI, fun k hk => ?_, KeepF.below h3 hK (fun k hk => h2 k hk) hs, fun k hk => ?_⟩, fun k hk => hK.block k (h4 k hk).2.1 (h4 k hk).2.2.1⟩
  · rcases hW k hk with h | h
    · exact h2 k h
    · omega
  · have h5 := h4 k hk
    refine ⟨h5.1, Nat.lt_of_lt_of_le h5.2.1 hK.size, fun hw => ?_, fun hr => ?_⟩
    · rcases hW k hw with h | h
      · exact h5.2.2.1 h
      · omega
    · rcases hR k hr with h | h
      · exact h5.2.2.2 h
      · omega
theorem solon_sub1 (h : SoloN w0 w g s N) (hf : s.Fine) (hcm : s.C.cm = false) (hql : s.Q.length ≤ 1000000) (t : Int) (ht1 : -9223372036854775808 ≤ t) (ht2 : t ≤ 9223372036854775807) (v : Int) (hv : 0 ≤ v ∧ v < 256) :
    Calls Tryz.prog 22 #[.pointer (some ⟨g, 0, none⟩), .int .i64 t, .slice (some ⟨w.heap.size, 0, none⟩) 1 1] (w.alloc (.cells #[.int .u8 v] 5)) fun e w' => e = .returned (.int .i64 (s.submit t 1 (fun _ => v)).1) ∧ SoloN w0 w' g (s.submit t 1 (fun _ => v)).2 N ∧ ∀ k, N k → w'.heap[k]? = w.heap[k]? := by
  obtain ⟨W, R, hI, hc⟩ := h.call
  have hb : Below w.heap.size w (w.alloc (.cells #[.int .u8 v] 5)) := (Below.refl _ _).alloc (Nat.le_refl _) _
  have hB : Blk (w.alloc (.cells #[.int .u8 v] 5)) w.heap.size 5 #[.int .u8 v] := Blk.new _ _ _
  refine (tsubmit_ok g s W R _ (hI.below hb) hf hcm hql t ht1 ht2 (some ⟨w.heap.size, 0, none⟩) 1 1 (fun _ => v) ⟨fun _ => ⟨_, _, rfl, by simp, fun j hj => ?_⟩, fun j hj => hv, fun a ha _ hw => ?_⟩ (by decide)).mono ?_
  · obtain rfl : j = 0 := by omega
    rw [Nat.zero_add, hB.cell]
    rfl
  · cases ha
    have := hI.win _ hw
    exact absurd this (Nat.lt_irrefl _)
  · rintro e w' ⟨he, hO⟩
    exact ⟨he, hc _ _ (TxO.comp (fun _ h => .inl h) (fun _ h => .inl h) (KeepF.of_below hb) hO)⟩
theorem solon_next (h : SoloN w0 w g s N) (hf : s.Fine) (hig : s.C.ig = false) (hcm : s.C.cm = false) (hpl : s.P.length ≤ 1000000) (t : Int) (ht1 : -9223372036854775808 ≤ t) (ht2 : t ≤ 9223372036854775807) :
    Calls Tryz.prog 18 #[.pointer (some ⟨g, 0, none⟩), .int .i64 t] w fun e w' => ∃ A c, e = .returned (.tuple #[.slice A (s.send t).n c, .int .u32 (s.send t).ct, .int .i64 (s.send t).e]) ∧ (s.send t).n ≤ c ∧ Row w' w'.heap.size A (s.send t).n (fun j => .int .u8 (((s.send t).z j : Nat) : Int)) ∧ SoloN w0 w' g (s.send t).s N ∧ (∀ k, N k → w'.heap[k]? = w.heap[k]?) := by
  obtain ⟨W, R, hI, hc⟩ := h.call
  refine (tNext_ok g s W R w hI hf t ht1 ht2 (builds_plain g s.C hf.ok hf.val hig hcm) hpl).mono ?_
  rintro e w' ⟨A, c, W', R', h1, h2, h3, h4, h5, h6, h7, h8⟩
  exact ⟨A, c, h1, h2, h3, hc w' _ ⟨W', R', h4, h5, h6, h7⟩⟩
end
theorem infoI : ∃ i : TypeInfo, Tryz.prog.info? 3 = some i ∧ i.zero = some (.int .i64 0) ∧ i.size = 1 ∧ i.bytes = 8 := by
  have h : (Tryz.prog.info? 3).map (fun i => (i.zero, i.size, i.bytes)) = some (some (.int .i64 0), 1, 8) := by kernel_rfl
  cases hi : Tryz.prog.info? 3 with
  | none => rw [hi] at h; cases h
  | some i =>
    rw [hi] at h
    simp only [Option.map_some, Option.some.injEq, Prod.mk.injEq] at h
    exact ⟨i, rfl, h.1, h.2.1, h.2.2⟩
/-- the submission times in memory -/
def atL (T : Nat → Int) (i : Nat) : List Value := (List.range i).map fun j => .int .i64 (exT T (j + 1))
def blkOf (A : Option Addr) (k : Nat) : Prop := ∃ a, A = some a ∧ k = a.block
theorem SL.same {w w' : World} {e : TypeId} {sz : Nat} {A : Option Addr} {n c : Nat} {xs : List Value} (h : SL w e sz A n c xs) (hk : ∀ k, blkOf A k → w'.heap[k]? = w.heap[k]?) : SL w' e sz A n c xs := h.keep (fun a ha => hk _ ⟨a, ha, rfl⟩)
theorem b16_lit : b16 (fun _ => 0) = #[.int .u8 0, .int .u8 0, .int .u8 0, .int .u8 0, .int .u8 0, .int .u8 0, .int .u8 0, .int .u8 0, .int .u8 0, .int .u8 0, .int .u8 0, .int .u8 0, .int .u8 0, .int .u8 0, .int .u8 0, .int .u8 0] := by kernel_rfl
theorem zS_fine {ds N now : Int} (h : 0 ≤ ds ∧ ds ≤ 1000) {T : Nat → Int} {i c : Nat} (hT : ∀ j, j < i → 0 ≤ T j ∧ T j ≤ 5000) (hN : N = max (exT T i) now) : (zS ds N (exF ds N T i) c).Fine := ⟨cfX_ok ds, cfX_valid h, fun q hq => by
  obtain ⟨j, hj, rfl⟩ := List.mem_map.1 (List.mem_filter.1 (List.mem_of_mem_drop hq)).1
  have hj : j < i := by simpa using hj
  have h1 := (exT_rng (T := T) (i := j + 1) (fun k hk => hT k (by omega))).1
  have h2 := exT_mono T (show j + 1 ≤ i by omega)
  show 0 ≤ exT T (j + 1) ∧ exT T (j + 1) ≤ N
  omega⟩
/-- what is known of the state in the second loop -/
structure YS (ds now N : Int) (T : Nat → Int) (i K : Nat) (s : TS) : Prop where
  P : s.P = []
  C : s.C = cfX ds
  next : s.next = (K : Int)
  tick : s.tick now = zS ds N (exF ds N T i) K
  fine : s.Fine
theorem YS.x {ds now N : Int} (h : 0 ≤ ds ∧ ds ≤ 1000) {T : Nat → Int} {i : Nat} (hT : ∀ j, j < i → 0 ≤ T j ∧ T j ≤ 5000) (hN : N = max (exT T i) now) : YS ds now N T i 0 (xS ds T i) := ⟨rfl, rfl, rfl, xS_tick hN, xS_fine h hT⟩
theorem YS.z {ds now N : Int} (h : 0 ≤ ds ∧ ds ≤ 1000) {T : Nat → Int} {i c : Nat} (hT : ∀ j, j < i → 0 ≤ T j ∧ T j ≤ 5000) (hN : N = max (exT T i) now) : YS ds now N T i c (zS ds N (exF ds N T i) c) := ⟨rfl, rfl, rfl, zS_tick (by omega), zS_fine h hT hN⟩
/-- Next of a packet that is left -/
theorem y_next {ds now N : Int} {T : Nat → Int} {i K k : Nat} {s : TS} {w0 w : World} {g : Nat} {M : Nat → Prop} (hY : YS ds now N T i K s) (hS : SoloN w0 w g s M) (hnow : 0 ≤ now ∧ now ≤ 5000) (hK : K = kept ds N T k) (hK2 : K ≤ 1000) (hk : k < i) (hg : gn ds N (exQ T k) = false) :
    Calls Tryz.prog 18 #[.pointer (some ⟨g, 0, none⟩), .int .i64 now] w fun e w' => ∃ b o c, e = .returned (.tuple #[.slice (some ⟨b, o, none⟩) 3 c, .int .u32 (K : Int), .int .i64 0]) ∧ 3 ≤ c ∧ Row w' w'.heap.size (some ⟨b, o + 2, none⟩) 1 (fun j => .int .u8 ((pduZ (cfX ds) K 1 (nf fun _ => (k : Int)) (2 + j) : Nat) : Int)) ∧ SoloN w0 w' g (zS ds N (exF ds N T i) (K + 1)) M ∧ (∀ k, M k → w'.heap[k]? = w.heap[k]?) := by
  have hs := x_send (ds := ds) (T := T) (n := i) (c := K) (now := now) (N := N) (s := s) hnow.2 hY.P hY.C hY.next hY.tick hK2 (q := exQ T k) (r := (exF ds N T i).drop (K + 1)) (by rw [hK]; exact exF_at hk hg)
  have hc := solon_next hS hY.fine (by rw [hY.C]; rfl) (by rw [hY.C]; rfl) (by rw [hY.P]; decide) now (by omega) (by omega)
  rw [hs] at hc
  refine hc.mono ?_
  rintro e w' ⟨A, c, he, hc, hR, hS, hM⟩
  obtain ⟨b, o, hA, hb, hcl⟩ := hR (show 0 < 3 by decide)
  subst hA
  refine ⟨b, o, c, he, hc, fun _ => ⟨b, o + 2, rfl, hb, fun j hj => ?_⟩, hS, hM⟩
  obtain rfl : j = 0 := by omega
  exact hcl 2 (show 2 < 3 by decide)
theorem y_crypt (ds : Int) (K k : Nat) (hK : K ≤ 1000) (hk : k < 256) (b o c : Nat) (w : World) (hr : Row w w.heap.size (some ⟨b, o + 2, none⟩) 1 (fun j => .int .u8 ((pduZ (cfX ds) K 1 (nf fun _ => (k : Int)) (2 + j) : Nat) : Int))) :
    Calls Tryz.prog 19 #[.agg (b16 fun _ => 0), .int .u32 (K : Int), .int .i64 0, .int .i64 0, .slice (some ⟨b, o + 2, none⟩) 1 (c - 2)] w fun e w' => ∃ pb po c2, e = .returned (.tuple #[.slice (some ⟨pb, po, none⟩) 1 c2, .int .i64 0]) ∧ w'.cell? ⟨pb, po, none⟩ = some (.int .u8 (k : Int)) ∧ Below w.heap.size w w' := by
  refine (crypt_ok (fun _ => 0) K 0 0 (fun _ _ => by show 0 < 256; decide) (by omega) (by decide) (by decide) (some ⟨b, o + 2, none⟩) 1 (c - 2) (fun j => pduZ (cfX ds) K 1 (nf fun _ => (k : Int)) (2 + j)) (by decide) (by decide) (fun j hj => pduZ_lt (fun _ _ => by show 0 < 256; decide) (fun j hj => by show (k : Int).toNat < 256; omega) _) w hr).mono ?_
  rintro e w' ⟨A, c2, he, _, _, hR, hB⟩
  obtain ⟨pb, po, hA, hb, hcl⟩ := hR (by decide)
  subst hA
  refine ⟨pb, po, c2, he, ?_, hB⟩
  have h0 := hcl 0 (by decide)
  rw [Nat.add_zero] at h0
  rw [h0]
  show some (Value.int .u8 ((cryF (fun _ => 0) K 0 0 (fun j => pduZ (cfX ds) K 1 (nf fun _ => (k : Int)) (2 + j)) 0 : Nat) : Int)) = _
  rw [x_byte ds K k hk]
set_option maxRecDepth 100000 in
set_option maxHeartbeats 6400000 in
theorem expires_walk (ds now : Int) (hds : -9223372036854775808 ≤ ds ∧ ds ≤ 9223372036854775807) (hnow : -9223372036854775808 ≤ now ∧ now ≤ 9223372036854775807) (TA : Option Addr) (n tc : Nat) (T : Nat → Int) (hn : n ≤ maxLen) (w : World) (hr : Row w w.heap.size TA n (fun j => .int .i64 (T j))) : Calls Tryz.prog 5 #[.int .i64 ds, .slice TA n tc, .int .i64 now] w fun e w' => e = .returned (.bool true) ∧ Below w.heap.size w w' := by
  have HKN := Lib.hid (fun V => known45_true V)
  have HTR := Lib.hid hr
  obtain ⟨hd1, hd2⟩ := hds
  obtain ⟨hw1, hw2⟩ := hnow
  unfold maxLen at hn
  have n9 : (n : Int) ≤ 9223372036854775807 := by omega
  clear hr hn
  by_cases g1 : ds < 0
  · go_enter Tryz.func5, Tryz.ntmps5
    go_wp2_with (go_at_call 17; with_reducible refine (HKN.out _).mono ?_; rintro e w19 ⟨rfl, hB⟩; have E19 := Lib.hid hB; clear hB)
    go_ret
    exact ⟨rfl, E19.out⟩
  by_cases g2 : 1000 < ds
  · go_enter Tryz.func5, Tryz.ntmps5
    go_wp2_with (go_at_call 17; with_reducible refine (HKN.out _).mono ?_; rintro e w19 ⟨rfl, hB⟩; have E19 := Lib.hid hB; clear hB)
    go_ret
    exact ⟨rfl, E19.out⟩
  by_cases g3 : (20 : Int) < (n : Int)
  · go_enter Tryz.func5, Tryz.ntmps5
    go_wp2_with (go_at_call 17; with_reducible refine (HKN.out _).mono ?_; rintro e w19 ⟨rfl, hB⟩; have E19 := Lib.hid hB; clear hB)
    go_ret
    exact ⟨rfl, E19.out⟩
  by_cases g4 : now < 0
  · go_enter Tryz.func5, Tryz.ntmps5
    go_wp2_with (go_at_call 17; with_reducible refine (HKN.out _).mono ?_; rintro e w19 ⟨rfl, hB⟩; have E19 := Lib.hid hB; clear hB)
    go_ret
    exact ⟨rfl, E19.out⟩
  by_cases g5 : 5000 < now
  · go_enter Tryz.func5, Tryz.ntmps5
    go_wp2_with (go_at_call 17; with_reducible refine (HKN.out _).mono ?_; rintro e w19 ⟨rfl, hB⟩; have E19 := Lib.hid hB; clear hB)
    go_ret
    exact ⟨rfl, E19.out⟩
  have HDS : Hid (0 ≤ ds ∧ ds ≤ 1000) := Lib.hid (by omega)
  have HNW : Hid (0 ≤ now ∧ now ≤ 5000) := Lib.hid (by omega)
  have HN20 : Hid (n ≤ 20) := Lib.hid (by omega)
  have HNEW := Lib.hid (fun V => tNew_ok (cfX ds) (cfX_valid HDS.out) V)
  rw [cfX_lit] at HNEW
  go_enter Tryz.func5, Tryz.ntmps5
  go_wp2_with (go_at_call 21; with_reducible refine (HNEW.out _).mono ?_; rintro e w1 ⟨g, rfl, hO⟩; have S1 := Lib.hid (SoloN.of (Solo.of_new (Below.refl _ _) hO)); clear hO)
  have HTB := Lib.hid (show ∀ j, j < n → ∃ tb tf, TA = some ⟨tb, tf, none⟩ ∧ tb < w.heap.size ∧ w.cell? ⟨tb, tf + j, none⟩ = some (.int .i64 (T j)) from fun j hj => by
    obtain ⟨tb, tf, h1, h2, h3⟩ := HTR.out (by omega)
    exact ⟨tb, tf, h1, h2, h3 j hj⟩)
  go_loopw [9, 10, 11] (fun v9 v10 v11 wr => ∃ (i : Nat) (A : Option Addr) (c : Nat), i ≤ n ∧ v11 = .int .i64 i ∧ v9 = .int .i64 (exT T i) ∧ v10 = .slice A i c ∧ (∀ j, j < i → 0 ≤ T j ∧ T j ≤ 5000) ∧ SL wr 3 1 A i c (atL T i) ∧ SoloN w wr g (xS ds T i) (blkOf A)) (fun _ _ v _ => n - (intOf v).toNat)
  case atStart => exact ⟨0, none, 0, by omega, rfl, rfl, rfl, fun j hj => absurd hj (by omega), SL.nil _ _ _, S1.out.other KeepF.refl (fun k ⟨a, ha, _⟩ => by cases ha)⟩
  case round =>
    obtain ⟨i, A, c, hi, rfl, rfl, rfl, hT, hSL, hS⟩ := hrel
    have HT := Lib.hid hT
    have SLI := Lib.hid hSL
    have SI := Lib.hid hS
    clear hT hSL hS
    have i0 : (0 : Int) ≤ (i : Int) := by omega
    by_cases hlt : i < n
    · have i1 : (i : Int) < (n : Int) := by omega
      have i2 : (i : Int) < 256 := by have := HN20.out; omega
      obtain ⟨tb, tf, hTA, htl, htc⟩ := HTB.out i hlt
      subst hTA
      have t0 := (SI.out.low.cell (p := ⟨tb, tf + i, none⟩) htl).trans htc
      have HTC := Lib.hid htc
      clear htc
      by_cases b1 : T i < 0
      · go_wp2_with (go_at_call 17; with_reducible refine (HKN.out _).mono ?_; rintro e w19 ⟨rfl, hB⟩; have E19 := Lib.hid hB; clear hB)
        go_ret
        exact ⟨rfl, SI.out.low.trans (E19.out.mono SI.out.low.size)⟩
      by_cases b2 : 5000 < T i
      · go_wp2_with (go_at_call 17; with_reducible refine (HKN.out _).mono ?_; rintro e w19 ⟨rfl, hB⟩; have E19 := Lib.hid hB; clear hB)
        go_ret
        exact ⟨rfl, SI.out.low.trans (E19.out.mono SI.out.low.size)⟩
      have HTI : Hid (0 ≤ T i ∧ T i ≤ 5000) := Lib.hid (by omega)
      obtain ⟨a, ha⟩ : ∃ a, a = exT T i := ⟨_, rfl⟩
      obtain ⟨b, hb⟩ : ∃ b, b = T i := ⟨_, rfl⟩
      obtain ⟨m, hm⟩ : ∃ m, m = exT T (i + 1) := ⟨_, rfl⟩
      have hmx : (if a < b then b else a) = m := by
        rw [hm, ha, hb]
        show _ = max (exT T i) (T i)
        split <;> omega
      rw [← ha]
      rw [← hb] at t0 b1 b2
      have HA := Lib.hid ha
      have HB := Lib.hid hb
      have HMM := Lib.hid hm
      clear ha hb hm
      go_upto_region 14 with (fail)
      obtain ⟨ii, hii, hiz, his, hib⟩ := infoI
      obtain ⟨X6, hX6⟩ : ∃ X6, X6 = wr.alloc (.cells #[.int .i64 m] 3) := ⟨_, rfl⟩
      have hb6 : Below wr.heap.size wr X6 := by rw [hX6]; exact (Below.refl _ _).alloc (Nat.le_refl _) _
      have HX6 := Lib.hid hX6
      have S6 := Lib.hid (SI.out.below hb6)
      have SL6 := Lib.hid (SLI.out.next hb6)
      have hNB : Blk X6 wr.heap.size 3 #[.int .i64 m] := by rw [hX6]; exact Blk.new _ _ _
      have HSRC : Hid (Src Tryz.prog 1 50 (.slice (some ⟨wr.heap.size, 0, none⟩) 1 1) 1 [.int .i64 m] X6) := Lib.hid (Src.ofSlice _ Tryz.underlying50 ⟨wr.heap.size, 0, none⟩ 1 1 _ rfl (fun j u hu => by
        have hj : j < 1 := (List.getElem?_eq_some_iff.1 hu).1
        rw [Addr.add_lit, Nat.zero_add, hNB.cell j]
        simpa using hu) (by simp [Value.oneCell']))
      clear hNB hX6 hb6
      go_upto_region 15 with (rw [← HX6.out]; refine wpList_sl_append rfl _ _ _ _ rfl X6 3 ii (.int .i64 0) 1 8 Tryz.underlying50 hii hiz his hib rfl A i c (atL T i) rfl SL6.out _ rfl 1 [.int .i64 m] HSRC.out (by decide) (by unfold maxLen; omega) (by omega) ?_; intro A9 c9 wA hSL9 hK9 hA9; have HSL9 := Lib.hid hSL9; have HK9 := Lib.hid hK9; have HA9 := Lib.hid hA9; clear hSL9 hK9 hA9)
      have HAT : Hid (atL T (i + 1) = atL T i ++ [.int .i64 m]) := Lib.hid (by unfold atL; rw [List.range_succ, List.map_append, HMM.out]; rfl)
      have S9 := Lib.hid (S6.out.other (N' := blkOf A9) HK9.out (fun k ⟨a, ha, e⟩ => ⟨by
        rcases HA9.out a ha with ⟨a', ha', e'⟩ | hge
        · exact .inl ⟨a', ha', by rw [e, e']⟩
        · exact .inr (by rw [e]; exact hge), by rw [e]; exact HSL9.out.lt ha⟩))
      have t9 := (S9.out.low.cell (p := ⟨tb, tf + i, none⟩) htl).trans HTC.out
      have HSB := Lib.hid (solon_sub1 S9.out (xS_fine HDS.out HT.out) rfl (by
        show ((exA T i).filter _).length ≤ 1000000
        refine Nat.le_trans (List.length_filter_le _ _) ?_
        unfold exA
        rw [List.length_map, List.length_range]
        have := HN20.out
        omega) (T i) (by have := HTI.out; omega) (by have := HTI.out; omega) (i : Int) ⟨i0, i2⟩)
      rw [xS_submit HDS.out HTI.out, ← HB.out] at HSB
      rw [← HB.out] at t9
      clear t0
      go_wp2_with (go_at_call 22; with_reducible refine (HSB.out).mono ?_; rintro e w5 ⟨rfl, hS, hk⟩; have S5 := Lib.hid hS; have K5 := Lib.hid hk; clear hS hk)
      have HTS := Lib.hid (show ∀ j, j < i + 1 → 0 ≤ T j ∧ T j ≤ 5000 from fun j hj => by
        rcases Nat.lt_or_ge j i with h | h
        · exact HT.out j h
        · obtain rfl : j = i := by omega
          exact HTI.out)
      go_roundw
      case rel => first | exact ⟨i + 1, A9, c9, by omega, by go_num, by rw [HMM.out], rfl, HTS.out, by rw [HAT.out]; exact HSL9.out.same K5.out, S5.out⟩ | (((repeat apply Exists.intro); refine ⟨?_, rfl⟩); exact ⟨i + 1, A9, c9, by omega, by go_num, by rw [HMM.out], rfl, HTS.out, by rw [HAT.out]; exact HSL9.out.same K5.out, S5.out⟩)
      case measure => simp [intOf]; omega
    · obtain rfl : i = n := by omega
      obtain ⟨N, hN⟩ : ∃ N, N = max (exT T i) now := ⟨_, rfl⟩
      obtain ⟨a, ha⟩ : ∃ a, a = exT T i := ⟨_, rfl⟩
      have hmx : (if a < now then now else a) = N := by rw [hN, ha]; split <;> omega
      have HR := exT_rng HT.out
      rw [← ha] at HR
      have HNR : Hid (0 ≤ N ∧ N ≤ 5000) := Lib.hid (by rw [hN, ← ha]; have := HNW.out; omega)
      have HNN := Lib.hid hN
      have HA := Lib.hid ha
      rw [← ha]
      clear hN ha HR
      go_wp2
      go_loopw [12, 13] (fun v12 v13 wq => ∃ (k : Nat) (s : TS), k ≤ i ∧ v13 = .int .i64 k ∧ v12 = .int .u32 (kept ds N T k : Nat) ∧ YS ds now N T i (kept ds N T k) s ∧ SL wq 3 1 A i c (atL T i) ∧ SoloN w wq g s (blkOf A)) (fun _ v _ => i - (intOf v).toNat)
      case atStart => exact ⟨0, _, by omega, rfl, rfl, YS.x HDS.out HT.out HNN.out, SLI.out, SI.out⟩
      case round =>
        clear SLI SI
        obtain ⟨k, s, hk, rfl, rfl, hY, hSL, hS⟩ := hrel
        have HY := Lib.hid hY
        have SLK := Lib.hid hSL
        have SK := Lib.hid hS
        clear hY hSL hS
        have k0 : (0 : Int) ≤ (k : Int) := by omega
        obtain ⟨K, hK⟩ : ∃ K, K = kept ds N T k := ⟨_, rfl⟩
        have HKL : Hid (K ≤ 20) := Lib.hid (by have := kept_le ds N T k; have := HN20.out; omega)
        have HKK := Lib.hid hK
        rw [← hK] at HY
        rw [← hK]
        have K0 : (0 : Int) ≤ (K : Int) := by omega
        have K1 : (K : Int) < 4294967295 := by have := HKL.out; omega
        clear hK
        by_cases hlk : k < i
        · have k2 : (k : Int) < (i : Int) := by omega
          have k3 : (k : Int) < 256 := by have := HN20.out; omega
          obtain ⟨ab, ao, hA, hab⟩ := SLK.out.some_ (by omega)
          have x0 := SLK.out.cell hA (j := k) (by omega)
          rw [show (atL T i)[k]? = some (.int .i64 (exT T (k + 1))) from by unfold atL; rw [List.getElem?_map, List.getElem?_range hlk]; rfl] at x0
          subst hA
          have her := exT_rng (T := T) (i := k + 1) (fun j hj => HT.out j (by omega))
          have HG := Lib.hid (show gn ds N (exQ T k) = (decide (0 < ds) && decide (ds ≤ N - exT T (k + 1))) from rfl)
          obtain ⟨e, he⟩ : ∃ e, e = exT T (k + 1) := ⟨_, rfl⟩
          rw [← he] at x0 her HG
          have s1 : -9223372036854775808 ≤ N - e := by have := HNR.out; omega
          have s2 : N - e ≤ 9223372036854775807 := by have := HNR.out; omega
          clear he hmx
          by_cases hg : gn ds N (exQ T k) = true
          · have HKG := Lib.hid (kept_gone hg)
            rw [HG.out] at hg
            have d0 : 0 < ds := by simp at hg; exact hg.1
            have d1 : ds ≤ N - e := by simp at hg; exact hg.2
            clear hg
            go_wp2
            go_roundw
            case rel => first | exact ⟨k + 1, s, by omega, by go_num, by rw [HKG.out, HKK.out], by rw [HKG.out, ← HKK.out]; exact HY.out, SLK.out, SK.out⟩ | (((repeat apply Exists.intro); refine ⟨?_, rfl⟩); exact ⟨k + 1, s, by omega, by go_num, by rw [HKG.out, HKK.out], by rw [HKG.out, ← HKK.out]; exact HY.out, SLK.out, SK.out⟩)
            case measure => simp [intOf]; omega
          · have hg2 : gn ds N (exQ T k) = false := by simpa using hg
            have HKG := Lib.hid (kept_stays hg2)
            have HX := Lib.hid (y_next HY.out SK.out HNW.out HKK.out (by have := HKL.out; omega) hlk hg2)
            have hcond : (0 < ds ∧ ¬ ds ≤ N - e) ∨ ¬ 0 < ds := by
              rw [HG.out] at hg2
              simp at hg2
              by_cases h0 : 0 < ds
              · exact .inl ⟨h0, by have := hg2 h0; omega⟩
              · exact .inr h0
            clear hg hg2
            have HYC := Lib.hid (fun b o c V h => y_crypt ds K k (by have := HKL.out; omega) (by omega) b o c V h)
            rw [b16_lit] at HYC
            rcases hcond with ⟨d0, d1⟩ | d0
            all_goals
              go_upto_region 24 with (go_at_call 18; with_reducible refine (HX.out).mono ?_; rintro e w6 ⟨pb, po, pc, rfl, hpc, hR, hS, hM⟩; have HPR := Lib.hid hR; have S6 := Lib.hid hS; have M6 := Lib.hid hM; have pc2 : ¬ pc = 2 := (by omega); have pc3 : (3 : Int) ≤ (pc : Int) := (by omega); clear hR hS hM)
              have HCR := Lib.hid (HYC.out pb po pc w6 HPR.out)
              go_wp2_with (go_at_call 19; with_reducible refine (HCR.out).mono ?_; rintro e w7 ⟨qb, qo, qc, rfl, hq, hB⟩; have E7 := Lib.hid hB; clear hB)
              go_roundw
              case rel => first | exact ⟨k + 1, _, by omega, by go_num, by rw [HKG.out, ← HKK.out]; go_num, YS.z HDS.out HT.out HNN.out, (SLK.out.same M6.out).next E7.out, by rw [HKG.out, ← HKK.out]; exact S6.out.below E7.out⟩ | (((repeat apply Exists.intro); refine ⟨?_, rfl⟩); exact ⟨k + 1, zS ds N (exF ds N T i) (kept ds N T (k + 1)), by omega, by go_num, by rw [HKG.out, ← HKK.out]; go_num, YS.z HDS.out HT.out HNN.out, (SLK.out.same M6.out).next E7.out, by rw [HKG.out, ← HKK.out]; exact S6.out.below E7.out⟩)
              case measure => simp [intOf]; omega
        · obtain rfl : k = i := by omega
          have HX := Lib.hid (solon_next SK.out HY.out.fine (by rw [HY.out.C]; rfl) (by rw [HY.out.C]; rfl) (by rw [HY.out.P]; decide) now (by have := HNW.out; omega) (by have := HNW.out; omega))
          rw [x_send_none (ds := ds) (T := T) (n := k) (c := K) (N := N) HNW.out.2 HY.out.P HY.out.tick (by rw [HKK.out]; exact Nat.le_refl _)] at HX
          have HQL : Hid ((zS ds N (exF ds N T k) K).Q.length = 0) := Lib.hid (by
            show ((exF ds N T k).drop K).length = 0
            rw [List.length_drop, HKK.out]
            exact Nat.sub_self _)
          clear hmx
          go_wp2_with (first
            | (go_at_call 18; with_reducible refine (HX.out).mono ?_; rintro e w6 ⟨A3, c3, he, _, _, hS, _⟩; subst he; have S6 := Lib.hid hS.solo; have HQ6 := Lib.hid (HQL.out ▸ solo_queued hS.solo); clear hS)
            | (go_at_call 23; with_reducible refine (HQ6.out).mono ?_; rintro e w8 ⟨rfl, rfl⟩)
            | (go_at_call 17; with_reducible refine (HKN.out _).mono ?_; rintro e w19 ⟨rfl, hB⟩; have E19 := Lib.hid hB; clear hB))
          go_ret
          exact ⟨rfl, S6.out.low.trans (E19.out.mono S6.out.low.size)⟩
end Go.Proofs.YtiffminhlimajaaGreat
namespace Go.Proofs.YtiffminhlimajaaGreat
open Go.RowKit
set_option linter.unusedVariables false
attribute [local go_sem ↓] Go.wp_at_zero Go.wp_at_succ

theorem builds_any (g : Nat) (C : Cfg) (hok : C.Ok) (hv : C.Valid) (hcm : C.cm = false) : Builds g C := by
  cases hig : C.ig with
  | false => exact builds_plain g C hok hv hig hcm
  | true =>
    intro s W R V hC hI ct hct A n c z h1 h9 hr hz
    subst hC
    exact tbuild_ig code_ok g s W R V hI hok hv hig hcm ct hct A n c z h1 h9 hr hz
theorem solo_nextA {w0 w : World} {g : Nat} {s : TS} (h : Solo w0 w g s) (hf : s.Fine) (hcm : s.C.cm = false) (hpl : s.P.length ≤ 1000000) (t : Int) (ht1 : -9223372036854775808 ≤ t) (ht2 : t ≤ 9223372036854775807) :
    Calls Tryz.prog 18 #[.pointer (some ⟨g, 0, none⟩), .int .i64 t] w fun e w' => ∃ A c, e = .returned (.tuple #[.slice A (s.send t).n c, .int .u32 (s.send t).ct, .int .i64 (s.send t).e]) ∧ (s.send t).n ≤ c ∧ Row w' w'.heap.size A (s.send t).n (fun j => .int .u8 (((s.send t).z j : Nat) : Int)) ∧ Solo w0 w' g (s.send t).s := by
  obtain ⟨W, R, hI, hW, hc⟩ := h.call
  refine (tNext_ok g s W R w hI hf t ht1 ht2 (builds_any g s.C hf.ok hf.val hcm) hpl).mono ?_
  rintro e w' ⟨A, c, W', R', h1, h2, h3, h4, h5, h6, h7, h8⟩
  exact ⟨A, c, h1, h2, h3, hc w' _ ⟨W', R', h4, h5, h6, h7⟩⟩
theorem k_b16 {f : Nat → Int} (h : ∀ j, j < 16 → 0 ≤ f j ∧ f j < 256) : kArr f = b16 (nf f) := by
  apply Array.ext_getElem?
  intro j
  by_cases hj : j < 16
  · rw [kArr_at f j hj, b16_at _ hj, nf_cast h hj]
  · rw [Array.getElem?_eq_none (by show 16 ≤ j; omega), Array.getElem?_eq_none (by rw [b16_size]; omega)]
def Cfg.noC (c : Cfg) : Cfg := { c with cm := false }
theorem Cfg.noC_arr (c : Cfg) : c.arr.setIfInBounds 35 (.bool false) = c.noC.arr := by
  apply Array.ext_getElem?
  intro j
  rw [Array.getElem?_setIfInBounds, c.arr_size]
  by_cases hj : j < 39
  · rw [c.noC.arr_at hj]
    by_cases e : 35 = j
    · subst e; rw [if_pos rfl, if_pos (by omega)]; rfl
    · rw [if_neg e, c.arr_at hj]
      unfold Cfg.cell Cfg.noC
      by_cases h0 : j = 0
      · simp [h0]
      by_cases h1 : j = 1
      · simp [h1]
      by_cases h2 : j < 18
      · simp [h0, h1, h2]
      by_cases h3 : j < 34
      · simp [h0, h1, h2, h3]
      by_cases h4 : j = 34
      · simp [h4]
      · simp [h0, h1, h2, h3, h4, show ¬ j = 35 from fun h => e h.symm]
  · rw [if_neg (by omega), Array.getElem?_eq_none (by rw [c.arr_size]; omega), Array.getElem?_eq_none (by rw [c.noC.arr_size]; omega)]
theorem Cfg.noC_ok {c : Cfg} (h : c.Ok) : c.noC.Ok := ⟨h.key, h.code⟩
theorem Cfg.noC_valid (c : Cfg) : c.noC.Valid ↔ c.Valid := Iff.rfl
set_option maxRecDepth 100000 in
set_option maxHeartbeats 1600000 in
theorem plain45_ok (c : Cfg) (w : World) : Calls Tryz.prog 14 #[.agg c.arr] w fun e w' => e = .returned (.agg c.noC.arr) ∧ Below w.heap.size w w' := by
  have HP := Lib.hid c.noC_arr
  have HS : Hid ((Tryz.prog.info? 25).map (·.size) = some c.noC.arr.size) := Lib.hid (by rw [c.noC.arr_size]; exact infoPd)
  have HO := Lib.hid c.noC.arr_one
  have HZS : Hid (Cfg.zero.arr.size = c.noC.arr.size) := Lib.hid (by rw [Cfg.arr_size, Cfg.arr_size])
  have c35 := c.arr_at (j := 35) (by decide)
  obtain ⟨Z, hZ⟩ : ∃ Z, Z = c.arr := ⟨_, rfl⟩
  obtain ⟨Y, hY⟩ : ∃ Y, Y = c.noC.arr := ⟨_, rfl⟩
  rw [← hZ] at HP c35 ⊢
  rw [← hY] at HP HS HO HZS ⊢
  have HC35 := Lib.hid c35
  have HU := Lib.hid Tryz.underlying25
  clear hZ hY c35
  go_enter Tryz.func14, Tryz.ntmps14
  go_upto_region 1 with (fail)
  obtain ⟨g, hg⟩ : ∃ g, g = w.heap.size := ⟨_, rfl⟩
  refine wp_let (fun W => Blk W g 25 Z ∧ Blk W (g + 1) 25 Cfg.zero.arr ∧ Below w.heap.size w W) ⟨by rw [hg]; exact (Blk.new _ _ _).alloc _, by rw [cf0_lit, hg]; exact blk_atZ _ _ _ _ (by simp), ((Below.refl _ w).alloc (Nat.le_refl _) _).alloc (by simp) _⟩ ?_
  rintro W1 ⟨b1, b2, b3⟩
  have B1 := Lib.hid b1
  have B2 := Lib.hid b2
  have B3 := Lib.hid b3
  have HG := Lib.hid hg
  rw [← hg]
  have c35 : W1.cell? ⟨g, 35, none⟩ = some (c.cell 35) := (b1.cell 35).trans HC35.out
  have f35 := b1.frozen 35
  clear b1 b2 b3 hg
  go_upto_region 2 with (fail)
  refine wp_let (fun W => Blk W g 25 Y ∧ Blk W (g + 1) 25 Cfg.zero.arr ∧ Below w.heap.size w W) ⟨by rw [← HP.out]; exact B1.out.set_ 35 _, B2.out.far (p := ⟨g, 35, none⟩) (by show ¬ g + 1 = g; omega) _, B3.out.setCell (p := ⟨g, 35, none⟩) (by rw [HG.out]; exact Nat.le_refl _) _⟩ ?_
  rintro W2 ⟨b1, b2, b3⟩
  have D1 := Lib.hid b1
  have D2 := Lib.hid b2
  have D3 := Lib.hid b3
  clear b1 b2 b3 c35 f35
  go_wp2_with (first
    | (refine wpList_load_row rfl _ _ rfl g rfl 25 Y (0, 0) _ D1.out HU.out rfl HS.out ?_)
    | (refine wpList_store_row rfl _ _ _ rfl (g + 1) Y rfl rfl 25 _ D2.out HS.out HZS.out HO.out ?_))
  refine bodyPost_ret (v := .agg Y) (results_cell_row (g := g + 1) (t := 25) (fr := (0, 0)) Tryz.results14 _ _ Y _ rfl (setRow_heap _ _ _ Y 25 (0, 0) D2.out) HU.out rfl HS.out) rfl ⟨rfl, ?_⟩
  exact belowRow D3.out (by rw [HG.out]; omega) _
end Go.Proofs.YtiffminhlimajaaGreat
namespace Go.Proofs.YtiffminhlimajaaGreat
open Go.RowKit
/-- a block of cells, none of them frozen -/
def UnB (w : World) (k : Nat) : Prop := ∃ cur t, w.heap[k]? = some (.cells cur t (0, 0))
theorem UnB.lt {w : World} {k : Nat} (h : UnB w k) : k < w.heap.size := by
  obtain ⟨cur, t, h⟩ := h
  exact (Array.getElem?_eq_some_iff.1 h).1
theorem UnB.keep {w w' : World} {k : Nat} (h : UnB w k) (e : w'.heap[k]? = w.heap[k]?) : UnB w' k := by
  obtain ⟨cur, t, h⟩ := h
  exact ⟨cur, t, e.trans h⟩
theorem UnB.keepF {F : Nat → Prop} {w w' : World} {k : Nat} (h : UnB w k) (hk : KeepF F w w') (hn : ¬ F k) : UnB w' k := h.keep (hk.block k h.lt hn)
theorem UnB.below {w w' : World} {k : Nat} (h : UnB w k) (hb : Below w.heap.size w w') : UnB w' k := h.keep (hb.block k h.lt)
theorem UnB.frozen {w : World} {k : Nat} (h : UnB w k) (j : Nat) : w.frozen? ⟨k, j, none⟩ = false := by
  obtain ⟨cur, t, h⟩ := h
  exact Blk.frozen (show Blk w k t cur from h) j
theorem own_un {w : World} {base n sz : Nat} {e : TypeId} {A : Option Addr} {c : Nat} {xs : List Value} (h : w.ownsRow base e sz (.slice A n c) n xs) : ∀ a, A = some a → UnB w a.block := fun a ha => by
  obtain ⟨hl, ⟨hv, hn⟩ | ⟨g, cap, cur, hv, hg, hh, hc, hm, hs, ht⟩⟩ := h
  · cases hv; cases ha
  · cases hv; cases ha
    exact ⟨cur, e, hh⟩
/-- Clone, its block not frozen -/
theorem clone_un (A : Option Addr) (n c : Nat) (z : Nat → Int) (w : World) (hn : n ≤ 140737488355328) (hr : Row w w.heap.size A n (fun j => .int .u8 (z j))) :
    Calls Tryz.prog 47 #[.slice A n c] w fun e w' => ∃ A2 c2, e = .returned (.slice A2 n c2) ∧ n ≤ c2 ∧ Row w' w'.heap.size A2 n (fun j => .int .u8 (z j)) ∧ Fresh w.heap.size A2 ∧ Below w.heap.size w w' ∧ ∀ a, A2 = some a → UnB w' a.block :=
  (clone_own A n c z w hn hr).mono fun _ _ ⟨A2, c2, he, hc, ho, hb⟩ => ⟨A2, c2, he, hc, (own_map_row ho).2, (own_map_row ho).1, hb, own_un ho⟩
structure FwN (w : World) (B rb : Nat) (nx : Int) (us : Bool) (W R : Nat → Prop) (pA : Option Addr) (pc : Nat) (lp : List PE) (qA : Option Addr) (qc : Nat) (lq : List WE) : Prop where
  blk : Blk w rb 36 #[.int .u32 nx, .bool us, .slice pA lp.length pc, .slice qA lq.length qc]
  p : SL w 47 2 pA lp.length pc (lp.flatMap PE.cc)
  q : SL w 27 1 qA lq.length qc (lq.flatMap WE.cc)
  pe : ∀ e, e ∈ lp → Pkt w R e.A e.v.n e.c e.v.z
  qe : ∀ e, e ∈ lq → Pkt w R e.A e.v.n e.c e.v.z
  wg : W rb
  wq : ∀ a, qA = some a → W a.block
  wp : ∀ a, pA = some a → W a.block
  dis : ∀ k, W k → R k → False
  win : ∀ k, W k → B ≤ k ∧ k < w.heap.size
  rin : ∀ k, R k → B ≤ k ∧ k < w.heap.size ∧ UnB w k
section
variable {w w1 w' : World} {B rb : Nat} {nx : Int} {us : Bool} {W R R' F : Nat → Prop} {qA qA' : Option Addr} {qc qc' : Nat} {lq lq' : List WE} {pA pA' : Option Addr} {pc pc' : Nat} {lp lp' : List PE}
theorem FwN.keepF (h : FwN w B rb nx us W R pA pc lp qA qc lq) (hk : KeepF F w w') (hF : ∀ k, F k → ¬ W k ∧ ¬ R k) : FwN w' B rb nx us W R pA pc lp qA qc lq :=
  ⟨hk.blk h.blk (fun hf => (hF _ hf).1 h.wg), h.p.keepF hk (fun a e hf => (hF _ hf).1 (h.wp a e)), h.q.keepF hk (fun a e hf => (hF _ hf).1 (h.wq a e)),
   fun e he => (h.pe e he).keep hk (fun k hf => (hF k hf).2), fun e he => (h.qe e he).keep hk (fun k hf => (hF k hf).2), h.wg, h.wq, h.wp, h.dis,
   fun k hk' => ⟨(h.win k hk').1, Nat.lt_of_lt_of_le (h.win k hk').2 hk.size⟩, fun k hk' => ⟨(h.rin k hk').1, Nat.lt_of_lt_of_le (h.rin k hk').2.1 hk.size, (h.rin k hk').2.2.keepF hk (fun hf => (hF k hf).2 hk')⟩⟩
theorem FwN.below (h : FwN w B rb nx us W R pA pc lp qA qc lq) (hb : Below w.heap.size w w') : FwN w' B rb nx us W R pA pc lp qA qc lq :=
  h.keepF (F := fun _ => False) (KeepF.of_below hb) (fun _ hf => hf.elim)
theorem FwN.gq (h : FwN w B rb nx us W R pA pc lp qA qc lq) (a : Addr) (ha : qA = some a) : rb ≠ a.block := by
  obtain ⟨cur, hc⟩ := h.q.obj ha
  exact cells_ne h.blk hc (by decide)
theorem FwN.gp (h : FwN w B rb nx us W R pA pc lp qA qc lq) (a : Addr) (ha : pA = some a) : rb ≠ a.block := by
  obtain ⟨cur, hc⟩ := h.p.obj ha
  exact cells_ne h.blk hc (by decide)
theorem FwN.qp (h : FwN w B rb nx us W R pA pc lp qA qc lq) (a b : Addr) (ha : qA = some a) (hb : pA = some b) : a.block ≠ b.block := by
  obtain ⟨cur, hc⟩ := h.q.obj ha
  obtain ⟨cur', hc'⟩ := h.p.obj hb
  exact cells_ne hc hc' (by decide)
theorem FwN.moreR (h : FwN w B rb nx us W R pA pc lp qA qc lq) (hR : ∀ k, R k → R' k) (hd : ∀ k, W k → R' k → False) (hr : ∀ k, R' k → B ≤ k ∧ k < w.heap.size ∧ UnB w k) : FwN w B rb nx us W R' pA pc lp qA qc lq :=
  ⟨h.blk, h.p, h.q, fun e he => (h.pe e he).mono hR, fun e he => (h.qe e he).mono hR, h.wg, h.wq, h.wp, hd, h.win, hr⟩
theorem FwN.setP (h : FwN w B rb nx us W R pA pc lp qA qc lq) (hk : KeepF (fun k => ∃ a, pA = some a ∧ k = a.block) w w1) (hn : ∀ a, pA' = some a → (∃ a', pA = some a' ∧ a.block = a'.block) ∨ w.heap.size ≤ a.block) (hs : SL w1 47 2 pA' lp'.length pc' (lp'.flatMap PE.cc))
    (he : ∀ e, e ∈ lp' → Pkt w1 R e.A e.v.n e.c e.v.z) :
    FwN (w1.setCell ⟨rb, 2, none⟩ (.slice pA' lp'.length pc')) B rb nx us (fun k => W k ∨ ∃ a, pA' = some a ∧ k = a.block) R pA' pc' lp' qA qc lq := by
  have hg : KeepF (fun k => k = rb) w1 (w1.setCell ⟨rb, 2, none⟩ (.slice pA' lp'.length pc')) := (KeepF.refl (F := fun k => k = rb)).setCell (p := ⟨rb, 2, none⟩) rfl _
  have hgl := h.blk.lt
  have hgB := h.win _ h.wg
  have hg1 : Blk w1 rb _ _ := hk.blk h.blk (fun ⟨a, ha, e⟩ => h.gp a ha e)
  have hgx : ∀ a, pA' = some a → ¬ a.block = rb := fun a ha e => by
    rcases hn a ha with ⟨a', ha', e'⟩ | hge
    · exact h.gp a' ha' (by omega)
    · omega
  have hs1 : ∀ a, qA = some a → ¬ ∃ b, pA = some b ∧ a.block = b.block := fun a ha ⟨b, hb, e⟩ => h.qp a b ha hb e
  have hsz : w.heap.size ≤ w1.heap.size := hk.size
  have pk : ∀ {A : Option Addr} {n c : Nat} {z : Nat → Int}, Pkt w R A n c z → Pkt w1 R A n c z := fun hp => hp.keep hk (fun k ⟨a, ha, e⟩ hr => h.dis k (by rw [e]; exact h.wp a ha) hr)
  have pg : ∀ {A : Option Addr} {n c : Nat} {z : Nat → Int}, Pkt w1 R A n c z → Pkt (w1.setCell ⟨rb, 2, none⟩ (.slice pA' lp'.length pc')) R A n c z := fun hp => hp.keep hg (fun k e hr => h.dis k (by rw [e]; exact h.wg) hr)
  refine ⟨?_, hs.keepF hg hgx, (h.q.keepF hk hs1).keepF hg (fun a e h2 => h.gq a e h2.symm),
    fun e he2 => pg (he e he2), fun e he2 => pg (pk (h.qe e he2)), .inl h.wg,
    fun a e => .inl (h.wq a e), fun a e => .inr ⟨a, e, rfl⟩,
    fun k hw hr => ?_, fun k hw => ?_, fun k hr => ⟨(h.rin k hr).1, Nat.lt_of_lt_of_le (Nat.lt_of_lt_of_le (h.rin k hr).2.1 hsz) hg.size, ((h.rin k hr).2.2.keepF hk (fun ⟨a, ha, e⟩ => h.dis k (by rw [e]; first | exact h.wp a ha | exact h.wq a ha) hr)).keepF hg (fun e => h.dis k (by rw [e]; exact h.wg) hr)⟩⟩
  · exact hg1.set_ 2 (.slice pA' lp'.length pc')
  · rcases hw with hw | ⟨a, ha, rfl⟩
    · exact h.dis k hw hr
    · rcases hn a ha with ⟨a', ha', e'⟩ | hge
      · exact h.dis _ (by rw [e']; exact h.wp a' ha') hr
      · have := (h.rin _ hr).2.1; omega
  · rcases hw with hw | ⟨a, ha, rfl⟩
    · exact ⟨(h.win k hw).1, Nat.lt_of_lt_of_le (Nat.lt_of_lt_of_le (h.win k hw).2 hsz) hg.size⟩
    · refine ⟨?_, Nat.lt_of_lt_of_le (hs.lt ha) hg.size⟩
      rcases hn a ha with ⟨a', ha', e'⟩ | hge
      · rw [e']; exact (h.win _ (h.wp a' ha')).1
      · omega
theorem FwN.setQ (h : FwN w B rb nx us W R pA pc lp qA qc lq) (hk : KeepF (fun k => ∃ a, qA = some a ∧ k = a.block) w w1) (hn : ∀ a, qA' = some a → (∃ a', qA = some a' ∧ a.block = a'.block) ∨ w.heap.size ≤ a.block) (hs : SL w1 27 1 qA' lq'.length qc' (lq'.flatMap WE.cc))
    (he : ∀ e, e ∈ lq' → Pkt w1 R e.A e.v.n e.c e.v.z) :
    FwN (w1.setCell ⟨rb, 3, none⟩ (.slice qA' lq'.length qc')) B rb nx us (fun k => W k ∨ ∃ a, qA' = some a ∧ k = a.block) R pA pc lp qA' qc' lq' := by
  have hg : KeepF (fun k => k = rb) w1 (w1.setCell ⟨rb, 3, none⟩ (.slice qA' lq'.length qc')) := (KeepF.refl (F := fun k => k = rb)).setCell (p := ⟨rb, 3, none⟩) rfl _
  have hgl := h.blk.lt
  have hgB := h.win _ h.wg
  have hg1 : Blk w1 rb _ _ := hk.blk h.blk (fun ⟨a, ha, e⟩ => h.gq a ha e)
  have hgx : ∀ a, qA' = some a → ¬ a.block = rb := fun a ha e => by
    rcases hn a ha with ⟨a', ha', e'⟩ | hge
    · exact h.gq a' ha' (by omega)
    · omega
  have hs1 : ∀ a, pA = some a → ¬ ∃ b, qA = some b ∧ a.block = b.block := fun a ha ⟨b, hb, e⟩ => h.qp b a hb ha e.symm
  have hsz : w.heap.size ≤ w1.heap.size := hk.size
  have pk : ∀ {A : Option Addr} {n c : Nat} {z : Nat → Int}, Pkt w R A n c z → Pkt w1 R A n c z := fun hp => hp.keep hk (fun k ⟨a, ha, e⟩ hr => h.dis k (by rw [e]; exact h.wq a ha) hr)
  have pg : ∀ {A : Option Addr} {n c : Nat} {z : Nat → Int}, Pkt w1 R A n c z → Pkt (w1.setCell ⟨rb, 3, none⟩ (.slice qA' lq'.length qc')) R A n c z := fun hp => hp.keep hg (fun k e hr => h.dis k (by rw [e]; exact h.wg) hr)
  refine ⟨?_, (h.p.keepF hk hs1).keepF hg (fun a e h2 => h.gp a e h2.symm), hs.keepF hg hgx,
    fun e he2 => pg (pk (h.pe e he2)), fun e he2 => pg (he e he2), .inl h.wg,
    fun a e => .inr ⟨a, e, rfl⟩, fun a e => .inl (h.wp a e),
    fun k hw hr => ?_, fun k hw => ?_, fun k hr => ⟨(h.rin k hr).1, Nat.lt_of_lt_of_le (Nat.lt_of_lt_of_le (h.rin k hr).2.1 hsz) hg.size, ((h.rin k hr).2.2.keepF hk (fun ⟨a, ha, e⟩ => h.dis k (by rw [e]; first | exact h.wp a ha | exact h.wq a ha) hr)).keepF hg (fun e => h.dis k (by rw [e]; exact h.wg) hr)⟩⟩
  · exact hg1.set_ 3 (.slice qA' lq'.length qc')
  · rcases hw with hw | ⟨a, ha, rfl⟩
    · exact h.dis k hw hr
    · rcases hn a ha with ⟨a', ha', e'⟩ | hge
      · exact h.dis _ (by rw [e']; exact h.wq a' ha') hr
      · have := (h.rin _ hr).2.1; omega
  · rcases hw with hw | ⟨a, ha, rfl⟩
    · exact ⟨(h.win k hw).1, Nat.lt_of_lt_of_le (Nat.lt_of_lt_of_le (h.win k hw).2 hsz) hg.size⟩
    · refine ⟨?_, Nat.lt_of_lt_of_le (hs.lt ha) hg.size⟩
      rcases hn a ha with ⟨a', ha', e'⟩ | hge
      · rw [e']; exact (h.win _ (h.wq a' ha')).1
      · omega
end
/-- what Export answers -/
structure FwP (w : World) (B : Nat) (P : List PV) (Q : List QV) (pA : Option Addr) (pc : Nat) (lp : List PE) (qA : Option Addr) (qc : Nat) (lq : List WE) : Prop where
  pv : lp.map (·.v) = P
  qv : lq.map (·.v) = Q
  p : SL w 47 2 pA lp.length pc (lp.flatMap PE.cc)
  q : SL w 27 1 qA lq.length qc (lq.flatMap WE.cc)
  pe : ∀ e, e ∈ lp → Pkt w (fun k => B ≤ k) e.A e.v.n e.c e.v.z
  qe : ∀ e, e ∈ lq → Pkt w (fun k => B ≤ k) e.A e.v.n e.c e.v.z
  pB : ∀ a, pA = some a → B ≤ a.block
  qB : ∀ a, qA = some a → B ≤ a.block
  pu : ∀ e, e ∈ lp → ∀ a, e.A = some a → UnB w a.block
  qu : ∀ e, e ∈ lq → ∀ a, e.A = some a → UnB w a.block
  ps : ∀ e, e ∈ lp → ∀ a a', e.A = some a → (pA = some a' ∨ qA = some a') → a.block ≠ a'.block
  qs : ∀ e, e ∈ lq → ∀ a a', e.A = some a → (pA = some a' ∨ qA = some a') → a.block ≠ a'.block
set_option linter.unusedVariables false
attribute [local go_sem ↓] Go.wp_at_zero Go.wp_at_succ

set_option maxRecDepth 100000 in
set_option maxHeartbeats 12800000 in
theorem texport_un (g : Nat) (s : TS) (W0 R0 : Nat → Prop) (w : World) (h : TxI w g s W0 R0) (hn : s.P.length ≤ 1000000 ∧ s.Q.length ≤ 1000000) :
    Calls Tryz.prog 24 #[.pointer (some ⟨g, 0, none⟩)] w fun e w' => ∃ pA pc lp qA qc lq, e = .returned (.agg #[.int .u32 (s.next % 4294967296), .bool (decide (s.next = 4294967296)), .slice pA lp.length pc, .slice qA lq.length qc]) ∧ FwP w' w.heap.size s.P s.Q pA pc lp qA qc lq ∧ Below w.heap.size w w' := by
  have HM := Lib.hid (fun (W : World) (hb : Below w.heap.size w W) => tmade_ok g s W0 R0 W (h.below hb))
  obtain ⟨qA0, qc0, lq0, pA0, pc0, lp0, ub, cb, hT⟩ := h
  have HT := Lib.hid hT
  obtain ⟨nx, hnx⟩ : ∃ nx, nx = s.next := ⟨_, rfl⟩
  have n0 : (0 : Int) ≤ nx := by rw [hnx]; exact hT.next0.1
  have n1 : nx ≤ 4294967296 := by rw [hnx]; exact hT.next0.2
  have HNX := Lib.hid hnx
  rw [← hnx]
  obtain ⟨m, hm⟩ : ∃ m, m = lp0.length := ⟨_, rfl⟩
  obtain ⟨mq, hmq⟩ : ∃ mq, mq = lq0.length := ⟨_, rfl⟩
  have HMM := Lib.hid hm
  have HMQ := Lib.hid hmq
  have HM6 : Hid (m ≤ 1000000) := Lib.hid (by have := congrArg List.length hT.pv; simp at this; omega)
  have HQ6 : Hid (mq ≤ 1000000) := Lib.hid (by have := congrArg List.length hT.qv; simp at this; omega)
  have hm' : (m : Int) ≤ 9223372036854775807 := by have := HM6.out; omega
  have hmq' : (mq : Int) ≤ 9223372036854775807 := by have := HQ6.out; omega
  have hgl := hT.blk.lt
  obtain ⟨Bn, hBn⟩ : ∃ Bn, Bn = w.heap.size := ⟨_, rfl⟩
  have HBN := Lib.hid hBn
  clear hT hn hnx hm hmq
  go_enter Tryz.func24, Tryz.ntmps24
  go_upto_region 1 with (fail)
  refine wp_let (fun W => Blk W w.heap.size 36 #[.int .u32 0, .bool false, .slice none 0 0, .slice none 0 0] ∧ Below w.heap.size w W) ⟨Blk.new _ _ _, ((Below.refl _ w).alloc (Nat.le_refl _) _)⟩ ?_
  rintro W1 ⟨b1, b2⟩
  have B1 := Lib.hid b1
  have B2 := Lib.hid b2
  clear b1 b2
  rw [← hBn] at hgl B1 B2 HM ⊢
  clear hBn
  go_upto_region 3 with (first
    | (go_at_call 54; refine (HM.out _ B2.out).mono ?_; rintro e w2 ⟨rfl, rfl⟩))
  obtain ⟨w2, hw2⟩ : ∃ w2, w2 = W1.drew := ⟨_, rfl⟩
  have xn0 : W1.cell? ⟨g, 41, none⟩ = some (.int .u64 nx) := by rw [HNX.out]; exact (HT.out.below (B2.out.mono (by rw [HBN.out]; exact Nat.le_refl _))).cnext
  have X1 := Lib.hid xn0
  have hgr : g ≠ Bn := by omega
  have HS := Lib.hid (show ∀ W', KeepF (fun j => j = Bn) W1 W' → W'.cell? ⟨g, 41, none⟩ = some (.int .u64 nx) from fun W' hW => (hW.cell (p := ⟨g, 41, none⟩) (by show g < _; have := B1.out.lt; omega) hgr).trans X1.out)
  have hB0 : Blk w2 Bn 36 #[.int .u32 0, .bool false, .slice none 0 0, .slice none 0 0] := by rw [hw2]; exact B1.out.drew
  have hbw : Below Bn w w2 := by rw [hw2]; exact B2.out.drew
  refine wp_region_held_drew (S := fun w' => KeepF (fun j => j = Bn) W1 w') (by kernel_rfl) ((KeepF.refl (w := W1)).drew) (fun hHeld => ?_)
  rw [← hw2]
  rw [← hw2] at hHeld
  clear hw2 xn0
  refine wpAnyH_take (i := 0) (oi := ⟨some 10, _, _, _, _, _⟩) (v := .pointer (some ⟨g, 0, none⟩)) rfl (by kernel_rfl) (by kernel_rfl) (by kernel_rfl) (fun _ _ _ h => h) (Or.inl ⟨by rfl, fun W hW => (by rfl)⟩) (by assumption) ?_
  try simp only [Act.put, List.setIfInBounds_toArray, List.set_cons_zero, List.set_cons_succ]
  refine wpAnyH_take (i := 1) (oi := ⟨some 11, _, _, _, _, _⟩) (v := .pointer (some ⟨g, 0, none⟩)) rfl (by kernel_rfl) (by kernel_rfl) (by kernel_rfl) (fun _ _ _ h => h) (Or.inl ⟨by rfl, fun W hW => (by rfl)⟩) (by assumption) ?_
  try simp only [Act.put, List.setIfInBounds_toArray, List.set_cons_zero, List.set_cons_succ]
  refine wpAnyH_take (i := 2) (oi := ⟨some 12, _, _, _, _, _⟩) (v := .pointer (some ⟨g, 41, none⟩)) rfl (by kernel_rfl) (by kernel_rfl) (by kernel_rfl) (fun _ _ _ h => h) (Or.inl ⟨by rfl, fun W hW => (by go_simp)⟩) (by assumption) ?_
  try simp only [Act.put, List.setIfInBounds_toArray, List.set_cons_zero, List.set_cons_succ]
  refine wpAnyH_take (i := 3) (oi := ⟨some 13, _, _, _, _, _⟩) (v := .int .u64 nx) rfl (by kernel_rfl) (by kernel_rfl) (by kernel_rfl) (fun _ _ _ h => h) (Or.inl ⟨by rfl, fun W hW => (by have u := HS.out W hW; go_simp)⟩) (by assumption) ?_
  try simp only [Act.put, List.setIfInBounds_toArray, List.set_cons_zero, List.set_cons_succ]
  refine wpAnyH_take (i := 4) (oi := ⟨some 14, _, _, _, _, _⟩) (v := .int .u32 (nx % 4294967296)) rfl (by kernel_rfl) (by kernel_rfl) (by kernel_rfl) (fun _ _ _ h => h) (Or.inl ⟨by rfl, fun W hW => (by go_simp; rfl)⟩) (by assumption) ?_
  try simp only [Act.put, List.setIfInBounds_toArray, List.set_cons_zero, List.set_cons_succ]
  refine wpAnyH_take (i := 5) (oi := ⟨some 15, _, _, _, _, _⟩) (v := .pointer (some ⟨g, 0, none⟩)) rfl (by kernel_rfl) (by kernel_rfl) (by kernel_rfl) (fun _ _ _ h => h) (Or.inl ⟨by rfl, fun W hW => (by rfl)⟩) (by assumption) ?_
  try simp only [Act.put, List.setIfInBounds_toArray, List.set_cons_zero, List.set_cons_succ]
  refine wpAnyH_take (i := 6) (oi := ⟨some 16, _, _, _, _, _⟩) (v := .pointer (some ⟨g, 0, none⟩)) rfl (by kernel_rfl) (by kernel_rfl) (by kernel_rfl) (fun _ _ _ h => h) (Or.inl ⟨by rfl, fun W hW => (by rfl)⟩) (by assumption) ?_
  try simp only [Act.put, List.setIfInBounds_toArray, List.set_cons_zero, List.set_cons_succ]
  refine wpAnyH_take (i := 7) (oi := ⟨some 17, _, _, _, _, _⟩) (v := .pointer (some ⟨g, 41, none⟩)) rfl (by kernel_rfl) (by kernel_rfl) (by kernel_rfl) (fun _ _ _ h => h) (Or.inl ⟨by rfl, fun W hW => (by go_simp)⟩) (by assumption) ?_
  try simp only [Act.put, List.setIfInBounds_toArray, List.set_cons_zero, List.set_cons_succ]
  refine wpAnyH_take (i := 8) (oi := ⟨some 18, _, _, _, _, _⟩) (v := .int .u64 nx) rfl (by kernel_rfl) (by kernel_rfl) (by kernel_rfl) (fun _ _ _ h => h) (Or.inl ⟨by rfl, fun W hW => (by have u := HS.out W hW; go_simp)⟩) (by assumption) ?_
  try simp only [Act.put, List.setIfInBounds_toArray, List.set_cons_zero, List.set_cons_succ]
  refine wpAnyH_take (i := 9) (oi := ⟨some 19, _, _, _, _, _⟩) (v := .bool (decide (nx = 4294967296))) rfl (by kernel_rfl) (by kernel_rfl) (by kernel_rfl) (fun _ _ _ h => h) (Or.inl ⟨by rfl, fun W hW => (by go_simp; rfl)⟩) (by assumption) ?_
  try simp only [Act.put, List.setIfInBounds_toArray, List.set_cons_zero, List.set_cons_succ]
  refine wpAnyH_take (i := 10) (oi := ⟨some 20, _, _, _, _, _⟩) (v := .pointer (some ⟨Bn, 0, none⟩)) rfl (by kernel_rfl) (by kernel_rfl) (by kernel_rfl) (fun _ _ _ h => h) (Or.inl ⟨by rfl, fun W hW => (by go_simp)⟩) (by assumption) ?_
  try simp only [Act.put, List.setIfInBounds_toArray, List.set_cons_zero, List.set_cons_succ]
  refine wpAnyH_ready (rs := [11]) (by kernel_rfl) (by simp) ?_
  refine AllReadyH.cons (o := ⟨none, _, _, _, _, _⟩) rfl (fun K hK => ?_) AllReadyH.nil
  rw [if_pos (by rfl)]
  have hc0 := hB0.cell 0
  have hf0 := hB0.frozen 0
  simp at hc0
  go_simp
  have hB1 := hB0.set_ 0 (.int .u32 (nx % 4294967296))
  have hS1 : KeepF (fun j => j = Bn) W1 (w2.setCell ⟨Bn, 0, none⟩ (.int .u32 (nx % 4294967296))) := hHeld.setCell (p := ⟨Bn, 0, none⟩) rfl _
  have hbw1 : Below Bn w (w2.setCell ⟨Bn, 0, none⟩ (.int .u32 (nx % 4294967296))) := hbw.setCell (p := ⟨Bn, 0, none⟩) (Nat.le_refl _) _
  refine hK.out _ _ hS1 (fun hHeld => ?_)
  clear hK K hS1 hc0 hf0 hB0 hbw
  try simp only [Act.put, List.setIfInBounds_toArray, List.set_cons_zero, List.set_cons_succ]
  generalize w2.setCell ⟨Bn, 0, none⟩ (.int .u32 (nx % 4294967296)) = w3 at *
  refine wpAnyH_take (i := 12) (oi := ⟨some 21, _, _, _, _, _⟩) (v := .pointer (some ⟨Bn, 1, none⟩)) rfl (by kernel_rfl) (by kernel_rfl) (by kernel_rfl) (fun _ _ _ h => h) (Or.inl ⟨by rfl, fun W hW => (by go_simp)⟩) (by assumption) ?_
  try simp only [Act.put, List.setIfInBounds_toArray, List.set_cons_zero, List.set_cons_succ]
  refine wpAnyH_ready (rs := [13]) (by kernel_rfl) (by simp) ?_
  refine AllReadyH.cons (o := ⟨none, _, _, _, _, _⟩) rfl (fun K hK => ?_) AllReadyH.nil
  rw [if_pos (by rfl)]
  have hc0 := hB1.cell 1
  have hf0 := hB1.frozen 1
  simp at hc0
  go_simp
  have hB2 := hB1.set_ 1 (.bool (decide (nx = 4294967296)))
  have hS1 : KeepF (fun j => j = Bn) W1 (w3.setCell ⟨Bn, 1, none⟩ (.bool (decide (nx = 4294967296)))) := hHeld.setCell (p := ⟨Bn, 1, none⟩) rfl _
  have hbw2 : Below Bn w (w3.setCell ⟨Bn, 1, none⟩ (.bool (decide (nx = 4294967296)))) := hbw1.setCell (p := ⟨Bn, 1, none⟩) (Nat.le_refl _) _
  refine hK.out _ _ hS1 (fun hHeld => ?_)
  clear hK K hS1 hc0 hf0 hB1 hbw1 hHeld
  generalize w3.setCell ⟨Bn, 1, none⟩ (.bool (decide (nx = 4294967296))) = w4 at *
  try simp only [Act.put]
  refine wpAnyH_done (by kernel_rfl) ?_ _
  obtain ⟨us, hus⟩ : ∃ us, us = decide (nx = 4294967296) := ⟨_, rfl⟩
  obtain ⟨ny, hny⟩ : ∃ ny, ny = nx % 4294967296 := ⟨_, rfl⟩
  rw [← hus, ← hny] at hB2 ⊢
  have hF0 : FwN w4 Bn Bn ny us (fun k => k = Bn) (fun _ => False) none 0 [] none 0 [] := ⟨by simpa using hB2, SL.nil _ _ _, SL.nil _ _ _, fun e he => (by cases he), fun e he => (by cases he), rfl, fun a e => (by cases e), fun a e => (by cases e), fun k _ hr => hr, fun k hk => ⟨by omega, by rw [hk]; exact hB2.lt⟩, fun k hr => hr.elim⟩
  have F0 := Lib.hid hF0
  have B4 := Lib.hid hbw2
  have T4 := Lib.hid (HT.out.below (hbw2.mono (by rw [HBN.out]; exact Nat.le_refl _)))
  have xp := T4.out.cp
  rw [← HMM.out] at xp
  have HNY := Lib.hid hny
  have HUS := Lib.hid hus
  clear hF0 hbw2 hB2 hus hny X1 HS n0 n1
  go_wp2
  go_loopw [27] (fun v wr => ∃ (k : Nat) (W R : Nat → Prop) (pA : Option Addr) (pc : Nat) (lp : List PE), k ≤ m ∧ v = .int .i64 k ∧ FwN wr Bn Bn ny us W R pA pc lp none 0 [] ∧ lp.map (·.v) = (lp0.take k).map (·.v) ∧ Below Bn w wr) (fun v _ => m - (intOf v).toNat)
  case atStart => exact ⟨0, _, _, _, _, _, by omega, rfl, F0.out, by simp, B4.out⟩
  case round =>
    clear xp F0 B4 T4
    obtain ⟨k, W, R, pA, pc, lp, hk, rfl, hF, hv, hb⟩ := hrel
    have FF := Lib.hid hF
    have BB := Lib.hid hb
    have VV := Lib.hid hv
    have hbs : Bn ≤ wr.heap.size := by have := hb.size; have := HBN.out; omega
    have TT := Lib.hid (HT.out.below (hb.mono (by rw [HBN.out]; exact Nat.le_refl _)))
    clear hF hv hb
    by_cases hlt : k < m
    · obtain ⟨e0, he0⟩ : ∃ e0, lp0[k]? = some e0 := ⟨lp0[k]'(by have := HMM.out; omega), by simp [HMM.out ▸ hlt]⟩
      obtain ⟨b, o, hpA, hlb, c0, c1, c2⟩ := TT.out.pcell he0
      have hpk := TT.out.pe e0 (List.mem_of_getElem? he0)
      have hpr := TT.out.pr e0.v (by rw [← TT.out.pv]; exact List.mem_map_of_mem (List.mem_of_getElem? he0))
      have HE := Lib.hid he0
      obtain ⟨⟨x, n, z, rep⟩, A, c⟩ := e0
      dsimp only at c0 c1 c2 hpk hpr
      obtain ⟨r0, r1⟩ := hpr
      have HPK := Lib.hid hpk
      have k0 : (0 : Int) ≤ (k : Int) := by omega
      have k1 : (k : Int) < (m : Int) := by omega
      subst hpA
      clear hpk he0
      go_upto_region 7 with (fail)
      refine wp_let (fun W' => Blk W' wr.heap.size 101 #[.int .u32 x, .slice A n c, .bool rep] ∧ Below wr.heap.size wr W') ⟨Blk.new _ _ _, (Below.refl _ wr).alloc (Nat.le_refl _) _⟩ ?_
      rintro W6 ⟨b6, b7⟩
      obtain ⟨xb, hxb⟩ : ∃ xb, xb = wr.heap.size := ⟨_, rfl⟩
      have hxg : xb ≠ Bn := by have := FF.out.blk.lt; omega
      have hxp : ∀ a, pA = some a → xb ≠ a.block := fun a e => by have := FF.out.p.lt e; omega
      have F6 := Lib.hid (FF.out.below b7)
      have B6 := Lib.hid (show Below Bn w W6 from BB.out.trans (b7.mono hbs))
      have hs6 : Bn ≤ W6.heap.size := Nat.le_trans hbs b7.size
      have R6 := Lib.hid (show Row W6 W6.heap.size A n (fun j => .int .u8 (z j)) from HPK.out.row.next b7)
      have HBY := Lib.hid HPK.out.byte
      have hp1 := HPK.out.pos
      have hp9 := HPK.out.max
      rw [← hxb] at b6 ⊢
      have X6 := Lib.hid b6
      clear b6 b7 hxb c0 c1 c2
      have HS := Lib.hid (show ∀ W', KeepF (fun j => j = Bn ∨ ∃ a, pA = some a ∧ j = a.block) W6 W' → W'.cell? ⟨xb, 0, none⟩ = some (.int .u32 x) ∧ W'.cell? ⟨xb, 1, none⟩ = some (.slice A n c) from fun W' hW => by
        have := hW.blk X6.out (fun hf => by rcases hf with h | ⟨a, ha, h⟩; exact hxg h; exact hxp a ha h)
        exact ⟨this.cell 0, this.cell 1⟩)
      obtain ⟨w0, hw0⟩ : ∃ w0, w0 = W6.drew := ⟨_, rfl⟩
      have T0 : FwN w0 Bn Bn ny us W R pA pc lp none 0 [] := by rw [hw0]; exact F6.out.below (Below.refl _ _).drew
      have hb0 : Below W6.heap.size W6 w0 := by rw [hw0]; exact (Below.refl _ _).drew
      obtain ⟨ic, hic, hicz, hics, hicb⟩ := infoCnt
      refine wp_region_held_drew (S := fun w' => KeepF (fun j => j = Bn ∨ ∃ a, pA = some a ∧ j = a.block) W6 w') (by kernel_rfl) ((KeepF.refl (w := W6)).drew) (fun hHeld => ?_)
      rw [← hw0]
      rw [← hw0] at hHeld
      clear hw0
      obtain ⟨pl, hpl⟩ : ∃ pl, pl = lp.length := ⟨_, rfl⟩
      have HPL2 := Lib.hid hpl
      have HPL : Hid (pl = k) := Lib.hid (by have := congrArg List.length VV.out; simp at this; have := HMM.out; omega)
      have HTK := Lib.hid (show (lp0.take (k + 1)).map (·.v) = (lp0.take k).map (·.v) ++ [(⟨x, n, z, rep⟩ : PV)] from by rw [List.take_add_one, HE.out, List.map_append]; rfl)
      have hbF : Bn ≤ w0.heap.size := Nat.le_trans hs6 hb0.size
      clear hpl
      refine wpAnyH_take (i := 0) (oi := ⟨some 31, _, _, _, _, _⟩) (v := .pointer (some ⟨Bn, 2, none⟩)) rfl (by kernel_rfl) (by kernel_rfl) (by kernel_rfl) (fun _ _ _ h => h) (Or.inl ⟨by rfl, fun W hW => (by go_simp)⟩) (by assumption) ?_
      try simp only [Act.put, List.setIfInBounds_toArray, List.set_cons_zero, List.set_cons_succ]
      refine wpAnyH_take (i := 2) (oi := ⟨some 33, _, _, _, _, _⟩) (v := .pointer (some ⟨xb, 0, none⟩)) rfl (by kernel_rfl) (by kernel_rfl) (by kernel_rfl) (fun _ _ _ h => h) (Or.inl ⟨by rfl, fun W hW => (by go_simp)⟩) (by assumption) ?_
      try simp only [Act.put, List.setIfInBounds_toArray, List.set_cons_zero, List.set_cons_succ]
      refine wpAnyH_take (i := 3) (oi := ⟨some 34, _, _, _, _, _⟩) (v := .pointer (some ⟨xb, 0, none⟩)) rfl (by kernel_rfl) (by kernel_rfl) (by kernel_rfl) (fun _ _ _ h => h) (Or.inl ⟨by rfl, fun W hW => (by go_simp)⟩) (by assumption) ?_
      try simp only [Act.put, List.setIfInBounds_toArray, List.set_cons_zero, List.set_cons_succ]
      refine wpAnyH_take (i := 4) (oi := ⟨some 35, _, _, _, _, _⟩) (v := .int .u32 x) rfl (by kernel_rfl) (by kernel_rfl) (by kernel_rfl) (fun _ _ _ h => h) (Or.inl ⟨by rfl, fun W hW => (by obtain ⟨u0, u1⟩ := HS.out W hW; go_simp)⟩) (by assumption) ?_
      try simp only [Act.put, List.setIfInBounds_toArray, List.set_cons_zero, List.set_cons_succ]
      refine wpAnyH_take (i := 5) (oi := ⟨some 36, _, _, _, _, _⟩) (v := .pointer (some ⟨xb, 0, none⟩)) rfl (by kernel_rfl) (by kernel_rfl) (by kernel_rfl) (fun _ _ _ h => h) (Or.inl ⟨by rfl, fun W hW => (by go_simp)⟩) (by assumption) ?_
      try simp only [Act.put, List.setIfInBounds_toArray, List.set_cons_zero, List.set_cons_succ]
      refine wpAnyH_take (i := 6) (oi := ⟨some 37, _, _, _, _, _⟩) (v := .pointer (some ⟨xb, 1, none⟩)) rfl (by kernel_rfl) (by kernel_rfl) (by kernel_rfl) (fun _ _ _ h => h) (Or.inl ⟨by rfl, fun W hW => (by go_simp)⟩) (by assumption) ?_
      try simp only [Act.put, List.setIfInBounds_toArray, List.set_cons_zero, List.set_cons_succ]
      refine wpAnyH_take (i := 7) (oi := ⟨some 38, _, _, _, _, _⟩) (v := .slice A n c) rfl (by kernel_rfl) (by kernel_rfl) (by kernel_rfl) (fun _ _ _ h => h) (Or.inl ⟨by rfl, fun W hW => (by obtain ⟨u0, u1⟩ := HS.out W hW; go_simp)⟩) (by assumption) ?_
      try simp only [Act.put, List.setIfInBounds_toArray, List.set_cons_zero, List.set_cons_succ]
      refine wpAnyH_ready (rs := [1, 8]) (by kernel_rfl) (by simp) ?_
      refine AllReadyH.cons (o := ⟨some 32, _, _, _, _, _⟩) rfl (fun K hK => ?_) (AllReadyH.cons (o := ⟨some 39, _, _, _, _, _⟩) rfl (fun K hK => ?_) AllReadyH.nil)
      · rw [if_pos (by rfl)]
        have h43 := T0.blk.cell 2
        simp at h43
        rw [← HPL2.out] at h43
        go_simp
        refine hK.out _ _ hHeld (fun hHeld => ?_)
        clear hK K h43
        try simp only [Act.put, List.setIfInBounds_toArray, List.set_cons_zero, List.set_cons_succ]
        refine wpAnyH_ready (rs := [8]) (by kernel_rfl) (by simp) ?_
        refine AllReadyH.cons (o := ⟨some 39, _, _, _, _, _⟩) rfl (fun K hK => ?_) AllReadyH.nil
        rw [if_pos (by rfl)]
        go_simp
        refine (clone_un A n c z w0 (by omega) (R6.out.next hb0)).mono ?_
        rintro e w1' ⟨A2, c2', rfl, hc2, hR2, hF2, hbk, hUn⟩
        dsimp only
        have hFl : ∀ a, A2 = some a → w0.heap.size ≤ a.block := hF2
        have hFr : ∀ a, A2 = some a → a.block < w1'.heap.size := fun a e => row_lt hR2 hp1 e
        have hwl1 : ∀ j, W j → j < w0.heap.size := fun j hj => (T0.win j hj).2
        have hFB : ∀ a, A2 = some a → Bn ≤ a.block := fun a e => by have := hFl a e; have := hb0.size; omega
        have T1 := T0.below hbk
        have hb1 : Below W6.heap.size W6 w1' := hb0.trans (hbk.mono hb0.size)
        have hW2 : ∀ j, W j → ∀ a, A2 = some a → j ≠ a.block := fun j hj a e => by have := hFl a e; have := hwl1 j hj; omega
        refine hK.out _ _ (hHeld.more hbk) (fun hHeld => ?_)
        clear hK K hbk hF2
        try simp only [Act.put, List.setIfInBounds_toArray, List.set_cons_zero, List.set_cons_succ]
        refine wpAnyH_take (i := 9) (oi := ⟨some 40, _, _, _, _, _⟩) (v := .agg #[.int .u32 x, .slice A2 n c2']) rfl (by kernel_rfl) (by kernel_rfl) (by kernel_rfl) (fun _ _ _ h => h) (Or.inl ⟨by rfl, fun W hW => (by go_simp)⟩) (by assumption) ?_
        try simp only [Act.put, List.setIfInBounds_toArray, List.set_cons_zero, List.set_cons_succ]
        refine wpAnyH_ready (rs := [10]) (by kernel_rfl) (by simp) ?_
        refine AllReadyH.cons (o := ⟨some 41, _, _, _, _, _⟩) rfl (fun K hK => ?_) AllReadyH.nil
        rw [if_pos (by rfl)]
        go_simp
        obtain ⟨w2', hv⟩ : ∃ X, X = w1'.alloc (.cells #[.int .u32 x, .slice A2 n c2'] 47) := ⟨_, rfl⟩
        obtain ⟨nb, hnb⟩ : ∃ nb, nb = w1'.heap.size := ⟨_, rfl⟩
        have hbk : Below w1'.heap.size w1' w2' := by rw [hv]; exact (Below.refl _ _).alloc (Nat.le_refl _) _
        have hNB : Blk w2' nb 47 #[.int .u32 x, .slice A2 n c2'] := by rw [hv, hnb]; exact Blk.new _ _ _
        have T2 := T1.below hbk
        have hb2 : Below W6.heap.size W6 w2' := hb1.trans (hbk.mono hb1.size)
        replace hR2 := hR2.next hbk
        replace hUn : ∀ a, A2 = some a → UnB w2' a.block := fun a e => (hUn a e).below hbk
        replace hFr : ∀ a, A2 = some a → a.block < w2'.heap.size := fun a e => Nat.lt_of_lt_of_le (hFr a e) hbk.size
        rw [← hv, ← hnb]
        refine hK.out _ _ (hHeld.more hbk) (fun hHeld => ?_)
        clear hK K hbk hv hnb
        try simp only [Act.put, List.setIfInBounds_toArray, List.set_cons_zero, List.set_cons_succ]
        refine wpAnyH_ready (rs := [11]) (by kernel_rfl) (by simp) ?_
        refine AllReadyH.cons (o := ⟨some 42, _, _, _, _, _⟩) rfl (fun K hK => ?_) AllReadyH.nil
        rw [if_pos (by rfl)]
        have hSL := T2.p
        rw [← HPL2.out] at hSL
        refine wp_sl_append _ _ _ _ rfl w2' 47 ic (.agg #[.int .u32 0, .slice none 0 0]) 2 32 Tryz.underlying34 hic hicz hics hicb rfl pA pl pc (lp.flatMap PE.cc) rfl hSL _ rfl 1 [.int .u32 x, .slice A2 n c2'] (Src.ofSlice _ Tryz.underlying34 ⟨nb, 0, none⟩ 1 1 _ rfl (fun j u hu => by
            have hj : j < 2 := (List.getElem?_eq_some_iff.1 hu).1
            rw [Addr.add_lit, Nat.zero_add, hNB.cell j]
            simpa using hu) (by simp [Value.oneCell'])) (by decide) (by unfold maxLen; have := HPL.out; have := HM6.out; have := HQ6.out; omega) (by have := HPL.out; have := HM6.out; have := HQ6.out; omega) ?_
        intro A9 c9 wA hSL9 hK9 hA9
        dsimp only
        have hA9n : ∀ a, A9 = some a → (∃ a', pA = some a' ∧ a.block = a'.block) ∨ w2'.heap.size ≤ a.block := hA9
        refine hK.out _ _ (hHeld.trans hK9 (fun j _ hj => .inr hj)) (fun hHeld => ?_)
        clear hK K
        try simp only [Act.put, List.setIfInBounds_toArray, List.set_cons_zero, List.set_cons_succ]
        refine wpAnyH_take (i := 12) (oi := ⟨some 43, _, _, _, _, _⟩) (v := .pointer (some ⟨Bn, 2, none⟩)) rfl (by kernel_rfl) (by kernel_rfl) (by kernel_rfl) (fun _ _ _ h => h) (Or.inl ⟨by rfl, fun W hW => (by go_simp)⟩) (by assumption) ?_
        try simp only [Act.put, List.setIfInBounds_toArray, List.set_cons_zero, List.set_cons_succ]
        refine wpAnyH_ready (rs := [13]) (by kernel_rfl) (by simp) ?_
        refine AllReadyH.cons (o := ⟨none, _, _, _, _, _⟩) rfl (fun K hK => ?_) AllReadyH.nil
        rw [if_pos (by rfl)]
        have hg9 : Blk wA Bn 36 _ := hK9.blk T2.blk (fun ⟨a, ha, e⟩ => T2.gp a ha e)
        have hc43 := hg9.cell 2
        have hf43 := hg9.frozen 2
        simp at hc43
        have T9 := T2.moreR (R' := fun j => R j ∨ ∃ a, A2 = some a ∧ j = a.block) (fun j hj => .inl hj) (fun j hw hr => by rcases hr with hr | ⟨a, ha, e⟩; exact T2.dis j hw hr; exact hW2 j hw a ha e) (fun j hr => by rcases hr with hr | ⟨a, ha, e⟩; exact T2.rin j hr; (rw [e]; exact ⟨hFB a ha, hFr a ha, hUn a ha⟩))
        have hpk9 : ∀ e : PE, e ∈ lp ++ [(⟨⟨x, n, z, rep⟩, A2, c2'⟩ : PE)] → Pkt wA (fun j => R j ∨ ∃ a, A2 = some a ∧ j = a.block) e.A e.v.n e.c e.v.z := fun e he => by
          have hx : Pkt w2' (fun j => R j ∨ ∃ a, A2 = some a ∧ j = a.block) e.A e.v.n e.c e.v.z := by
            rcases List.mem_append.1 he with he | he
            · exact T9.pe e he
            · have : e = (⟨⟨x, n, z, rep⟩, A2, c2'⟩ : PE) := by simpa using he
              rw [this]
              exact Pkt.of_clone hp1 hp9 hc2 HBY.out hR2
          exact hx.keep hK9 (fun j ⟨a, ha, e2⟩ hr => T9.dis j (by rw [e2]; exact T9.wp a ha) hr)
        have hlen9 : (lp ++ [(⟨⟨x, n, z, rep⟩, A2, c2'⟩ : PE)]).length = pl + 1 := by rw [List.length_append, HPL2.out]; rfl
        have hSL9' : SL wA 47 2 A9 (lp ++ [(⟨⟨x, n, z, rep⟩, A2, c2'⟩ : PE)]).length c9 ((lp ++ [(⟨⟨x, n, z, rep⟩, A2, c2'⟩ : PE)]).flatMap PE.cc) := by
          rw [hlen9, List.flatMap_append]
          exact hSL9
        have TF := T9.setP hK9 hA9n hSL9' hpk9
        rw [hlen9] at TF
        have hbA : Below Bn w wA := KeepF.below ((show Below Bn w W6 from B6.out).trans (hb2.mono hs6)) (hK9.mono (G := W) (fun j ⟨a, ha, e2⟩ => by rw [e2]; exact T2.wp a ha)) (fun j hj => (T2.win j hj).1) (Nat.le_trans hs6 hb2.size)
        have HTF := Lib.hid TF
        have HBF := Lib.hid (show Below Bn w (wA.setCell ⟨Bn, 2, none⟩ (.slice A9 (pl + 1) c9)) from hbA.setCell (p := ⟨Bn, 2, none⟩) (Nat.le_refl _) _)
        have HVF := Lib.hid (show (lp ++ [(⟨⟨x, n, z, rep⟩, A2, c2'⟩ : PE)]).map (·.v) = (lp0.take (k + 1)).map (·.v) from by rw [HTK.out, List.map_append, VV.out]; rfl)
        have hS9 : KeepF (fun j => j = Bn ∨ ∃ a, pA = some a ∧ j = a.block) W6 (wA.setCell ⟨Bn, 2, none⟩ (.slice A9 (pl + 1) c9)) := hHeld.setCell (p := ⟨Bn, 2, none⟩) (.inl rfl) _
        clear TF hSL9 hSL9' hpk9 hK9 hA9 hA9n T9 hg9 hSL hbA
        go_simp
        refine hK.out _ _ hS9 (fun hHeld => ?_)
        clear hK K hS9
        try simp only [Act.put]
        refine wpAnyH_done (by kernel_rfl) ?_ _
        go_wp2
        go_roundw
        case rel => first | exact ⟨k + 1, _, _, _, _, _, by omega, by go_num, HTF.out, HVF.out, HBF.out⟩ | ((repeat apply Exists.intro); exact ⟨⟨by omega, by go_num, HTF.out, HVF.out, HBF.out⟩, rfl⟩)
        case measure => simp [intOf]; omega
      · rw [if_pos (by rfl)]
        go_simp
        refine (clone_un A n c z w0 (by omega) (R6.out.next hb0)).mono ?_
        rintro e w1' ⟨A2, c2', rfl, hc2, hR2, hF2, hbk, hUn⟩
        dsimp only
        have hFl : ∀ a, A2 = some a → w0.heap.size ≤ a.block := hF2
        have hFr : ∀ a, A2 = some a → a.block < w1'.heap.size := fun a e => row_lt hR2 hp1 e
        have hwl1 : ∀ j, W j → j < w0.heap.size := fun j hj => (T0.win j hj).2
        have hFB : ∀ a, A2 = some a → Bn ≤ a.block := fun a e => by have := hFl a e; have := hb0.size; omega
        have T1 := T0.below hbk
        have hb1 : Below W6.heap.size W6 w1' := hb0.trans (hbk.mono hb0.size)
        have hW2 : ∀ j, W j → ∀ a, A2 = some a → j ≠ a.block := fun j hj a e => by have := hFl a e; have := hwl1 j hj; omega
        refine hK.out _ _ (hHeld.more hbk) (fun hHeld => ?_)
        clear hK K hbk hF2
        try simp only [Act.put, List.setIfInBounds_toArray, List.set_cons_zero, List.set_cons_succ]
        refine wpAnyH_take (i := 9) (oi := ⟨some 40, _, _, _, _, _⟩) (v := .agg #[.int .u32 x, .slice A2 n c2']) rfl (by kernel_rfl) (by kernel_rfl) (by kernel_rfl) (fun _ _ _ h => h) (Or.inl ⟨by rfl, fun W hW => (by go_simp)⟩) (by assumption) ?_
        try simp only [Act.put, List.setIfInBounds_toArray, List.set_cons_zero, List.set_cons_succ]
        refine wpAnyH_ready (rs := [1, 10]) (by kernel_rfl) (by simp) ?_
        refine AllReadyH.cons (o := ⟨some 32, _, _, _, _, _⟩) rfl (fun K hK => ?_) (AllReadyH.cons (o := ⟨some 41, _, _, _, _, _⟩) rfl (fun K hK => ?_) AllReadyH.nil)
        · rw [if_pos (by rfl)]
          have h43 := T1.blk.cell 2
          simp at h43
          rw [← HPL2.out] at h43
          go_simp
          refine hK.out _ _ hHeld (fun hHeld => ?_)
          clear hK K h43
          try simp only [Act.put, List.setIfInBounds_toArray, List.set_cons_zero, List.set_cons_succ]
          refine wpAnyH_ready (rs := [10]) (by kernel_rfl) (by simp) ?_
          refine AllReadyH.cons (o := ⟨some 41, _, _, _, _, _⟩) rfl (fun K hK => ?_) AllReadyH.nil
          rw [if_pos (by rfl)]
          go_simp
          obtain ⟨w2', hv⟩ : ∃ X, X = w1'.alloc (.cells #[.int .u32 x, .slice A2 n c2'] 47) := ⟨_, rfl⟩
          obtain ⟨nb, hnb⟩ : ∃ nb, nb = w1'.heap.size := ⟨_, rfl⟩
          have hbk : Below w1'.heap.size w1' w2' := by rw [hv]; exact (Below.refl _ _).alloc (Nat.le_refl _) _
          have hNB : Blk w2' nb 47 #[.int .u32 x, .slice A2 n c2'] := by rw [hv, hnb]; exact Blk.new _ _ _
          have T2 := T1.below hbk
          have hb2 : Below W6.heap.size W6 w2' := hb1.trans (hbk.mono hb1.size)
          replace hR2 := hR2.next hbk
          replace hUn : ∀ a, A2 = some a → UnB w2' a.block := fun a e => (hUn a e).below hbk
          replace hFr : ∀ a, A2 = some a → a.block < w2'.heap.size := fun a e => Nat.lt_of_lt_of_le (hFr a e) hbk.size
          rw [← hv, ← hnb]
          refine hK.out _ _ (hHeld.more hbk) (fun hHeld => ?_)
          clear hK K hbk hv hnb
          try simp only [Act.put, List.setIfInBounds_toArray, List.set_cons_zero, List.set_cons_succ]
          refine wpAnyH_ready (rs := [11]) (by kernel_rfl) (by simp) ?_
          refine AllReadyH.cons (o := ⟨some 42, _, _, _, _, _⟩) rfl (fun K hK => ?_) AllReadyH.nil
          rw [if_pos (by rfl)]
          have hSL := T2.p
          rw [← HPL2.out] at hSL
          refine wp_sl_append _ _ _ _ rfl w2' 47 ic (.agg #[.int .u32 0, .slice none 0 0]) 2 32 Tryz.underlying34 hic hicz hics hicb rfl pA pl pc (lp.flatMap PE.cc) rfl hSL _ rfl 1 [.int .u32 x, .slice A2 n c2'] (Src.ofSlice _ Tryz.underlying34 ⟨nb, 0, none⟩ 1 1 _ rfl (fun j u hu => by
              have hj : j < 2 := (List.getElem?_eq_some_iff.1 hu).1
              rw [Addr.add_lit, Nat.zero_add, hNB.cell j]
              simpa using hu) (by simp [Value.oneCell'])) (by decide) (by unfold maxLen; have := HPL.out; have := HM6.out; have := HQ6.out; omega) (by have := HPL.out; have := HM6.out; have := HQ6.out; omega) ?_
          intro A9 c9 wA hSL9 hK9 hA9
          dsimp only
          have hA9n : ∀ a, A9 = some a → (∃ a', pA = some a' ∧ a.block = a'.block) ∨ w2'.heap.size ≤ a.block := hA9
          refine hK.out _ _ (hHeld.trans hK9 (fun j _ hj => .inr hj)) (fun hHeld => ?_)
          clear hK K
          try simp only [Act.put, List.setIfInBounds_toArray, List.set_cons_zero, List.set_cons_succ]
          refine wpAnyH_take (i := 12) (oi := ⟨some 43, _, _, _, _, _⟩) (v := .pointer (some ⟨Bn, 2, none⟩)) rfl (by kernel_rfl) (by kernel_rfl) (by kernel_rfl) (fun _ _ _ h => h) (Or.inl ⟨by rfl, fun W hW => (by go_simp)⟩) (by assumption) ?_
          try simp only [Act.put, List.setIfInBounds_toArray, List.set_cons_zero, List.set_cons_succ]
          refine wpAnyH_ready (rs := [13]) (by kernel_rfl) (by simp) ?_
          refine AllReadyH.cons (o := ⟨none, _, _, _, _, _⟩) rfl (fun K hK => ?_) AllReadyH.nil
          rw [if_pos (by rfl)]
          have hg9 : Blk wA Bn 36 _ := hK9.blk T2.blk (fun ⟨a, ha, e⟩ => T2.gp a ha e)
          have hc43 := hg9.cell 2
          have hf43 := hg9.frozen 2
          simp at hc43
          have T9 := T2.moreR (R' := fun j => R j ∨ ∃ a, A2 = some a ∧ j = a.block) (fun j hj => .inl hj) (fun j hw hr => by rcases hr with hr | ⟨a, ha, e⟩; exact T2.dis j hw hr; exact hW2 j hw a ha e) (fun j hr => by rcases hr with hr | ⟨a, ha, e⟩; exact T2.rin j hr; (rw [e]; exact ⟨hFB a ha, hFr a ha, hUn a ha⟩))
          have hpk9 : ∀ e : PE, e ∈ lp ++ [(⟨⟨x, n, z, rep⟩, A2, c2'⟩ : PE)] → Pkt wA (fun j => R j ∨ ∃ a, A2 = some a ∧ j = a.block) e.A e.v.n e.c e.v.z := fun e he => by
            have hx : Pkt w2' (fun j => R j ∨ ∃ a, A2 = some a ∧ j = a.block) e.A e.v.n e.c e.v.z := by
              rcases List.mem_append.1 he with he | he
              · exact T9.pe e he
              · have : e = (⟨⟨x, n, z, rep⟩, A2, c2'⟩ : PE) := by simpa using he
                rw [this]
                exact Pkt.of_clone hp1 hp9 hc2 HBY.out hR2
            exact hx.keep hK9 (fun j ⟨a, ha, e2⟩ hr => T9.dis j (by rw [e2]; exact T9.wp a ha) hr)
          have hlen9 : (lp ++ [(⟨⟨x, n, z, rep⟩, A2, c2'⟩ : PE)]).length = pl + 1 := by rw [List.length_append, HPL2.out]; rfl
          have hSL9' : SL wA 47 2 A9 (lp ++ [(⟨⟨x, n, z, rep⟩, A2, c2'⟩ : PE)]).length c9 ((lp ++ [(⟨⟨x, n, z, rep⟩, A2, c2'⟩ : PE)]).flatMap PE.cc) := by
            rw [hlen9, List.flatMap_append]
            exact hSL9
          have TF := T9.setP hK9 hA9n hSL9' hpk9
          rw [hlen9] at TF
          have hbA : Below Bn w wA := KeepF.below ((show Below Bn w W6 from B6.out).trans (hb2.mono hs6)) (hK9.mono (G := W) (fun j ⟨a, ha, e2⟩ => by rw [e2]; exact T2.wp a ha)) (fun j hj => (T2.win j hj).1) (Nat.le_trans hs6 hb2.size)
          have HTF := Lib.hid TF
          have HBF := Lib.hid (show Below Bn w (wA.setCell ⟨Bn, 2, none⟩ (.slice A9 (pl + 1) c9)) from hbA.setCell (p := ⟨Bn, 2, none⟩) (Nat.le_refl _) _)
          have HVF := Lib.hid (show (lp ++ [(⟨⟨x, n, z, rep⟩, A2, c2'⟩ : PE)]).map (·.v) = (lp0.take (k + 1)).map (·.v) from by rw [HTK.out, List.map_append, VV.out]; rfl)
          have hS9 : KeepF (fun j => j = Bn ∨ ∃ a, pA = some a ∧ j = a.block) W6 (wA.setCell ⟨Bn, 2, none⟩ (.slice A9 (pl + 1) c9)) := hHeld.setCell (p := ⟨Bn, 2, none⟩) (.inl rfl) _
          clear TF hSL9 hSL9' hpk9 hK9 hA9 hA9n T9 hg9 hSL hbA
          go_simp
          refine hK.out _ _ hS9 (fun hHeld => ?_)
          clear hK K hS9
          try simp only [Act.put]
          refine wpAnyH_done (by kernel_rfl) ?_ _
          go_wp2
          go_roundw
          case rel => first | exact ⟨k + 1, _, _, _, _, _, by omega, by go_num, HTF.out, HVF.out, HBF.out⟩ | ((repeat apply Exists.intro); exact ⟨⟨by omega, by go_num, HTF.out, HVF.out, HBF.out⟩, rfl⟩)
          case measure => simp [intOf]; omega
        · rw [if_pos (by rfl)]
          go_simp
          obtain ⟨w2', hv⟩ : ∃ X, X = w1'.alloc (.cells #[.int .u32 x, .slice A2 n c2'] 47) := ⟨_, rfl⟩
          obtain ⟨nb, hnb⟩ : ∃ nb, nb = w1'.heap.size := ⟨_, rfl⟩
          have hbk : Below w1'.heap.size w1' w2' := by rw [hv]; exact (Below.refl _ _).alloc (Nat.le_refl _) _
          have hNB : Blk w2' nb 47 #[.int .u32 x, .slice A2 n c2'] := by rw [hv, hnb]; exact Blk.new _ _ _
          have T2 := T1.below hbk
          have hb2 : Below W6.heap.size W6 w2' := hb1.trans (hbk.mono hb1.size)
          replace hR2 := hR2.next hbk
          replace hUn : ∀ a, A2 = some a → UnB w2' a.block := fun a e => (hUn a e).below hbk
          replace hFr : ∀ a, A2 = some a → a.block < w2'.heap.size := fun a e => Nat.lt_of_lt_of_le (hFr a e) hbk.size
          rw [← hv, ← hnb]
          refine hK.out _ _ (hHeld.more hbk) (fun hHeld => ?_)
          clear hK K hbk hv hnb
          try simp only [Act.put, List.setIfInBounds_toArray, List.set_cons_zero, List.set_cons_succ]
          refine wpAnyH_ready (rs := [1]) (by kernel_rfl) (by simp) ?_
          refine AllReadyH.cons (o := ⟨some 32, _, _, _, _, _⟩) rfl (fun K hK => ?_) AllReadyH.nil
          rw [if_pos (by rfl)]
          have h43 := T2.blk.cell 2
          simp at h43
          rw [← HPL2.out] at h43
          go_simp
          refine hK.out _ _ hHeld (fun hHeld => ?_)
          clear hK K h43
          try simp only [Act.put, List.setIfInBounds_toArray, List.set_cons_zero, List.set_cons_succ]
          refine wpAnyH_ready (rs := [11]) (by kernel_rfl) (by simp) ?_
          refine AllReadyH.cons (o := ⟨some 42, _, _, _, _, _⟩) rfl (fun K hK => ?_) AllReadyH.nil
          rw [if_pos (by rfl)]
          have hSL := T2.p
          rw [← HPL2.out] at hSL
          refine wp_sl_append _ _ _ _ rfl w2' 47 ic (.agg #[.int .u32 0, .slice none 0 0]) 2 32 Tryz.underlying34 hic hicz hics hicb rfl pA pl pc (lp.flatMap PE.cc) rfl hSL _ rfl 1 [.int .u32 x, .slice A2 n c2'] (Src.ofSlice _ Tryz.underlying34 ⟨nb, 0, none⟩ 1 1 _ rfl (fun j u hu => by
              have hj : j < 2 := (List.getElem?_eq_some_iff.1 hu).1
              rw [Addr.add_lit, Nat.zero_add, hNB.cell j]
              simpa using hu) (by simp [Value.oneCell'])) (by decide) (by unfold maxLen; have := HPL.out; have := HM6.out; have := HQ6.out; omega) (by have := HPL.out; have := HM6.out; have := HQ6.out; omega) ?_
          intro A9 c9 wA hSL9 hK9 hA9
          dsimp only
          have hA9n : ∀ a, A9 = some a → (∃ a', pA = some a' ∧ a.block = a'.block) ∨ w2'.heap.size ≤ a.block := hA9
          refine hK.out _ _ (hHeld.trans hK9 (fun j _ hj => .inr hj)) (fun hHeld => ?_)
          clear hK K
          try simp only [Act.put, List.setIfInBounds_toArray, List.set_cons_zero, List.set_cons_succ]
          refine wpAnyH_take (i := 12) (oi := ⟨some 43, _, _, _, _, _⟩) (v := .pointer (some ⟨Bn, 2, none⟩)) rfl (by kernel_rfl) (by kernel_rfl) (by kernel_rfl) (fun _ _ _ h => h) (Or.inl ⟨by rfl, fun W hW => (by go_simp)⟩) (by assumption) ?_
          try simp only [Act.put, List.setIfInBounds_toArray, List.set_cons_zero, List.set_cons_succ]
          refine wpAnyH_ready (rs := [13]) (by kernel_rfl) (by simp) ?_
          refine AllReadyH.cons (o := ⟨none, _, _, _, _, _⟩) rfl (fun K hK => ?_) AllReadyH.nil
          rw [if_pos (by rfl)]
          have hg9 : Blk wA Bn 36 _ := hK9.blk T2.blk (fun ⟨a, ha, e⟩ => T2.gp a ha e)
          have hc43 := hg9.cell 2
          have hf43 := hg9.frozen 2
          simp at hc43
          have T9 := T2.moreR (R' := fun j => R j ∨ ∃ a, A2 = some a ∧ j = a.block) (fun j hj => .inl hj) (fun j hw hr => by rcases hr with hr | ⟨a, ha, e⟩; exact T2.dis j hw hr; exact hW2 j hw a ha e) (fun j hr => by rcases hr with hr | ⟨a, ha, e⟩; exact T2.rin j hr; (rw [e]; exact ⟨hFB a ha, hFr a ha, hUn a ha⟩))
          have hpk9 : ∀ e : PE, e ∈ lp ++ [(⟨⟨x, n, z, rep⟩, A2, c2'⟩ : PE)] → Pkt wA (fun j => R j ∨ ∃ a, A2 = some a ∧ j = a.block) e.A e.v.n e.c e.v.z := fun e he => by
            have hx : Pkt w2' (fun j => R j ∨ ∃ a, A2 = some a ∧ j = a.block) e.A e.v.n e.c e.v.z := by
              rcases List.mem_append.1 he with he | he
              · exact T9.pe e he
              · have : e = (⟨⟨x, n, z, rep⟩, A2, c2'⟩ : PE) := by simpa using he
                rw [this]
                exact Pkt.of_clone hp1 hp9 hc2 HBY.out hR2
            exact hx.keep hK9 (fun j ⟨a, ha, e2⟩ hr => T9.dis j (by rw [e2]; exact T9.wp a ha) hr)
          have hlen9 : (lp ++ [(⟨⟨x, n, z, rep⟩, A2, c2'⟩ : PE)]).length = pl + 1 := by rw [List.length_append, HPL2.out]; rfl
          have hSL9' : SL wA 47 2 A9 (lp ++ [(⟨⟨x, n, z, rep⟩, A2, c2'⟩ : PE)]).length c9 ((lp ++ [(⟨⟨x, n, z, rep⟩, A2, c2'⟩ : PE)]).flatMap PE.cc) := by
            rw [hlen9, List.flatMap_append]
            exact hSL9
          have TF := T9.setP hK9 hA9n hSL9' hpk9
          rw [hlen9] at TF
          have hbA : Below Bn w wA := KeepF.below ((show Below Bn w W6 from B6.out).trans (hb2.mono hs6)) (hK9.mono (G := W) (fun j ⟨a, ha, e2⟩ => by rw [e2]; exact T2.wp a ha)) (fun j hj => (T2.win j hj).1) (Nat.le_trans hs6 hb2.size)
          have HTF := Lib.hid TF
          have HBF := Lib.hid (show Below Bn w (wA.setCell ⟨Bn, 2, none⟩ (.slice A9 (pl + 1) c9)) from hbA.setCell (p := ⟨Bn, 2, none⟩) (Nat.le_refl _) _)
          have HVF := Lib.hid (show (lp ++ [(⟨⟨x, n, z, rep⟩, A2, c2'⟩ : PE)]).map (·.v) = (lp0.take (k + 1)).map (·.v) from by rw [HTK.out, List.map_append, VV.out]; rfl)
          have hS9 : KeepF (fun j => j = Bn ∨ ∃ a, pA = some a ∧ j = a.block) W6 (wA.setCell ⟨Bn, 2, none⟩ (.slice A9 (pl + 1) c9)) := hHeld.setCell (p := ⟨Bn, 2, none⟩) (.inl rfl) _
          clear TF hSL9 hSL9' hpk9 hK9 hA9 hA9n T9 hg9 hSL hbA
          go_simp
          refine hK.out _ _ hS9 (fun hHeld => ?_)
          clear hK K hS9
          try simp only [Act.put]
          refine wpAnyH_done (by kernel_rfl) ?_ _
          go_wp2
          go_roundw
          case rel => first | exact ⟨k + 1, _, _, _, _, _, by omega, by go_num, HTF.out, HVF.out, HBF.out⟩ | ((repeat apply Exists.intro); exact ⟨⟨by omega, by go_num, HTF.out, HVF.out, HBF.out⟩, rfl⟩)
          case measure => simp [intOf]; omega
    · obtain rfl : k = m := by omega
      have hlv : lp.map (·.v) = s.P := by rw [VV.out, ← TT.out.pv, HMM.out, List.take_length]
      have HLV := Lib.hid hlv
      have xq := TT.out.cq
      rw [← HMQ.out] at xq
      clear hlv
      go_wp2
      go_loopw [50] (fun v wq => ∃ (j : Nat) (W R : Nat → Prop) (qA : Option Addr) (qc : Nat) (lq : List WE), j ≤ mq ∧ v = .int .i64 j ∧ FwN wq Bn Bn ny us W R pA pc lp qA qc lq ∧ lq.map (·.v) = (lq0.take j).map (·.v) ∧ Below Bn w wq) (fun v _ => mq - (intOf v).toNat)
      case atStart => exact ⟨0, _, _, _, _, _, by omega, rfl, FF.out, by simp, BB.out⟩
      case round =>
        clear xq FF BB TT VV hbs W R
        obtain ⟨j, W, R, qA, qc, lq, hj, rfl, hF, hv, hb⟩ := hrel
        have FF := Lib.hid hF
        have BB := Lib.hid hb
        have VV := Lib.hid hv
        have hbs : Bn ≤ wr.heap.size := by have := hb.size; have := HBN.out; omega
        have TT := Lib.hid (HT.out.below (hb.mono (by rw [HBN.out]; exact Nat.le_refl _)))
        clear hF hv hb
        by_cases hlt : j < mq
        · obtain ⟨e0, he0⟩ : ∃ e0, lq0[j]? = some e0 := ⟨lq0[j]'(by have := HMQ.out; omega), by simp [HMQ.out ▸ hlt]⟩
          obtain ⟨b, o, hpA, hlb, c0, c1⟩ := TT.out.qcell he0
          have hpk := TT.out.qe e0 (List.mem_of_getElem? he0)
          have HE := Lib.hid he0
          obtain ⟨⟨n, z, at_⟩, A, c⟩ := e0
          dsimp only at c0 c1 hpk
          have HPK := Lib.hid hpk
          have k0 : (0 : Int) ≤ (j : Int) := by omega
          have k1 : (j : Int) < (mq : Int) := by omega
          subst hpA
          clear hpk he0
          go_upto_region 12 with (fail)
          refine wp_let (fun W' => Blk W' wr.heap.size 103 #[.slice A n c, .int .i64 at_] ∧ Below wr.heap.size wr W') ⟨Blk.new _ _ _, (Below.refl _ wr).alloc (Nat.le_refl _) _⟩ ?_
          rintro W6 ⟨b6, b7⟩
          obtain ⟨xb, hxb⟩ : ∃ xb, xb = wr.heap.size := ⟨_, rfl⟩
          have hxg : xb ≠ Bn := by have := FF.out.blk.lt; omega
          have hxp : ∀ a, qA = some a → xb ≠ a.block := fun a e => by have := FF.out.q.lt e; omega
          have F6 := Lib.hid (FF.out.below b7)
          have B6 := Lib.hid (show Below Bn w W6 from BB.out.trans (b7.mono hbs))
          have hs6 : Bn ≤ W6.heap.size := Nat.le_trans hbs b7.size
          have R6 := Lib.hid (show Row W6 W6.heap.size A n (fun j => .int .u8 (z j)) from HPK.out.row.next b7)
          have HBY := Lib.hid HPK.out.byte
          have hp1 := HPK.out.pos
          have hp9 := HPK.out.max
          rw [← hxb] at b6 ⊢
          have X6 := Lib.hid b6
          clear b6 b7 hxb c0 c1
          have HS := Lib.hid (show ∀ W', KeepF (fun j => j = Bn ∨ ∃ a, qA = some a ∧ j = a.block) W6 W' → W'.cell? ⟨xb, 0, none⟩ = some (.slice A n c) from fun W' hW => by
            have := hW.blk X6.out (fun hf => by rcases hf with h | ⟨a, ha, h⟩; exact hxg h; exact hxp a ha h)
            exact this.cell 0)
          obtain ⟨w0, hw0⟩ : ∃ w0, w0 = W6.drew := ⟨_, rfl⟩
          have T0 : FwN w0 Bn Bn ny us W R pA pc lp qA qc lq := by rw [hw0]; exact F6.out.below (Below.refl _ _).drew
          have hb0 : Below W6.heap.size W6 w0 := by rw [hw0]; exact (Below.refl _ _).drew
          obtain ⟨is, his, hisz, hiss, hisb⟩ := infoBs
          refine wp_region_held_drew (S := fun w' => KeepF (fun j => j = Bn ∨ ∃ a, qA = some a ∧ j = a.block) W6 w') (by kernel_rfl) ((KeepF.refl (w := W6)).drew) (fun hHeld => ?_)
          rw [← hw0]
          rw [← hw0] at hHeld
          clear hw0
          obtain ⟨pl, hpl⟩ : ∃ pl, pl = lq.length := ⟨_, rfl⟩
          have HPL2 := Lib.hid hpl
          have HPL : Hid (pl = j) := Lib.hid (by have := congrArg List.length VV.out; simp at this; have := HMQ.out; omega)
          have HTK := Lib.hid (show (lq0.take (j + 1)).map (·.v) = (lq0.take j).map (·.v) ++ [(⟨n, z, at_⟩ : QV)] from by rw [List.take_add_one, HE.out, List.map_append]; rfl)
          have hbF : Bn ≤ w0.heap.size := Nat.le_trans hs6 hb0.size
          clear hpl
          refine wpAnyH_take (i := 0) (oi := ⟨some 54, _, _, _, _, _⟩) (v := .pointer (some ⟨Bn, 3, none⟩)) rfl (by kernel_rfl) (by kernel_rfl) (by kernel_rfl) (fun _ _ _ h => h) (Or.inl ⟨by rfl, fun W hW => (by go_simp)⟩) (by assumption) ?_
          try simp only [Act.put, List.setIfInBounds_toArray, List.set_cons_zero, List.set_cons_succ]
          refine wpAnyH_take (i := 2) (oi := ⟨some 56, _, _, _, _, _⟩) (v := .pointer (some ⟨xb, 0, none⟩)) rfl (by kernel_rfl) (by kernel_rfl) (by kernel_rfl) (fun _ _ _ h => h) (Or.inl ⟨by rfl, fun W hW => (by go_simp)⟩) (by assumption) ?_
          try simp only [Act.put, List.setIfInBounds_toArray, List.set_cons_zero, List.set_cons_succ]
          refine wpAnyH_take (i := 3) (oi := ⟨some 57, _, _, _, _, _⟩) (v := .slice A n c) rfl (by kernel_rfl) (by kernel_rfl) (by kernel_rfl) (fun _ _ _ h => h) (Or.inl ⟨by rfl, fun W hW => (by have u0 := HS.out W hW; go_simp)⟩) (by assumption) ?_
          try simp only [Act.put, List.setIfInBounds_toArray, List.set_cons_zero, List.set_cons_succ]
          refine wpAnyH_ready (rs := [1, 4]) (by kernel_rfl) (by simp) ?_
          refine AllReadyH.cons (o := ⟨some 55, _, _, _, _, _⟩) rfl (fun K hK => ?_) (AllReadyH.cons (o := ⟨some 58, _, _, _, _, _⟩) rfl (fun K hK => ?_) AllReadyH.nil)
          · rw [if_pos (by rfl)]
            have h43 := T0.blk.cell 3
            simp at h43
            rw [← HPL2.out] at h43
            go_simp
            refine hK.out _ _ hHeld (fun hHeld => ?_)
            clear hK K h43
            try simp only [Act.put, List.setIfInBounds_toArray, List.set_cons_zero, List.set_cons_succ]
            refine wpAnyH_ready (rs := [4]) (by kernel_rfl) (by simp) ?_
            refine AllReadyH.cons (o := ⟨some 58, _, _, _, _, _⟩) rfl (fun K hK => ?_) AllReadyH.nil
            rw [if_pos (by rfl)]
            go_simp
            refine (clone_un A n c z w0 (by omega) (R6.out.next hb0)).mono ?_
            rintro e w1' ⟨A2, c2', rfl, hc2, hR2, hF2, hbk, hUn⟩
            dsimp only
            have hFl : ∀ a, A2 = some a → w0.heap.size ≤ a.block := hF2
            have hFr : ∀ a, A2 = some a → a.block < w1'.heap.size := fun a e => row_lt hR2 hp1 e
            have hwl1 : ∀ j, W j → j < w0.heap.size := fun j hj => (T0.win j hj).2
            have hFB : ∀ a, A2 = some a → Bn ≤ a.block := fun a e => by have := hFl a e; have := hb0.size; omega
            have T1 := T0.below hbk
            have hb1 : Below W6.heap.size W6 w1' := hb0.trans (hbk.mono hb0.size)
            have hW2 : ∀ j, W j → ∀ a, A2 = some a → j ≠ a.block := fun j hj a e => by have := hFl a e; have := hwl1 j hj; omega
            refine hK.out _ _ (hHeld.more hbk) (fun hHeld => ?_)
            clear hK K hbk hF2
            try simp only [Act.put, List.setIfInBounds_toArray, List.set_cons_zero, List.set_cons_succ]
            refine wpAnyH_ready (rs := [5]) (by kernel_rfl) (by simp) ?_
            refine AllReadyH.cons (o := ⟨some 59, _, _, _, _, _⟩) rfl (fun K hK => ?_) AllReadyH.nil
            rw [if_pos (by rfl)]
            go_simp
            obtain ⟨w2', hv⟩ : ∃ X, X = w1'.alloc (.cells #[.slice A2 n c2'] 27) := ⟨_, rfl⟩
            obtain ⟨nb, hnb⟩ : ∃ nb, nb = w1'.heap.size := ⟨_, rfl⟩
            have hbk : Below w1'.heap.size w1' w2' := by rw [hv]; exact (Below.refl _ _).alloc (Nat.le_refl _) _
            have hNB : Blk w2' nb 27 #[.slice A2 n c2'] := by rw [hv, hnb]; exact Blk.new _ _ _
            have T2 := T1.below hbk
            have hb2 : Below W6.heap.size W6 w2' := hb1.trans (hbk.mono hb1.size)
            replace hR2 := hR2.next hbk
            replace hUn : ∀ a, A2 = some a → UnB w2' a.block := fun a e => (hUn a e).below hbk
            replace hFr : ∀ a, A2 = some a → a.block < w2'.heap.size := fun a e => Nat.lt_of_lt_of_le (hFr a e) hbk.size
            rw [← hv, ← hnb]
            refine hK.out _ _ (hHeld.more hbk) (fun hHeld => ?_)
            clear hK K hbk hv hnb
            try simp only [Act.put, List.setIfInBounds_toArray, List.set_cons_zero, List.set_cons_succ]
            refine wpAnyH_ready (rs := [6]) (by kernel_rfl) (by simp) ?_
            refine AllReadyH.cons (o := ⟨some 60, _, _, _, _, _⟩) rfl (fun K hK => ?_) AllReadyH.nil
            rw [if_pos (by rfl)]
            have hSL := T2.q
            rw [← HPL2.out] at hSL
            refine wp_sl_append _ _ _ _ rfl w2' 27 is (.slice none 0 0) 1 24 Tryz.underlying33 his hisz hiss hisb rfl qA pl qc (lq.flatMap WE.cc) rfl hSL _ rfl 1 [.slice A2 n c2'] (Src.ofSlice _ Tryz.underlying33 ⟨nb, 0, none⟩ 1 1 _ rfl (fun j u hu => by
                have hj : j < 1 := (List.getElem?_eq_some_iff.1 hu).1
                rw [Addr.add_lit, Nat.zero_add, hNB.cell j]
                simpa using hu) (by simp [Value.oneCell'])) (by decide) (by unfold maxLen; have := HPL.out; have := HM6.out; have := HQ6.out; omega) (by have := HPL.out; have := HM6.out; have := HQ6.out; omega) ?_
            intro A9 c9 wA hSL9 hK9 hA9
            dsimp only
            have hA9n : ∀ a, A9 = some a → (∃ a', qA = some a' ∧ a.block = a'.block) ∨ w2'.heap.size ≤ a.block := hA9
            refine hK.out _ _ (hHeld.trans hK9 (fun j _ hj => .inr hj)) (fun hHeld => ?_)
            clear hK K
            try simp only [Act.put, List.setIfInBounds_toArray, List.set_cons_zero, List.set_cons_succ]
            refine wpAnyH_take (i := 7) (oi := ⟨some 61, _, _, _, _, _⟩) (v := .pointer (some ⟨Bn, 3, none⟩)) rfl (by kernel_rfl) (by kernel_rfl) (by kernel_rfl) (fun _ _ _ h => h) (Or.inl ⟨by rfl, fun W hW => (by go_simp)⟩) (by assumption) ?_
            try simp only [Act.put, List.setIfInBounds_toArray, List.set_cons_zero, List.set_cons_succ]
            refine wpAnyH_ready (rs := [8]) (by kernel_rfl) (by simp) ?_
            refine AllReadyH.cons (o := ⟨none, _, _, _, _, _⟩) rfl (fun K hK => ?_) AllReadyH.nil
            rw [if_pos (by rfl)]
            have hg9 : Blk wA Bn 36 _ := hK9.blk T2.blk (fun ⟨a, ha, e⟩ => T2.gq a ha e)
            have hc43 := hg9.cell 3
            have hf43 := hg9.frozen 3
            simp at hc43
            have T9 := T2.moreR (R' := fun j => R j ∨ ∃ a, A2 = some a ∧ j = a.block) (fun j hj => .inl hj) (fun j hw hr => by rcases hr with hr | ⟨a, ha, e⟩; exact T2.dis j hw hr; exact hW2 j hw a ha e) (fun j hr => by rcases hr with hr | ⟨a, ha, e⟩; exact T2.rin j hr; (rw [e]; exact ⟨hFB a ha, hFr a ha, hUn a ha⟩))
            have hpk9 : ∀ e : WE, e ∈ lq ++ [(⟨⟨n, z, at_⟩, A2, c2'⟩ : WE)] → Pkt wA (fun j => R j ∨ ∃ a, A2 = some a ∧ j = a.block) e.A e.v.n e.c e.v.z := fun e he => by
              have hx : Pkt w2' (fun j => R j ∨ ∃ a, A2 = some a ∧ j = a.block) e.A e.v.n e.c e.v.z := by
                rcases List.mem_append.1 he with he | he
                · exact T9.qe e he
                · have : e = (⟨⟨n, z, at_⟩, A2, c2'⟩ : WE) := by simpa using he
                  rw [this]
                  exact Pkt.of_clone hp1 hp9 hc2 HBY.out hR2
              exact hx.keep hK9 (fun j ⟨a, ha, e2⟩ hr => T9.dis j (by rw [e2]; exact T9.wq a ha) hr)
            have hlen9 : (lq ++ [(⟨⟨n, z, at_⟩, A2, c2'⟩ : WE)]).length = pl + 1 := by rw [List.length_append, HPL2.out]; rfl
            have hSL9' : SL wA 27 1 A9 (lq ++ [(⟨⟨n, z, at_⟩, A2, c2'⟩ : WE)]).length c9 ((lq ++ [(⟨⟨n, z, at_⟩, A2, c2'⟩ : WE)]).flatMap WE.cc) := by
              rw [hlen9, List.flatMap_append]
              exact hSL9
            have TF := T9.setQ hK9 hA9n hSL9' hpk9
            rw [hlen9] at TF
            have hbA : Below Bn w wA := KeepF.below ((show Below Bn w W6 from B6.out).trans (hb2.mono hs6)) (hK9.mono (G := W) (fun j ⟨a, ha, e2⟩ => by rw [e2]; exact T2.wq a ha)) (fun j hj => (T2.win j hj).1) (Nat.le_trans hs6 hb2.size)
            have HTF := Lib.hid TF
            have HBF := Lib.hid (show Below Bn w (wA.setCell ⟨Bn, 3, none⟩ (.slice A9 (pl + 1) c9)) from hbA.setCell (p := ⟨Bn, 3, none⟩) (Nat.le_refl _) _)
            have HVF := Lib.hid (show (lq ++ [(⟨⟨n, z, at_⟩, A2, c2'⟩ : WE)]).map (·.v) = (lq0.take (j + 1)).map (·.v) from by rw [HTK.out, List.map_append, VV.out]; rfl)
            have hS9 : KeepF (fun j => j = Bn ∨ ∃ a, qA = some a ∧ j = a.block) W6 (wA.setCell ⟨Bn, 3, none⟩ (.slice A9 (pl + 1) c9)) := hHeld.setCell (p := ⟨Bn, 3, none⟩) (.inl rfl) _
            clear TF hSL9 hSL9' hpk9 hK9 hA9 hA9n T9 hg9 hSL hbA
            go_simp
            refine hK.out _ _ hS9 (fun hHeld => ?_)
            clear hK K hS9
            try simp only [Act.put]
            refine wpAnyH_done (by kernel_rfl) ?_ _
            go_wp2
            go_roundw
            case rel => first | exact ⟨j + 1, _, _, _, _, _, by omega, by go_num, HTF.out, HVF.out, HBF.out⟩ | ((repeat apply Exists.intro); exact ⟨⟨by omega, by go_num, HTF.out, HVF.out, HBF.out⟩, rfl⟩)
            case measure => simp [intOf]; omega
          · rw [if_pos (by rfl)]
            go_simp
            refine (clone_un A n c z w0 (by omega) (R6.out.next hb0)).mono ?_
            rintro e w1' ⟨A2, c2', rfl, hc2, hR2, hF2, hbk, hUn⟩
            dsimp only
            have hFl : ∀ a, A2 = some a → w0.heap.size ≤ a.block := hF2
            have hFr : ∀ a, A2 = some a → a.block < w1'.heap.size := fun a e => row_lt hR2 hp1 e
            have hwl1 : ∀ j, W j → j < w0.heap.size := fun j hj => (T0.win j hj).2
            have hFB : ∀ a, A2 = some a → Bn ≤ a.block := fun a e => by have := hFl a e; have := hb0.size; omega
            have T1 := T0.below hbk
            have hb1 : Below W6.heap.size W6 w1' := hb0.trans (hbk.mono hb0.size)
            have hW2 : ∀ j, W j → ∀ a, A2 = some a → j ≠ a.block := fun j hj a e => by have := hFl a e; have := hwl1 j hj; omega
            refine hK.out _ _ (hHeld.more hbk) (fun hHeld => ?_)
            clear hK K hbk hF2
            try simp only [Act.put, List.setIfInBounds_toArray, List.set_cons_zero, List.set_cons_succ]
            refine wpAnyH_ready (rs := [1, 5]) (by kernel_rfl) (by simp) ?_
            refine AllReadyH.cons (o := ⟨some 55, _, _, _, _, _⟩) rfl (fun K hK => ?_) (AllReadyH.cons (o := ⟨some 59, _, _, _, _, _⟩) rfl (fun K hK => ?_) AllReadyH.nil)
            · rw [if_pos (by rfl)]
              have h43 := T1.blk.cell 3
              simp at h43
              rw [← HPL2.out] at h43
              go_simp
              refine hK.out _ _ hHeld (fun hHeld => ?_)
              clear hK K h43
              try simp only [Act.put, List.setIfInBounds_toArray, List.set_cons_zero, List.set_cons_succ]
              refine wpAnyH_ready (rs := [5]) (by kernel_rfl) (by simp) ?_
              refine AllReadyH.cons (o := ⟨some 59, _, _, _, _, _⟩) rfl (fun K hK => ?_) AllReadyH.nil
              rw [if_pos (by rfl)]
              go_simp
              obtain ⟨w2', hv⟩ : ∃ X, X = w1'.alloc (.cells #[.slice A2 n c2'] 27) := ⟨_, rfl⟩
              obtain ⟨nb, hnb⟩ : ∃ nb, nb = w1'.heap.size := ⟨_, rfl⟩
              have hbk : Below w1'.heap.size w1' w2' := by rw [hv]; exact (Below.refl _ _).alloc (Nat.le_refl _) _
              have hNB : Blk w2' nb 27 #[.slice A2 n c2'] := by rw [hv, hnb]; exact Blk.new _ _ _
              have T2 := T1.below hbk
              have hb2 : Below W6.heap.size W6 w2' := hb1.trans (hbk.mono hb1.size)
              replace hR2 := hR2.next hbk
              replace hUn : ∀ a, A2 = some a → UnB w2' a.block := fun a e => (hUn a e).below hbk
              replace hFr : ∀ a, A2 = some a → a.block < w2'.heap.size := fun a e => Nat.lt_of_lt_of_le (hFr a e) hbk.size
              rw [← hv, ← hnb]
              refine hK.out _ _ (hHeld.more hbk) (fun hHeld => ?_)
              clear hK K hbk hv hnb
              try simp only [Act.put, List.setIfInBounds_toArray, List.set_cons_zero, List.set_cons_succ]
              refine wpAnyH_ready (rs := [6]) (by kernel_rfl) (by simp) ?_
              refine AllReadyH.cons (o := ⟨some 60, _, _, _, _, _⟩) rfl (fun K hK => ?_) AllReadyH.nil
              rw [if_pos (by rfl)]
              have hSL := T2.q
              rw [← HPL2.out] at hSL
              refine wp_sl_append _ _ _ _ rfl w2' 27 is (.slice none 0 0) 1 24 Tryz.underlying33 his hisz hiss hisb rfl qA pl qc (lq.flatMap WE.cc) rfl hSL _ rfl 1 [.slice A2 n c2'] (Src.ofSlice _ Tryz.underlying33 ⟨nb, 0, none⟩ 1 1 _ rfl (fun j u hu => by
                  have hj : j < 1 := (List.getElem?_eq_some_iff.1 hu).1
                  rw [Addr.add_lit, Nat.zero_add, hNB.cell j]
                  simpa using hu) (by simp [Value.oneCell'])) (by decide) (by unfold maxLen; have := HPL.out; have := HM6.out; have := HQ6.out; omega) (by have := HPL.out; have := HM6.out; have := HQ6.out; omega) ?_
              intro A9 c9 wA hSL9 hK9 hA9
              dsimp only
              have hA9n : ∀ a, A9 = some a → (∃ a', qA = some a' ∧ a.block = a'.block) ∨ w2'.heap.size ≤ a.block := hA9
              refine hK.out _ _ (hHeld.trans hK9 (fun j _ hj => .inr hj)) (fun hHeld => ?_)
              clear hK K
              try simp only [Act.put, List.setIfInBounds_toArray, List.set_cons_zero, List.set_cons_succ]
              refine wpAnyH_take (i := 7) (oi := ⟨some 61, _, _, _, _, _⟩) (v := .pointer (some ⟨Bn, 3, none⟩)) rfl (by kernel_rfl) (by kernel_rfl) (by kernel_rfl) (fun _ _ _ h => h) (Or.inl ⟨by rfl, fun W hW => (by go_simp)⟩) (by assumption) ?_
              try simp only [Act.put, List.setIfInBounds_toArray, List.set_cons_zero, List.set_cons_succ]
              refine wpAnyH_ready (rs := [8]) (by kernel_rfl) (by simp) ?_
              refine AllReadyH.cons (o := ⟨none, _, _, _, _, _⟩) rfl (fun K hK => ?_) AllReadyH.nil
              rw [if_pos (by rfl)]
              have hg9 : Blk wA Bn 36 _ := hK9.blk T2.blk (fun ⟨a, ha, e⟩ => T2.gq a ha e)
              have hc43 := hg9.cell 3
              have hf43 := hg9.frozen 3
              simp at hc43
              have T9 := T2.moreR (R' := fun j => R j ∨ ∃ a, A2 = some a ∧ j = a.block) (fun j hj => .inl hj) (fun j hw hr => by rcases hr with hr | ⟨a, ha, e⟩; exact T2.dis j hw hr; exact hW2 j hw a ha e) (fun j hr => by rcases hr with hr | ⟨a, ha, e⟩; exact T2.rin j hr; (rw [e]; exact ⟨hFB a ha, hFr a ha, hUn a ha⟩))
              have hpk9 : ∀ e : WE, e ∈ lq ++ [(⟨⟨n, z, at_⟩, A2, c2'⟩ : WE)] → Pkt wA (fun j => R j ∨ ∃ a, A2 = some a ∧ j = a.block) e.A e.v.n e.c e.v.z := fun e he => by
                have hx : Pkt w2' (fun j => R j ∨ ∃ a, A2 = some a ∧ j = a.block) e.A e.v.n e.c e.v.z := by
                  rcases List.mem_append.1 he with he | he
                  · exact T9.qe e he
                  · have : e = (⟨⟨n, z, at_⟩, A2, c2'⟩ : WE) := by simpa using he
                    rw [this]
                    exact Pkt.of_clone hp1 hp9 hc2 HBY.out hR2
                exact hx.keep hK9 (fun j ⟨a, ha, e2⟩ hr => T9.dis j (by rw [e2]; exact T9.wq a ha) hr)
              have hlen9 : (lq ++ [(⟨⟨n, z, at_⟩, A2, c2'⟩ : WE)]).length = pl + 1 := by rw [List.length_append, HPL2.out]; rfl
              have hSL9' : SL wA 27 1 A9 (lq ++ [(⟨⟨n, z, at_⟩, A2, c2'⟩ : WE)]).length c9 ((lq ++ [(⟨⟨n, z, at_⟩, A2, c2'⟩ : WE)]).flatMap WE.cc) := by
                rw [hlen9, List.flatMap_append]
                exact hSL9
              have TF := T9.setQ hK9 hA9n hSL9' hpk9
              rw [hlen9] at TF
              have hbA : Below Bn w wA := KeepF.below ((show Below Bn w W6 from B6.out).trans (hb2.mono hs6)) (hK9.mono (G := W) (fun j ⟨a, ha, e2⟩ => by rw [e2]; exact T2.wq a ha)) (fun j hj => (T2.win j hj).1) (Nat.le_trans hs6 hb2.size)
              have HTF := Lib.hid TF
              have HBF := Lib.hid (show Below Bn w (wA.setCell ⟨Bn, 3, none⟩ (.slice A9 (pl + 1) c9)) from hbA.setCell (p := ⟨Bn, 3, none⟩) (Nat.le_refl _) _)
              have HVF := Lib.hid (show (lq ++ [(⟨⟨n, z, at_⟩, A2, c2'⟩ : WE)]).map (·.v) = (lq0.take (j + 1)).map (·.v) from by rw [HTK.out, List.map_append, VV.out]; rfl)
              have hS9 : KeepF (fun j => j = Bn ∨ ∃ a, qA = some a ∧ j = a.block) W6 (wA.setCell ⟨Bn, 3, none⟩ (.slice A9 (pl + 1) c9)) := hHeld.setCell (p := ⟨Bn, 3, none⟩) (.inl rfl) _
              clear TF hSL9 hSL9' hpk9 hK9 hA9 hA9n T9 hg9 hSL hbA
              go_simp
              refine hK.out _ _ hS9 (fun hHeld => ?_)
              clear hK K hS9
              try simp only [Act.put]
              refine wpAnyH_done (by kernel_rfl) ?_ _
              go_wp2
              go_roundw
              case rel => first | exact ⟨j + 1, _, _, _, _, _, by omega, by go_num, HTF.out, HVF.out, HBF.out⟩ | ((repeat apply Exists.intro); exact ⟨⟨by omega, by go_num, HTF.out, HVF.out, HBF.out⟩, rfl⟩)
              case measure => simp [intOf]; omega
            · rw [if_pos (by rfl)]
              go_simp
              obtain ⟨w2', hv⟩ : ∃ X, X = w1'.alloc (.cells #[.slice A2 n c2'] 27) := ⟨_, rfl⟩
              obtain ⟨nb, hnb⟩ : ∃ nb, nb = w1'.heap.size := ⟨_, rfl⟩
              have hbk : Below w1'.heap.size w1' w2' := by rw [hv]; exact (Below.refl _ _).alloc (Nat.le_refl _) _
              have hNB : Blk w2' nb 27 #[.slice A2 n c2'] := by rw [hv, hnb]; exact Blk.new _ _ _
              have T2 := T1.below hbk
              have hb2 : Below W6.heap.size W6 w2' := hb1.trans (hbk.mono hb1.size)
              replace hR2 := hR2.next hbk
              replace hUn : ∀ a, A2 = some a → UnB w2' a.block := fun a e => (hUn a e).below hbk
              replace hFr : ∀ a, A2 = some a → a.block < w2'.heap.size := fun a e => Nat.lt_of_lt_of_le (hFr a e) hbk.size
              rw [← hv, ← hnb]
              refine hK.out _ _ (hHeld.more hbk) (fun hHeld => ?_)
              clear hK K hbk hv hnb
              try simp only [Act.put, List.setIfInBounds_toArray, List.set_cons_zero, List.set_cons_succ]
              refine wpAnyH_ready (rs := [1]) (by kernel_rfl) (by simp) ?_
              refine AllReadyH.cons (o := ⟨some 55, _, _, _, _, _⟩) rfl (fun K hK => ?_) AllReadyH.nil
              rw [if_pos (by rfl)]
              have h43 := T2.blk.cell 3
              simp at h43
              rw [← HPL2.out] at h43
              go_simp
              refine hK.out _ _ hHeld (fun hHeld => ?_)
              clear hK K h43
              try simp only [Act.put, List.setIfInBounds_toArray, List.set_cons_zero, List.set_cons_succ]
              refine wpAnyH_ready (rs := [6]) (by kernel_rfl) (by simp) ?_
              refine AllReadyH.cons (o := ⟨some 60, _, _, _, _, _⟩) rfl (fun K hK => ?_) AllReadyH.nil
              rw [if_pos (by rfl)]
              have hSL := T2.q
              rw [← HPL2.out] at hSL
              refine wp_sl_append _ _ _ _ rfl w2' 27 is (.slice none 0 0) 1 24 Tryz.underlying33 his hisz hiss hisb rfl qA pl qc (lq.flatMap WE.cc) rfl hSL _ rfl 1 [.slice A2 n c2'] (Src.ofSlice _ Tryz.underlying33 ⟨nb, 0, none⟩ 1 1 _ rfl (fun j u hu => by
                  have hj : j < 1 := (List.getElem?_eq_some_iff.1 hu).1
                  rw [Addr.add_lit, Nat.zero_add, hNB.cell j]
                  simpa using hu) (by simp [Value.oneCell'])) (by decide) (by unfold maxLen; have := HPL.out; have := HM6.out; have := HQ6.out; omega) (by have := HPL.out; have := HM6.out; have := HQ6.out; omega) ?_
              intro A9 c9 wA hSL9 hK9 hA9
              dsimp only
              have hA9n : ∀ a, A9 = some a → (∃ a', qA = some a' ∧ a.block = a'.block) ∨ w2'.heap.size ≤ a.block := hA9
              refine hK.out _ _ (hHeld.trans hK9 (fun j _ hj => .inr hj)) (fun hHeld => ?_)
              clear hK K
              try simp only [Act.put, List.setIfInBounds_toArray, List.set_cons_zero, List.set_cons_succ]
              refine wpAnyH_take (i := 7) (oi := ⟨some 61, _, _, _, _, _⟩) (v := .pointer (some ⟨Bn, 3, none⟩)) rfl (by kernel_rfl) (by kernel_rfl) (by kernel_rfl) (fun _ _ _ h => h) (Or.inl ⟨by rfl, fun W hW => (by go_simp)⟩) (by assumption) ?_
              try simp only [Act.put, List.setIfInBounds_toArray, List.set_cons_zero, List.set_cons_succ]
              refine wpAnyH_ready (rs := [8]) (by kernel_rfl) (by simp) ?_
              refine AllReadyH.cons (o := ⟨none, _, _, _, _, _⟩) rfl (fun K hK => ?_) AllReadyH.nil
              rw [if_pos (by rfl)]
              have hg9 : Blk wA Bn 36 _ := hK9.blk T2.blk (fun ⟨a, ha, e⟩ => T2.gq a ha e)
              have hc43 := hg9.cell 3
              have hf43 := hg9.frozen 3
              simp at hc43
              have T9 := T2.moreR (R' := fun j => R j ∨ ∃ a, A2 = some a ∧ j = a.block) (fun j hj => .inl hj) (fun j hw hr => by rcases hr with hr | ⟨a, ha, e⟩; exact T2.dis j hw hr; exact hW2 j hw a ha e) (fun j hr => by rcases hr with hr | ⟨a, ha, e⟩; exact T2.rin j hr; (rw [e]; exact ⟨hFB a ha, hFr a ha, hUn a ha⟩))
              have hpk9 : ∀ e : WE, e ∈ lq ++ [(⟨⟨n, z, at_⟩, A2, c2'⟩ : WE)] → Pkt wA (fun j => R j ∨ ∃ a, A2 = some a ∧ j = a.block) e.A e.v.n e.c e.v.z := fun e he => by
                have hx : Pkt w2' (fun j => R j ∨ ∃ a, A2 = some a ∧ j = a.block) e.A e.v.n e.c e.v.z := by
                  rcases List.mem_append.1 he with he | he
                  · exact T9.qe e he
                  · have : e = (⟨⟨n, z, at_⟩, A2, c2'⟩ : WE) := by simpa using he
                    rw [this]
                    exact Pkt.of_clone hp1 hp9 hc2 HBY.out hR2
                exact hx.keep hK9 (fun j ⟨a, ha, e2⟩ hr => T9.dis j (by rw [e2]; exact T9.wq a ha) hr)
              have hlen9 : (lq ++ [(⟨⟨n, z, at_⟩, A2, c2'⟩ : WE)]).length = pl + 1 := by rw [List.length_append, HPL2.out]; rfl
              have hSL9' : SL wA 27 1 A9 (lq ++ [(⟨⟨n, z, at_⟩, A2, c2'⟩ : WE)]).length c9 ((lq ++ [(⟨⟨n, z, at_⟩, A2, c2'⟩ : WE)]).flatMap WE.cc) := by
                rw [hlen9, List.flatMap_append]
                exact hSL9
              have TF := T9.setQ hK9 hA9n hSL9' hpk9
              rw [hlen9] at TF
              have hbA : Below Bn w wA := KeepF.below ((show Below Bn w W6 from B6.out).trans (hb2.mono hs6)) (hK9.mono (G := W) (fun j ⟨a, ha, e2⟩ => by rw [e2]; exact T2.wq a ha)) (fun j hj => (T2.win j hj).1) (Nat.le_trans hs6 hb2.size)
              have HTF := Lib.hid TF
              have HBF := Lib.hid (show Below Bn w (wA.setCell ⟨Bn, 3, none⟩ (.slice A9 (pl + 1) c9)) from hbA.setCell (p := ⟨Bn, 3, none⟩) (Nat.le_refl _) _)
              have HVF := Lib.hid (show (lq ++ [(⟨⟨n, z, at_⟩, A2, c2'⟩ : WE)]).map (·.v) = (lq0.take (j + 1)).map (·.v) from by rw [HTK.out, List.map_append, VV.out]; rfl)
              have hS9 : KeepF (fun j => j = Bn ∨ ∃ a, qA = some a ∧ j = a.block) W6 (wA.setCell ⟨Bn, 3, none⟩ (.slice A9 (pl + 1) c9)) := hHeld.setCell (p := ⟨Bn, 3, none⟩) (.inl rfl) _
              clear TF hSL9 hSL9' hpk9 hK9 hA9 hA9n T9 hg9 hSL hbA
              go_simp
              refine hK.out _ _ hS9 (fun hHeld => ?_)
              clear hK K hS9
              try simp only [Act.put]
              refine wpAnyH_done (by kernel_rfl) ?_ _
              go_wp2
              go_roundw
              case rel => first | exact ⟨j + 1, _, _, _, _, _, by omega, by go_num, HTF.out, HVF.out, HBF.out⟩ | ((repeat apply Exists.intro); exact ⟨⟨by omega, by go_num, HTF.out, HVF.out, HBF.out⟩, rfl⟩)
              case measure => simp [intOf]; omega
        · obtain rfl : j = mq := by omega
          have hlq : lq.map (·.v) = s.Q := by rw [VV.out, ← TT.out.qv, HMQ.out, List.take_length]
          have HLQ := Lib.hid hlq
          have x0 := FF.out.blk.cell 0
          have x1 := FF.out.blk.cell 1
          have x2 := FF.out.blk.cell 2
          have x3 := FF.out.blk.cell 3
          simp at x0 x1 x2 x3
          have f0 := FF.out.blk.frozen 0
          have f1 := FF.out.blk.frozen 1
          have f2 := FF.out.blk.frozen 2
          have f3 := FF.out.blk.frozen 3
          clear hlq
          go_wp2
          have hB := ((((FF.out.blk.set_ 0 (.int .u32 ny)).set_ 1 (.bool us)).set_ 2 (.slice pA lp.length pc)).set_ 3 (.slice qA lq.length qc))
          have hB' : Blk ((((wr.setCell ⟨Bn, 0, none⟩ (.int .u32 ny)).setCell ⟨Bn, 1, none⟩ (.bool us)).setCell ⟨Bn, 2, none⟩ (.slice pA lp.length pc)).setCell ⟨Bn, 3, none⟩ (.slice qA lq.length qc)) Bn 36 #[.int .u32 ny, .bool us, .slice pA lp.length pc, .slice qA lq.length qc] := by simpa using hB
          have HB := Lib.hid hB'
          have hKF : KeepF (fun j => j = Bn) wr ((((wr.setCell ⟨Bn, 0, none⟩ (.int .u32 ny)).setCell ⟨Bn, 1, none⟩ (.bool us)).setCell ⟨Bn, 2, none⟩ (.slice pA lp.length pc)).setCell ⟨Bn, 3, none⟩ (.slice qA lq.length qc)) := ((((KeepF.refl (F := fun j => j = Bn)).setCell (p := ⟨Bn, 0, none⟩) rfl _).setCell (p := ⟨Bn, 1, none⟩) rfl _).setCell (p := ⟨Bn, 2, none⟩) rfl _).setCell (p := ⟨Bn, 3, none⟩) rfl _
          clear hB hB'
          refine bodyPost_ret (v := .agg #[.int .u32 ny, .bool us, .slice pA lp.length pc, .slice qA lq.length qc]) ?_ ?_ ?_
          case refine_1 => exact results_cell_row (g := Bn) (t := 36) (fr := (0, 0)) Tryz.results24 _ _ _ _ rfl HB.out Tryz.underlying36 rfl (by kernel_rfl)
          case refine_2 => rfl
          refine ⟨pA, pc, lp, qA, qc, lq, by rw [HNY.out, HUS.out], ?_, BB.out.mono (by rw [HBN.out]; exact Nat.le_refl _) |>.trans ?_⟩
          · rw [← HBN.out]
            have pk : ∀ {A : Option Addr} {n c : Nat} {z : Nat → Int}, Pkt wr R A n c z → Pkt ((((wr.setCell ⟨Bn, 0, none⟩ (.int .u32 ny)).setCell ⟨Bn, 1, none⟩ (.bool us)).setCell ⟨Bn, 2, none⟩ (.slice pA lp.length pc)).setCell ⟨Bn, 3, none⟩ (.slice qA lq.length qc)) (fun k => Bn ≤ k) A n c z := fun hp => (hp.keep hKF (fun k e hr => FF.out.dis k (by rw [e]; exact FF.out.wg) hr)).mono (fun k hr => (FF.out.rin k hr).1)
            exact ⟨HLV.out, HLQ.out, FF.out.p.keepF hKF (fun a e h2 => FF.out.gp a e h2.symm), FF.out.q.keepF hKF (fun a e h2 => FF.out.gq a e h2.symm), fun e he => pk (FF.out.pe e he), fun e he => pk (FF.out.qe e he), fun a e => (FF.out.win _ (FF.out.wp a e)).1, fun a e => (FF.out.win _ (FF.out.wq a e)).1, fun e he a ha => (FF.out.rin _ ((FF.out.pe e he).ro a ha)).2.2.keepF hKF (fun e2 => FF.out.dis _ (by rw [e2]; exact FF.out.wg) ((FF.out.pe e he).ro a ha)), fun e he a ha => (FF.out.rin _ ((FF.out.qe e he).ro a ha)).2.2.keepF hKF (fun e2 => FF.out.dis _ (by rw [e2]; exact FF.out.wg) ((FF.out.qe e he).ro a ha)), fun e he a a' h1 h2 hb => FF.out.dis a.block (by rw [hb]; rcases h2 with h2 | h2; exact FF.out.wp a' h2; exact FF.out.wq a' h2) ((FF.out.pe e he).ro a h1), fun e he a a' h1 h2 hb => FF.out.dis a.block (by rw [hb]; rcases h2 with h2 | h2; exact FF.out.wp a' h2; exact FF.out.wq a' h2) ((FF.out.qe e he).ro a h1)⟩
          · exact (KeepF.below (Below.refl Bn wr) hKF (fun k e => by omega) hbs).mono (by rw [HBN.out]; exact Nat.le_refl _)
end Go.Proofs.YtiffminhlimajaaGreat
namespace Go.Proofs.YtiffminhlimajaaGreat
open Go.RowKit
set_option linter.unusedVariables false
attribute [local go_sem ↓] Go.wp_at_zero Go.wp_at_succ

/-- n cells of a block that hold bytes and may be written -/
def BW (w : World) (b o n : Nat) : Prop := ∃ cur t, Blk w b t cur ∧ ∀ j, j < n → ∃ x : Int, 0 ≤ x ∧ x < 256 ∧ cur[o + j]? = some (.int .u8 x)
theorem BW.lt {w : World} {b o n : Nat} (h : BW w b o n) : b < w.heap.size := by
  obtain ⟨cur, t, h, _⟩ := h
  exact h.lt
theorem BW.cell {w : World} {b o n : Nat} (h : BW w b o n) {k : Nat} (hk : k < n) : ∃ x : Int, 0 ≤ x ∧ x < 256 ∧ w.cell? ⟨b, o + k, none⟩ = some (.int .u8 x) ∧ w.frozen? ⟨b, o + k, none⟩ = false := by
  obtain ⟨cur, t, h, hc⟩ := h
  obtain ⟨x, h1, h2, h3⟩ := hc k hk
  exact ⟨x, h1, h2, (h.cell _).trans h3, h.frozen _⟩
theorem BW.put {w : World} {b o n : Nat} (h : BW w b o n) (b' j : Nat) (v : Int) (hv : 0 ≤ v ∧ v < 256) : BW (w.setCell ⟨b', j, none⟩ (.int .u8 v)) b o n := by
  obtain ⟨cur, t, h, hc⟩ := h
  by_cases e : b = b'
  · subst e
    refine ⟨_, t, h.set_ j (.int .u8 v), fun k hk => ?_⟩
    obtain ⟨x, h1, h2, h3⟩ := hc k hk
    rw [Array.getElem?_setIfInBounds]
    by_cases e : j = o + k
    · subst e
      have hlt := (Array.getElem?_eq_some_iff.1 h3).1
      rw [if_pos rfl, if_pos hlt]
      exact ⟨v, hv.1, hv.2, rfl⟩
    · rw [if_neg e]
      exact ⟨x, h1, h2, h3⟩
  · exact ⟨cur, t, h.far (p := ⟨b', j, none⟩) e _, hc⟩
theorem BW.keep {w w' : World} {b o n : Nat} (h : BW w b o n) (e : w'.heap[b]? = w.heap[b]?) : BW w' b o n := by
  obtain ⟨cur, t, h, hc⟩ := h
  exact ⟨cur, t, e.trans h, hc⟩
theorem BW.below {w w' : World} {b o n : Nat} (h : BW w b o n) (hb : Below w.heap.size w w') : BW w' b o n := h.keep (hb.block b h.lt)
theorem BW.of_row {w : World} {b o n : Nat} {z : Nat → Int} (hu : UnB w b) (hc : ∀ j, j < n → w.cell? ⟨b, o + j, none⟩ = some (.int .u8 (z j))) (hz : ∀ j, j < n → 0 ≤ z j ∧ z j < 256) : BW w b o n := by
  obtain ⟨cur, t, h⟩ := hu
  exact ⟨cur, t, h, fun j hj => ⟨z j, (hz j hj).1, (hz j hj).2, by rw [← hc j hj]; exact (Blk.cell (show Blk w b t cur from h) _).symm⟩⟩
section
variable {w0 w w' : World} {g : Nat} {s : TS} {N N' : Nat → Prop}
theorem solon_submit (h : SoloN w0 w g s N) (hf : s.Fine) (hcm : s.C.cm = false) (hql : s.Q.length ≤ 1000000) (t : Int) (ht1 : -9223372036854775808 ≤ t) (ht2 : t ≤ 9223372036854775807) (A : Option Addr) (n c : Nat) (z : Nat → Int) (hr : Row w w.heap.size A n (fun j => .int .u8 (z j))) (hz : ∀ j, j < n → 0 ≤ z j ∧ z j < 256) (hA : ∀ a, A = some a → n ≠ 0 → N a.block ∨ a.block < w0.heap.size) (hn9 : n ≤ 1000000) :
    Calls Tryz.prog 22 #[.pointer (some ⟨g, 0, none⟩), .int .i64 t, .slice A n c] w fun e w' => e = .returned (.int .i64 (s.submit t n z).1) ∧ SoloN w0 w' g (s.submit t n z).2 N ∧ ∀ k, N k → w'.heap[k]? = w.heap[k]? := by
  obtain ⟨W, R, h1, h2, h3, h4⟩ := h
  obtain ⟨W', R', hI, hc⟩ := SoloN.call ⟨W, R, h1, h2, h3, h4⟩
  clear hI hc W' R'
  have hh : SoloN w0 w g s N := ⟨W, R, h1, h2, h3, h4⟩
  refine (tsubmit_ok g s W R w h1 hf hcm hql t ht1 ht2 A n c z ⟨hr, hz, fun a e hn hw => ?_⟩ hn9).mono ?_
  · rcases hA a e hn with h5 | h5
    · exact (h4 _ h5).2.2.1 hw
    · have := h2 _ hw; omega
  · rintro e w' ⟨he, W', R', hI, hW, hR, hK⟩
    have hs := h3.size
    refine ⟨he, ⟨W', R', hI, fun k hk => ?_, KeepF.below h3 hK (fun k hk => h2 k hk) hs, fun k hk => ?_⟩, fun k hk => hK.block k (h4 k hk).2.1 (h4 k hk).2.2.1⟩
    · rcases hW k hk with h | h
      · exact h2 k h
      · omega
    · have h5 := h4 k hk
      refine ⟨h5.1, Nat.lt_of_lt_of_le h5.2.1 hK.size, fun hw => ?_, fun hr => ?_⟩
      · rcases hW k hw with h | h
        · exact h5.2.2.1 h
        · omega
      · rcases hR k hr with h | h
        · exact h5.2.2.2 h
        · omega
theorem solon_nextU (h : SoloN w0 w g s N) (hf : s.Fine) (hcm : s.C.cm = false) (hpl : s.P.length ≤ 1000000) (t : Int) (ht1 : -9223372036854775808 ≤ t) (ht2 : t ≤ 9223372036854775807) :
    Calls Tryz.prog 18 #[.pointer (some ⟨g, 0, none⟩), .int .i64 t] w fun e w' => ∃ A c, e = .returned (.tuple #[.slice A (s.send t).n c, .int .u32 (s.send t).ct, .int .i64 (s.send t).e]) ∧ (s.send t).n ≤ c ∧ Row w' w'.heap.size A (s.send t).n (fun j => .int .u8 (((s.send t).z j : Nat) : Int)) ∧ SoloN w0 w' g (s.send t).s (fun k => N k ∨ blkOf A k) ∧ (∀ k, N k → w'.heap[k]? = w.heap[k]?) ∧ ∀ a, A = some a → UnB w' a.block ∧ w.heap.size ≤ a.block := by
  obtain ⟨W, R, h1, h2, h3, h4⟩ := h
  refine (tNext_ok g s W R w h1 hf t ht1 ht2 (builds_any g s.C hf.ok hf.val hcm) hpl).mono ?_
  rintro e w' ⟨A, c, W', R', he, hc, hr, hI, hW, hR, hK, hA⟩
  have hs := h3.size
  refine ⟨A, c, he, hc, hr, ⟨W', R', hI, fun k hk => ?_, KeepF.below h3 hK (fun k hk => h2 k hk) hs, fun k hk => ?_⟩, fun k hk => hK.block k (h4 k hk).2.1 (h4 k hk).2.2.1, fun a e => ⟨(hA a e).2.2.2, (hA a e).1⟩⟩
  · rcases hW k hk with h | h
    · exact h2 k h
    · omega
  · rcases hk with hk | ⟨a, ha, e⟩
    · have h5 := h4 k hk
      refine ⟨h5.1, Nat.lt_of_lt_of_le h5.2.1 hK.size, fun hw => ?_, fun hr => ?_⟩
      · rcases hW k hw with h | h
        · exact h5.2.2.1 h
        · omega
      · rcases hR k hr with h | h
        · exact h5.2.2.2 h
        · omega
    · subst e
      have := hA a ha
      exact ⟨by omega, UnB.lt this.2.2.2, this.2.1, this.2.2.1⟩
theorem solon_exportU (h : SoloN w0 w g s N) (hn : s.P.length ≤ 1000000 ∧ s.Q.length ≤ 1000000) :
    Calls Tryz.prog 24 #[.pointer (some ⟨g, 0, none⟩)] w fun e w' => ∃ pA pc lp qA qc lq, e = .returned (.agg #[.int .u32 (s.next % 4294967296), .bool (decide (s.next = 4294967296)), .slice pA lp.length pc, .slice qA lq.length qc]) ∧ FwP w' w.heap.size s.P s.Q pA pc lp qA qc lq ∧ SoloN w0 w' g s (fun k => w.heap.size ≤ k ∧ k < w'.heap.size) ∧ Below w.heap.size w w' := by
  obtain ⟨W, R, h1, h2, h3, h4⟩ := h
  refine (texport_un g s W R w h1 hn).mono ?_
  rintro e w' ⟨pA, pc, lp, qA, qc, lq, he, hF, hB⟩
  have hs := h3.size
  exact ⟨pA, pc, lp, qA, qc, lq, he, hF, ⟨W, R, h1.below hB, h2, h3.trans (hB.mono hs), fun k hk => ⟨by omega, hk.2, fun hw => by have := h1.win k hw; omega, fun hr => by have := h1.rin k hr; omega⟩⟩, hB⟩
end
/-- the law's configuration -/
def Cfg.own (c : Cfg) : Cfg := { c.noC with ac := true, ds := 0 }
theorem Cfg.own_arr (c : Cfg) : (c.noC.arr.setIfInBounds 36 (.bool true)).setIfInBounds 37 (.int .i64 0) = c.own.arr := by
  apply Array.ext_getElem?
  intro j
  rw [Array.getElem?_setIfInBounds, Array.getElem?_setIfInBounds, Array.size_setIfInBounds, c.noC.arr_size]
  by_cases hj : j < 39
  · rw [c.own.arr_at hj]
    by_cases e : 37 = j
    · subst e; rw [if_pos rfl, if_pos (by omega)]; rfl
    · rw [if_neg e]
      by_cases e2 : 36 = j
      · subst e2; rw [if_pos rfl, if_pos (by omega)]; rfl
      · rw [if_neg e2, c.noC.arr_at hj]
        unfold Cfg.cell Cfg.own Cfg.noC
        by_cases h0 : j = 0
        · simp [h0]
        by_cases h1 : j = 1
        · simp [h1]
        by_cases h2 : j < 18
        · simp [h0, h1, h2]
        by_cases h3 : j < 34
        · simp [h0, h1, h2, h3]
        by_cases h4 : j = 34
        · simp [h4]
        by_cases h5 : j = 35
        · simp [h5]
        · simp [h0, h1, h2, h3, h4, h5, show ¬ j = 36 from fun h => e2 h.symm, show ¬ j = 37 from fun h => e h.symm]
  · rw [if_neg (by omega), if_neg (by omega), Array.getElem?_eq_none (by rw [c.noC.arr_size]; omega), Array.getElem?_eq_none (by rw [c.own.arr_size]; omega)]
def oS1 (c : Cfg) (n : Nat) (z : Nat → Int) : TS := { newS c with Q := [⟨n, z, 0⟩] }
def oS2 (c : Cfg) (n : Nat) (z : Nat → Int) : TS := { newS c with Q := [⟨n, z, 0⟩, ⟨n, z, 0⟩] }
def oS3 (c : Cfg) (n : Nat) (z : Nat → Int) : TS := { newS c with Q := [⟨n, z, 0⟩], next := 1, P := [⟨0, n, z, false⟩] }
section
variable {c : Cfg} {n : Nat} {z : Nat → Int}
theorem own_fine {s : TS} (hok : c.Ok) (hv : c.Valid) (hC : s.C = c) (hn : s.now = 0) (hq : ∀ q, q ∈ s.Q → q.at_ = 0) : s.Fine := ⟨by rw [hC]; exact hok, by rw [hC]; exact hv, fun q h => by rw [hq q h, hn]; exact ⟨Int.le_refl _, Int.le_refl _⟩⟩
theorem oS1_fine (hok : c.Ok) (hv : c.Valid) : (oS1 c n z).Fine := own_fine hok hv rfl rfl (fun q h => by simp [oS1] at h; rw [h])
theorem oS2_fine (hok : c.Ok) (hv : c.Valid) : (oS2 c n z).Fine := own_fine hok hv rfl rfl (fun q h => by simp [oS2] at h; rw [h])
theorem own_sub0 (hd : c.ds = 0) (h1 : 1 ≤ n) (h9 : n ≤ 9000) : (newS c).submit 0 n z = (0, oS1 c n z) := by
  unfold TS.submit
  rw [if_neg (by decide), if_neg (by omega), if_neg (by omega), TS.tick_zero hd]
  rfl
theorem own_sub1 (hd : c.ds = 0) (h1 : 1 ≤ n) (h9 : n ≤ 9000) : (oS1 c n z).submit 0 n z = (0, oS2 c n z) := by
  unfold TS.submit
  rw [if_neg (by decide), if_neg (by omega), if_neg (by omega), TS.tick_zero (show (oS1 c n z).C.ds = 0 from hd)]
  rfl
theorem own_send (hd : c.ds = 0) (ha : c.ac = true) : (oS2 c n z).send 0 = ⟨pduN c n, pduZ c 0 n (nf z), 0, 0, oS3 c n z⟩ := by
  unfold TS.send
  rw [if_neg (by decide), TS.tick_zero (show (oS2 c n z).C.ds = 0 from hd)]
  show (if (0 : Int) = 4294967296 then _ else if (oS2 c n z).full = true then _ else (⟨pduN c n, pduZ c 0 n (nf z), 0, 0, { oS2 c n z with now := max 0 0, Q := [⟨n, z, 0⟩], next := 0 + 1, P := if c.ac = true then [] ++ [⟨0, n, z, false⟩] else [] }⟩ : NX)) = _
  rw [if_neg (by decide), if_neg (show ¬ (oS2 c n z).full = true from by show ¬ false = true; decide), if_pos ha]
  rfl
end
end Go.Proofs.YtiffminhlimajaaGreat
namespace Go.Proofs.YtiffminhlimajaaGreat
open Go.RowKit
set_option linter.unusedVariables false
attribute [local go_sem ↓] Go.wp_at_zero Go.wp_at_succ

theorem SoloN.write {w0 w : World} {g : Nat} {s : TS} {N : Nat → Prop} (h : SoloN w0 w g s N) {b : Nat} (hb : N b) (j : Nat) (v : Value) : SoloN w0 (w.setCell ⟨b, j, none⟩ v) g s N := by
  have hk : KeepF N w (w.setCell ⟨b, j, none⟩ v) := KeepF.refl.setCell (p := ⟨b, j, none⟩) hb v
  obtain ⟨W, R, h1, h2, h3, h4⟩ := h
  exact SoloN.other ⟨W, R, h1, h2, h3, h4⟩ hk (fun k hn => ⟨.inl hn, Nat.lt_of_lt_of_le (h4 k hn).2.1 hk.size⟩)
theorem SoloN.sub {w0 w : World} {g : Nat} {s : TS} {N N' : Nat → Prop} (h : SoloN w0 w g s N) (hN : ∀ k, N' k → N k) : SoloN w0 w g s N' := by
  obtain ⟨W, R, h1, h2, h3, h4⟩ := h
  exact ⟨W, R, h1, h2, h3, fun k hk => h4 k (hN k hk)⟩
theorem blkOf_self (b o : Nat) : blkOf (some ⟨b, o, none⟩) b := ⟨_, rfl, rfl⟩
/-- what an exported state with one pending and one queued packet looks like -/
structure XP (w : World) (B n : Nat) (z : Nat → Int) (lb lo pb po cp mb mo qb qo cq : Nat) : Prop where
  p0 : w.cell? ⟨lb, lo, none⟩ = some (.int .u32 0)
  p1 : w.cell? ⟨lb, lo + 1, none⟩ = some (.slice (some ⟨pb, po, none⟩) n cp)
  q0 : w.cell? ⟨mb, mo, none⟩ = some (.slice (some ⟨qb, qo, none⟩) n cq)
  pr : Row w w.heap.size (some ⟨pb, po, none⟩) n (fun j => .int .u8 (z j))
  qr : Row w w.heap.size (some ⟨qb, qo, none⟩) n (fun j => .int .u8 (z j))
  pw : BW w pb po n
  qw : BW w qb qo n
  ne : pb ≠ lb ∧ pb ≠ mb ∧ qb ≠ lb ∧ qb ≠ mb
  ge : B ≤ lb ∧ B ≤ mb ∧ B ≤ pb ∧ B ≤ qb
  lt : lb < w.heap.size ∧ mb < w.heap.size
theorem one_of {α β : Type} {f : α → β} {l : List α} {b : β} (h : l.map f = [b]) : ∃ a, l = [a] ∧ f a = b := by
  cases l with
  | nil => cases h
  | cons a r =>
    cases r with
    | nil => exact ⟨a, rfl, by simpa using h⟩
    | cons a' r => simp at h
theorem own_export {w0 w : World} {g : Nat} {N : Nat → Prop} {c : Cfg} {n : Nat} {z : Nat → Int} (h : SoloN w0 w g (oS3 c n z) N) (hn : 1 ≤ n) :
    Calls Tryz.prog 24 #[.pointer (some ⟨g, 0, none⟩)] w fun e w' => ∃ lb lo pc pb po cp mb mo qc qb qo cq, e = .returned (.agg #[.int .u32 1, .bool false, .slice (some ⟨lb, lo, none⟩) 1 pc, .slice (some ⟨mb, mo, none⟩) 1 qc]) ∧ XP w' w.heap.size n z lb lo pb po cp mb mo qb qo cq ∧ SoloN w0 w' g (oS3 c n z) (fun k => w.heap.size ≤ k ∧ k < w'.heap.size) ∧ Below w.heap.size w w' := by
  refine (solon_exportU h ⟨by show 1 ≤ 1000000; decide, by show 1 ≤ 1000000; decide⟩).mono ?_
  rintro e w' ⟨pA, pc, lp, qA, qc, lq, he, hF, hS, hB⟩
  obtain ⟨eP, rfl, hP⟩ := one_of (show lp.map (·.v) = [⟨0, n, z, false⟩] from hF.pv)
  obtain ⟨eQ, rfl, hQ⟩ := one_of (show lq.map (·.v) = [⟨n, z, 0⟩] from hF.qv)
  have PK := hF.pe eP (by simp)
  have QK := hF.qe eQ (by simp)
  have PU := hF.pu eP (by simp)
  have QU := hF.qu eQ (by simp)
  have PS := hF.ps eP (by simp)
  have QS := hF.qs eQ (by simp)
  have hpv : eP.v.n = n ∧ eP.v.z = z ∧ eP.v.ct = 0 := by rw [hP]; exact ⟨rfl, rfl, rfl⟩
  have hqv : eQ.v.n = n ∧ eQ.v.z = z := by rw [hQ]; exact ⟨rfl, rfl⟩
  rw [hpv.1, hpv.2.1] at PK
  rw [hqv.1, hqv.2] at QK
  obtain ⟨lb, lo, hpA, hlb⟩ := hF.p.some_ (by show 0 < 1; decide)
  obtain ⟨mb, mo, hqA, hmb⟩ := hF.q.some_ (by show 0 < 1; decide)
  obtain ⟨pb, po, hA, hpb, hpc⟩ := PK.row (by omega)
  obtain ⟨qb, qo, hA2, hqb, hqc⟩ := QK.row (by omega)
  have c0 := hF.p.cell hpA (j := 0) (by show 0 < 1 * 2; decide)
  have c1 := hF.p.cell hpA (j := 1) (by show 1 < 1 * 2; decide)
  have c2 := hF.q.cell hqA (j := 0) (by show 0 < 1 * 1; decide)
  rw [Nat.add_zero] at c0 c2
  refine ⟨lb, lo, pc, pb, po, eP.c, mb, mo, qc, qb, qo, eQ.c, ?_, ⟨?_, ?_, ?_, ?_, ?_, BW.of_row (PU _ hA) hpc PK.byte, BW.of_row (QU _ hA2) hqc QK.byte, ⟨PS _ _ hA (.inl hpA), PS _ _ hA (.inr hqA), QS _ _ hA2 (.inl hpA), QS _ _ hA2 (.inr hqA)⟩, ⟨hF.pB _ hpA, hF.qB _ hqA, PK.ro _ hA, QK.ro _ hA2⟩, hlb, hmb⟩, hS, hB⟩
  · rw [he, hpA, hqA]
    rfl
  · rw [c0, ← hpv.2.2]; rfl
  · rw [c1, ← hA, ← hpv.1]; rfl
  · rw [c2, ← hA2, ← hqv.1]; rfl
  · rw [← hA]; exact PK.row
  · rw [← hA2]; exact QK.row
/-- what the loops over the exported packets keep -/
structure XW (w0 w : World) (g : Nat) (s : TS) (fb pc qc n lb lo pb po cp mb mo qb qo cq : Nat) : Prop where
  so : SoloN w0 w g s (fun k => k = pb ∨ k = qb)
  fo : Blk w fb 36 #[.int .u32 1, .bool false, .slice (some ⟨lb, lo, none⟩) 1 pc, .slice (some ⟨mb, mo, none⟩) 1 qc]
  p1 : w.cell? ⟨lb, lo + 1, none⟩ = some (.slice (some ⟨pb, po, none⟩) n cp)
  q0 : w.cell? ⟨mb, mo, none⟩ = some (.slice (some ⟨qb, qo, none⟩) n cq)
  pw : BW w pb po n
  qw : BW w qb qo n
  ne : pb ≠ lb ∧ pb ≠ mb ∧ qb ≠ lb ∧ qb ≠ mb ∧ pb ≠ fb ∧ qb ≠ fb
  lt : lb < w.heap.size ∧ mb < w.heap.size
theorem XW.put {w0 w : World} {g : Nat} {s : TS} {fb pc qc n lb lo pb po cp mb mo qb qo cq : Nat} (h : XW w0 w g s fb pc qc n lb lo pb po cp mb mo qb qo cq) (b j : Nat) (hb : b = pb ∨ b = qb) (v : Int) (hv : 0 ≤ v ∧ v < 256) : XW w0 (w.setCell ⟨b, j, none⟩ (.int .u8 v)) g s fb pc qc n lb lo pb po cp mb mo qb qo cq := by
  have hk : KeepF (fun k => k = pb ∨ k = qb) w (w.setCell ⟨b, j, none⟩ (.int .u8 v)) := (KeepF.refl (F := fun k => k = pb ∨ k = qb)).setCell (p := ⟨b, j, none⟩) hb _
  have hpl := h.pw.lt
  have hql := h.qw.lt
  have hne := h.ne
  refine ⟨h.so.other hk (fun k hk' => ⟨.inl hk', ?_⟩), hk.blk h.fo (by omega), (hk.cell (p := ⟨lb, lo + 1, none⟩) h.lt.1 (by show ¬ (lb = pb ∨ lb = qb); omega)).trans h.p1, (hk.cell (p := ⟨mb, mo, none⟩) h.lt.2 (by show ¬ (mb = pb ∨ mb = qb); omega)).trans h.q0, h.pw.put b j v hv, h.qw.put b j v hv, h.ne, Nat.lt_of_lt_of_le h.lt.1 hk.size, Nat.lt_of_lt_of_le h.lt.2 hk.size⟩
  have := hk.size
  omega
set_option maxRecDepth 100000 in
set_option maxHeartbeats 12800000 in
theorem own_walk (c : Cfg) (hok : c.Ok) (A : Option Addr) (n cp : Nat) (z : Nat → Int) (hn : n ≤ maxLen) (hc : n ≤ cp ∧ ∀ j, j < n → 0 ≤ z j ∧ z j < 256) (w : World) (hr : Row w w.heap.size A n (fun j => .int .u8 (z j))) :
    Calls Tryz.prog 6 #[.agg c.arr, .slice A n cp] w fun e w' => e = .returned (.bool true) ∧ Below w.heap.size w w' := by
  have HKN := Lib.hid (fun V => known45_true V)
  have HPL := Lib.hid (fun V => plain45_ok c V)
  have HRV := Lib.hid (fun V => rvalid45_ok c.own V)
  have HDO : Hid c.own.Ok := Lib.hid ⟨hok.key, hok.code⟩
  have HNW := Lib.hid (fun hv V => tNew_ok c.own hv V)
  have HS0 : Hid ((Tryz.prog.info? 25).map (·.size) = some c.arr.size) := Lib.hid (by rw [c.arr_size]; exact infoPd)
  have HS1 : Hid ((Tryz.prog.info? 25).map (·.size) = some c.noC.arr.size) := Lib.hid (by rw [c.noC.arr_size]; exact infoPd)
  have HS2 : Hid ((Tryz.prog.info? 25).map (·.size) = some c.own.arr.size) := Lib.hid (by rw [c.own.arr_size]; exact infoPd)
  have HSS : Hid (c.arr.size = c.noC.arr.size) := Lib.hid (by rw [c.arr_size, c.noC.arr_size])
  have HO1 := Lib.hid c.noC.arr_one
  have HOW := Lib.hid c.own_arr
  have HA36 := Lib.hid (c.noC.arr_at (j := 36) (by decide))
  have HA37 := Lib.hid (c.noC.arr_at (j := 37) (by decide))
  obtain ⟨o, ho⟩ : ∃ o, o = c.own := ⟨_, rfl⟩
  have HDS : Hid (o.ds = 0) := Lib.hid (by rw [ho]; rfl)
  have HAC : Hid (o.ac = true) := Lib.hid (by rw [ho]; rfl)
  have HCM : Hid (o.cm = false) := Lib.hid (by rw [ho]; rfl)
  obtain ⟨x36, hx36⟩ : ∃ x, x = c.noC.cell 36 := ⟨_, rfl⟩
  obtain ⟨x37, hx37⟩ : ∃ x, x = c.noC.cell 37 := ⟨_, rfl⟩
  obtain ⟨Z, hZ⟩ : ∃ Z, Z = c.arr := ⟨_, rfl⟩
  obtain ⟨Y0, hY0⟩ : ∃ Y, Y = c.noC.arr := ⟨_, rfl⟩
  obtain ⟨Y, hY⟩ : ∃ Y, Y = c.own.arr := ⟨_, rfl⟩
  rw [← hY] at HRV HNW HS2 HOW
  rw [← ho] at HRV HNW HDO
  rw [← hZ] at HPL HS0 HSS ⊢
  rw [← hY0] at HPL HS1 HSS HO1 HOW HA36 HA37
  rw [← hx36] at HA36
  rw [← hx37] at HA37
  have HU := Lib.hid Tryz.underlying25
  have HZ := Lib.hid hc.2
  have HR := Lib.hid hr
  unfold maxLen at hn
  have HN := Lib.hid hn
  have n0 : (0 : Int) ≤ (n : Int) := by omega
  clear hZ hY hY0 ho hr hc hok hx36 hx37
  go_enter Tryz.func6, Tryz.ntmps6
  go_upto_region 1 with (fail)
  obtain ⟨g, hg⟩ : ∃ g, g = w.heap.size := ⟨_, rfl⟩
  refine wp_let (fun W => Blk W g 25 Z ∧ Below w.heap.size w W) ⟨by rw [hg]; exact Blk.new _ _ _, (Below.refl _ w).alloc (Nat.le_refl _) _⟩ ?_
  rintro W1 ⟨b1, b2⟩
  have B1 := Lib.hid b1
  have B2 := Lib.hid b2
  have HG := Lib.hid hg
  rw [← hg]
  clear b1 b2 hg
  go_upto_region 2 with (first
    | (refine wpList_load_row rfl _ _ rfl g rfl 25 Z (0, 0) _ B1.out HU.out rfl HS0.out ?_)
    | (go_at_call 14; refine (HPL.out _).mono ?_; rintro e w2 ⟨rfl, hB⟩; have C1 := Lib.hid (B1.out.below hB B1.out.lt); have C2 := Lib.hid (B2.out.trans (hB.mono B2.out.size)); clear hB)
    | (refine wpList_store_row rfl _ _ _ rfl g Y0 rfl rfl 25 _ C1.out HS1.out HSS.out HO1.out ?_))
  try simp only [Act.put]
  refine wp_let (fun W => Blk W g 25 Y0 ∧ Below w.heap.size w W) ⟨setRow_heap _ _ _ Y0 25 (0, 0) C1.out, belowRow C2.out (by rw [HG.out]; exact Nat.le_refl _) _⟩ ?_
  rintro W2 ⟨b1, b2⟩
  have D1 := Lib.hid b1
  have D2 := Lib.hid b2
  have c36 := (b1.cell 36).trans HA36.out
  have c37 := (b1.cell 37).trans HA37.out
  have f36 := b1.frozen 36
  have f37 := b1.frozen 37
  clear b1 b2 B1 B2 C1 C2
  go_upto_region 3 with (fail)
  refine wp_let (fun W => Blk W g 25 Y ∧ Below w.heap.size w W) ⟨by rw [← HOW.out]; exact (D1.out.set_ 36 _).set_ 37 _, (D2.out.setCell (p := ⟨g, 36, none⟩) (by rw [HG.out]; exact Nat.le_refl _) _).setCell (p := ⟨g, 37, none⟩) (by rw [HG.out]; exact Nat.le_refl _) _⟩ ?_
  rintro W3 ⟨b1, b2⟩
  have E1 := Lib.hid b1
  have E2 := Lib.hid b2
  clear b1 b2 c36 c37 f36 f37 D1 D2
  by_cases hv : o.Valid
  rotate_left
  · rw [decide_eq_false hv] at HRV
    go_wp2_with (first
      | (refine wpList_load_row rfl _ _ rfl g rfl 25 Y (0, 0) _ E1.out HU.out rfl HS2.out ?_)
      | (go_at_call 16; with_reducible refine (HRV.out _).mono ?_; rintro e w8 ⟨rfl, hB⟩; have E8 := Lib.hid hB; clear hB)
      | (go_at_call 17; with_reducible refine (HKN.out _).mono ?_; rintro e w9 ⟨rfl, hB⟩; have E9 := Lib.hid hB; clear hB))
    go_ret
    exact ⟨rfl, E2.out.trans ((E8.out.trans (E9.out.mono E8.out.size)).mono E2.out.size)⟩
  rw [decide_eq_true hv] at HRV
  have HV := Lib.hid hv
  clear hv
  by_cases hz0 : n = 0
  · subst hz0
    go_wp2_with (first
      | (refine wpList_load_row rfl _ _ rfl g rfl 25 Y (0, 0) _ E1.out HU.out rfl HS2.out ?_)
      | (go_at_call 16; with_reducible refine (HRV.out _).mono ?_; rintro e w8 ⟨rfl, hB⟩; have E8 := Lib.hid hB; clear hB)
      | (go_at_call 17; with_reducible refine (HKN.out _).mono ?_; rintro e w9 ⟨rfl, hB⟩; have E9 := Lib.hid hB; clear hB))
    go_ret
    exact ⟨rfl, E2.out.trans ((E8.out.trans (E9.out.mono E8.out.size)).mono E2.out.size)⟩
  have hz1 : ((n : Int) == 0) = false := by rw [beq_eq_false_iff_ne]; omega
  by_cases h6 : (600 : Int) < (n : Int)
  · have h6d : decide ((600 : Int) < (n : Int)) = true := decide_eq_true h6
    go_wp2_with (first
      | (refine wpList_load_row rfl _ _ rfl g rfl 25 Y (0, 0) _ E1.out HU.out rfl HS2.out ?_)
      | (go_at_call 16; with_reducible refine (HRV.out _).mono ?_; rintro e w8 ⟨rfl, hB⟩; have E8 := Lib.hid hB; clear hB)
      | (go_at_call 17; with_reducible refine (HKN.out _).mono ?_; rintro e w9 ⟨rfl, hB⟩; have E9 := Lib.hid hB; clear hB))
    go_ret
    exact ⟨rfl, E2.out.trans ((E8.out.trans (E9.out.mono E8.out.size)).mono E2.out.size)⟩
  have h6d : decide ((600 : Int) < (n : Int)) = false := decide_eq_false h6
  have HN6 : Hid (1 ≤ n ∧ n ≤ 600) := Lib.hid (by omega)
  go_upto_region 5 with (first
    | (refine wpList_load_row rfl _ _ rfl g rfl 25 Y (0, 0) _ E1.out HU.out rfl HS2.out ?_)
    | (go_at_call 16; with_reducible refine (HRV.out _).mono ?_; rintro e w8 ⟨rfl, hB⟩; have E8 := Lib.hid hB; clear hB))
  have F1 := Lib.hid (E1.out.below E8.out E1.out.lt)
  have F2 := Lib.hid (E2.out.trans (E8.out.mono E2.out.size))
  clear hz0 hz1 h6 h6d
  have HNX := Lib.hid (HNW.out HV.out)
  go_upto_region 8 with (first
    | (refine wpList_load_row rfl _ _ rfl g rfl 25 Y (0, 0) _ F1.out HU.out rfl HS2.out ?_)
    | (go_at_call 21; with_reducible refine (HNX.out _).mono ?_; rintro e w10 ⟨h, rfl, hO⟩; have S1 := Lib.hid (SoloN.of (Solo.of_new (Below.refl _ _) hO)); clear hO))
  obtain ⟨ab, ao, rfl, habl, habc⟩ := HR.out (by have := HN6.out; omega)
  have G1 := Lib.hid (F2.out.trans (S1.out.low.mono F2.out.size))
  have HSRC : Hid (Src Tryz.prog 1 27 (.slice (some ⟨ab, ao, none⟩) n cp) n ((List.range n).map fun j => .int .u8 (z j)) w10) := Lib.hid (Src.ofSlice _ Tryz.underlying27 ⟨ab, ao, none⟩ n cp _ (by simp) (fun j u hu => by
    have hj : j < n := by have := (List.getElem?_eq_some_iff.1 hu).1; simpa using this
    rw [Addr.add_lit, (G1.out.cell (p := ⟨ab, ao + j, none⟩) habl).trans (habc j hj), ← hu]
    simp [hj]) (fun u hu => by
      obtain ⟨j, _, rfl⟩ := List.mem_map.1 hu
      rfl))
  obtain ⟨i0, hi, hq0, hq1, hq2⟩ := info_parts Tryz.infoByte
  have HN9 : Hid (n ≤ 1000) := Lib.hid (by have := HN6.out; omega)
  clear habc
  go_upto_region 9 with (refine wpList_sl_append rfl _ _ _ _ rfl w10 5 i0 (.int .u8 0) 1 1 Tryz.underlying27 hi hq0 hq1 hq2 rfl none 0 0 [] rfl (SL.nil _ _ _) _ rfl n ((List.range n).map fun j => .int .u8 (z j)) HSRC.out (by have := HN6.out; omega) (by unfold maxLen; have := HN9.out; omega) (by have := HN9.out; omega) ?_; intro A9 c9 wA hSL9 hK9 hA9; rw [Nat.zero_add, List.nil_append] at hSL9; have HSL9 := Lib.hid hSL9; have HK9 := Lib.hid hK9; have HA9 := Lib.hid hA9; clear hSL9 hK9 hA9)
  obtain ⟨ob, oo, rfl, hobl⟩ := HSL9.out.some_ (by have := HN6.out; omega)
  have HOB := Lib.hid (show w10.heap.size ≤ ob from by rcases HA9.out _ rfl with ⟨a', ha', _⟩ | h; cases ha'; exact h)
  have HCL := Lib.hid (show ∀ j, j < n → wA.cell? ⟨ob, oo + j, none⟩ = some (.int .u8 (z j)) from fun j hj => by
    rw [HSL9.out.cell rfl (by omega)]
    simp [hj])
  have hbw := BW.of_row (w := wA) (b := ob) (o := oo) (n := n) (z := z) (by obtain ⟨cur, hcur⟩ := HSL9.out.obj rfl; exact ⟨cur, _, hcur⟩) HCL.out HZ.out
  have HBW := Lib.hid hbw
  have S2 := Lib.hid (S1.out.other (N' := blkOf (some ⟨ob, oo, none⟩)) (HK9.out.mono (fun k ⟨a, ha, _⟩ => by cases ha)) (fun k ⟨a, ha, e⟩ => by cases ha; rw [e]; exact ⟨.inr HOB.out, hobl⟩))
  have HROW := Lib.hid (show ∀ W', W'.heap[ob]? = wA.heap[ob]? → ob < W'.heap.size → Row W' W'.heap.size (some ⟨ob, oo, none⟩) n (fun j => .int .u8 (z j)) from fun W' h1 h2 _ => ⟨ob, oo, rfl, h2, fun j hj => (World.cell?_of_block h1).trans (HCL.out j hj)⟩)
  have HSB1 := Lib.hid (solon_submit S2.out (newS_fine HDO.out HV.out) HCM.out (by show 0 ≤ 1000000; decide) 0 (by decide) (by decide) (some ⟨ob, oo, none⟩) n c9 z (HROW.out _ rfl hobl) HZ.out (fun a e _ => .inl (by cases e; exact blkOf_self ob oo)) (by have := HN9.out; omega))
  rw [own_sub0 HDS.out HN6.out.1 (by have := HN9.out; omega)] at HSB1
  clear hbw hobl
  go_upto_region 10 with (go_at_call 22; with_reducible refine (HSB1.out).mono ?_; rintro e w11 ⟨rfl, hS, hk⟩; have S3 := Lib.hid hS; have K3 := Lib.hid (hk ob (blkOf_self ob oo)); clear hS hk)
  have hol := HBW.out.keep K3.out |>.lt
  have HSB2 := Lib.hid (solon_submit S3.out (oS1_fine HDO.out HV.out) HCM.out (by show 1 ≤ 1000000; decide) 0 (by decide) (by decide) (some ⟨ob, oo, none⟩) n c9 z (HROW.out _ K3.out hol) HZ.out (fun a e _ => .inl (by cases e; exact blkOf_self ob oo)) (by have := HN9.out; omega))
  rw [own_sub1 HDS.out HN6.out.1 (by have := HN9.out; omega)] at HSB2
  go_upto_region 11 with (go_at_call 22; with_reducible refine (HSB2.out).mono ?_; rintro e w12 ⟨rfl, hS, hk⟩; have S4 := Lib.hid hS; have K4 := Lib.hid (hk ob (blkOf_self ob oo)); clear hS hk)
  have BW4 := Lib.hid ((HBW.out.keep K3.out).keep K4.out)
  clear hol
  go_wp2
  go_loopw [8] (fun v8 wr => ∃ k : Nat, k ≤ n ∧ v8 = .int .i64 k ∧ SoloN w8 wr h (oS2 o n z) (blkOf (some ⟨ob, oo, none⟩)) ∧ BW wr ob oo n) (fun v8 _ => n - (intOf v8).toNat)
  case atStart => exact ⟨0, by omega, rfl, S4.out, BW4.out⟩
  case round =>
    clear S4 BW4
    obtain ⟨k, hk, rfl, hS, hB⟩ := hrel
    have SK := Lib.hid hS
    have BK := Lib.hid hB
    clear hS hB
    have k0 : (0 : Int) ≤ (k : Int) := by omega
    by_cases hlt : k < n
    · have k1 : (k : Int) < (n : Int) := by omega
      obtain ⟨x, hx0, hx1, cx, fx⟩ := BK.out.cell hlt
      go_wp2
      go_roundw
      case rel => exact ⟨k + 1, by omega, by go_num, SK.out.write (blkOf_self ob oo) _ _, BK.out.put ob (oo + k) _ (by omega)⟩
      case measure => simp [intOf]; omega
    · obtain rfl : k = n := by omega
      have HNX := Lib.hid (solon_nextU SK.out (oS2_fine HDO.out HV.out) HCM.out (by show 0 ≤ 1000000; decide) 0 (by decide) (by decide))
      rw [own_send HDS.out HAC.out] at HNX
      dsimp only at HNX
      obtain ⟨M, hM⟩ : ∃ M, M = pduN o k := ⟨_, rfl⟩
      have HM := Lib.hid (show 3 ≤ M ∧ M ≤ 1000 from by rw [hM]; have := HN6.out; unfold pduN plainN; split <;> omega)
      have HPB := Lib.hid (show ∀ j, j < M → 0 ≤ ((pduZ o 0 k (nf z) j : Nat) : Int) ∧ ((pduZ o 0 k (nf z) j : Nat) : Int) < 256 from fun j _ => by have := pduZ_lt (cf := o) (ct := 0) (n := k) (z := nf z) (fun j hj => nf_lt HDO.out.key hj) (fun j hj => nf_lt HZ.out hj) j; omega)
      rw [← hM] at HNX
      clear hM
      go_upto_region 16 with (go_at_call 18; with_reducible refine (HNX.out).mono ?_; rintro e w13 ⟨A4, c4, rfl, hc4, hR4, hS4, hk4, hU4⟩; have R4 := Lib.hid hR4; have S5 := Lib.hid hS4; have U4 := Lib.hid hU4; clear hR4 hS4 hk4 hU4)
      obtain ⟨pb, po, rfl, hpl, hpc⟩ := R4.out (by have := HM.out; omega)
      have BP := Lib.hid (BW.of_row (U4.out _ rfl).1 hpc HPB.out)
      clear hpc hpl
      have S5B := Lib.hid (S5.out.sub (N' := fun j => j = pb) (fun j hj => .inr (by rw [hj]; exact blkOf_self pb po)))
      have m0 : (0 : Int) ≤ (M : Int) := by omega
      go_wp2
      go_loopw [12] (fun v12 wr => ∃ q : Nat, q ≤ M ∧ v12 = .int .i64 q ∧ SoloN w8 wr h (oS3 o k z) (fun j => j = pb) ∧ BW wr pb po M) (fun v12 _ => M - (intOf v12).toNat)
      case atStart => exact ⟨0, by omega, rfl, S5B.out, BP.out⟩
      case round =>
        clear S5 S5B BP
        obtain ⟨q, hq, rfl, hS, hB⟩ := hrel
        have SQ := Lib.hid hS
        have BQ := Lib.hid hB
        clear hS hB
        have q0 : (0 : Int) ≤ (q : Int) := by omega
        by_cases hlq : q < M
        · have q1 : (q : Int) < (M : Int) := by omega
          have q2 : (q : Int) < 1000 := by have := HM.out; omega
          obtain ⟨x, hx0, hx1, cx, fx⟩ := BQ.out.cell hlq
          go_wp2
          go_roundw
          case rel => exact ⟨q + 1, by omega, by go_num, SQ.out.write rfl _ _, BQ.out.put pb (po + q) _ (by omega)⟩
          case measure => simp [intOf]; omega
        · obtain rfl : q = M := by omega
          have HEX := Lib.hid (own_export SQ.out HN6.out.1)
          go_upto_region 21 with (go_at_call 24; with_reducible refine (HEX.out).mono ?_; rintro e w14 ⟨lb, lo, pc, xb, xo, xc, mb, mo, qc, yb, yo, yc, rfl, hX, hS, hB⟩; have HX := Lib.hid hX; have S6 := Lib.hid hS; have B6 := Lib.hid hB; clear hX hS hB)
          try simp only [Act.put]
          obtain ⟨fb, hfb⟩ : ∃ fb, fb = w14.heap.size := ⟨_, rfl⟩
          have hLO := S6.out.low
          have hba : Below w14.heap.size w14 (w14.alloc (.cells #[.int .u32 1, .bool false, .slice (some ⟨lb, lo, none⟩) 1 pc, .slice (some ⟨mb, mo, none⟩) 1 qc] 36)) := (Below.refl _ _).alloc (Nat.le_refl _) _
          have hne := HX.out.ne
          have hge := HX.out.ge
          have hxl := HX.out.pw.lt
          have hyl := HX.out.qw.lt
          refine wp_let (fun V => XW w8 V h (oS3 o k z) fb pc qc k lb lo xb xo xc mb mo yb yo yc) ⟨(S6.out.below hba).other (N' := fun j => j = xb ∨ j = yb) KeepF.refl (fun j hj => ⟨.inl ⟨by omega, by omega⟩, by have := hba.size; omega⟩), by rw [hfb]; exact Blk.new _ _ _, (hba.cell (p := ⟨lb, lo + 1, none⟩) HX.out.lt.1).trans HX.out.p1, (hba.cell (p := ⟨mb, mo, none⟩) HX.out.lt.2).trans HX.out.q0, HX.out.pw.below hba, HX.out.qw.below hba, ⟨hne.1, hne.2.1, hne.2.2.1, hne.2.2.2, by omega, by omega⟩, Nat.lt_of_lt_of_le HX.out.lt.1 hba.size, Nat.lt_of_lt_of_le HX.out.lt.2 hba.size⟩ ?_
          intro V hXW
          have X0 := Lib.hid hXW
          rw [← hfb]
          clear hXW hLO hba hne hge hxl hyl hfb
          go_wp2
          go_loopw [14, 15] (fun v14 v15 wr => ∃ i : Nat, i ≤ 1 ∧ v14 = .int .i64 i ∧ XW w8 wr h (oS3 o k z) fb pc qc k lb lo xb xo xc mb mo yb yo yc) (fun v14 _ _ => 1 - (intOf v14).toNat)
          case atStart => exact ⟨0, by omega, rfl, X0.out⟩
          case round =>
            clear X0
            obtain ⟨i, hi1, rfl, hX⟩ := hrel
            have XI := Lib.hid hX
            clear hX
            have f2 := XI.out.fo.cell 2
            simp at f2
            by_cases hli : i < 1
            · obtain rfl : i = 0 := by omega
              go_wp2
              go_loopw [15] (fun v15 wr => ∃ j : Nat, j ≤ k ∧ v15 = .int .i64 j ∧ XW w8 wr h (oS3 o k z) fb pc qc k lb lo xb xo xc mb mo yb yo yc) (fun v15 _ => k - (intOf v15).toNat)
              case atStart => exact ⟨0, by omega, rfl, XI.out⟩
              case round =>
                clear XI f2
                obtain ⟨j, hj, rfl, hX⟩ := hrel
                have XJ := Lib.hid hX
                clear hX
                have f2 := XJ.out.fo.cell 2
                simp at f2
                have p1 := XJ.out.p1
                have j0 : (0 : Int) ≤ (j : Int) := by omega
                by_cases hlj : j < k
                · have j1 : (j : Int) < (k : Int) := by omega
                  obtain ⟨x, hx0, hx1, cx, fx⟩ := XJ.out.pw.cell hlj
                  go_wp2
                  go_roundw
                  case rel => exact ⟨j + 1, by omega, by go_num, XJ.out.put xb (xo + j) (.inl rfl) 7 (by decide)⟩
                  case measure => simp [intOf]; omega
                · obtain rfl : j = k := by omega
                  go_wp2
                  go_roundw
                  case rel => exact ⟨1, by omega, by go_num, XJ.out⟩
                  case measure => simp [intOf]
            · obtain rfl : i = 1 := by omega
              have f3 := XI.out.fo.cell 3
              simp at f3
              go_wp2
              go_loopw [16, 17] (fun v16 v17 wr => ∃ i : Nat, i ≤ 1 ∧ v16 = .int .i64 i ∧ XW w8 wr h (oS3 o k z) fb pc qc k lb lo xb xo xc mb mo yb yo yc) (fun v16 _ _ => 1 - (intOf v16).toNat)
              case atStart => exact ⟨0, by omega, rfl, XI.out⟩
              case round =>
                clear XI f2 f3
                obtain ⟨i, hi1, rfl, hX⟩ := hrel
                have XI := Lib.hid hX
                clear hX
                have f3 := XI.out.fo.cell 3
                simp at f3
                by_cases hli : i < 1
                · obtain rfl : i = 0 := by omega
                  go_wp2
                  go_loopw [17] (fun v17 wr => ∃ j : Nat, j ≤ k ∧ v17 = .int .i64 j ∧ XW w8 wr h (oS3 o k z) fb pc qc k lb lo xb xo xc mb mo yb yo yc) (fun v17 _ => k - (intOf v17).toNat)
                  case atStart => exact ⟨0, by omega, rfl, XI.out⟩
                  case round =>
                    clear XI f3
                    obtain ⟨j, hj, rfl, hX⟩ := hrel
                    have XJ := Lib.hid hX
                    clear hX
                    have f3 := XJ.out.fo.cell 3
                    simp at f3
                    have q0 := XJ.out.q0
                    have j0 : (0 : Int) ≤ (j : Int) := by omega
                    by_cases hlj : j < k
                    · have j1 : (j : Int) < (k : Int) := by omega
                      obtain ⟨x, hx0, hx1, cx, fx⟩ := XJ.out.qw.cell hlj
                      go_wp2
                      go_roundw
                      case rel => exact ⟨j + 1, by omega, by go_num, XJ.out.put yb (yo + j) (.inr rfl) 7 (by decide)⟩
                      case measure => simp [intOf]; omega
                    · obtain rfl : j = k := by omega
                      go_wp2
                      go_roundw
                      case rel => exact ⟨1, by omega, by go_num, XJ.out⟩
                      case measure => simp [intOf]
                · obtain rfl : i = 1 := by omega
                  go_upto_region 36 with (fail)
                  have G2 := Lib.hid (F2.out.trans (XI.out.so.low.mono F2.out.size))
                  obtain ⟨kb, hkb⟩ : ∃ kb, kb = wr.heap.size := ⟨_, rfl⟩
                  refine wp_let (fun V => Blk V kb 47 #[.int .u32 0, .slice (some ⟨ab, ao, none⟩) k cp] ∧ Blk V (kb + 1) 27 #[.slice (some ⟨ab, ao, none⟩) k cp] ∧ Blk V (kb + 1 + 1) 36 #[.int .u32 1, .bool false, .slice (some ⟨kb, 0, none⟩) 1 1, .slice (some ⟨kb + 1, 0, none⟩) 1 1] ∧ Below wr.heap.size wr V) ⟨?_, ?_, ?_, ?_⟩ ?_
                  · rw [hkb]; exact ((blk_atZ _ _ _ _ rfl).alloc _).alloc _
                  · rw [hkb]; exact (blk_atZ _ _ _ _ (by simp)).alloc _
                  · rw [hkb]; exact blk_atZ _ _ _ _ (by simp)
                  · exact (((Below.refl _ wr).alloc (Nat.le_refl _) _).alloc (by simp) _).alloc (by simp; omega) _
                  rintro V ⟨b1, b2, b3, b4⟩
                  rw [← hkb]
                  have V1 := Lib.hid b1
                  have V2 := Lib.hid b2
                  have V3 := Lib.hid b3
                  have V4 := Lib.hid b4
                  have SV := Lib.hid (XI.out.so.below b4)
                  have GV := Lib.hid (G2.out.trans (b4.mono G2.out.size))
                  clear b1 b2 b3 b4 hkb f3
                  have HFR := Lib.hid (show ∀ W', Below V.heap.size V W' → W'.rangeAt (kb + 1 + 1) 0 [.int .u32 1, .bool false, .slice (some ⟨kb, 0, none⟩) 1 1, .slice (some ⟨kb + 1, 0, none⟩) 1 1] from fun W' hW => (V3.out.below hW V3.out.lt).range _ rfl)
                  have HUF := Lib.hid Tryz.underlying36
                  have HSF : Hid ((Tryz.prog.info? 36).map (·.size) = some ([.int .u32 1, .bool false, .slice (some ⟨kb, 0, none⟩) 1 1, .slice (some ⟨kb + 1, 0, none⟩) 1 1] : List Value).length) := Lib.hid (by kernel_rfl)
                  have HRZ := Lib.hid (HR.out.next GV.out)
                  refine wp_region_held_drew (S := fun w' => Below V.heap.size V w') (by kernel_rfl) ((Below.refl _ V).drew) (fun hHeld => ?_)
                  obtain ⟨u0, hu0⟩ : ∃ u0, u0 = V.drew := ⟨_, rfl⟩
                  rw [← hu0]
                  rw [← hu0] at hHeld
                  have HEX2 := Lib.hid (own_export (SV.out.below hHeld) HN6.out.1)
                  clear hu0
                  refine wpAnyH_take (i := 0) (oi := ⟨some 148, _, _, _, _, _⟩) (v := .int .i64 0) rfl (by kernel_rfl) (by kernel_rfl) (by kernel_rfl) (fun _ _ _ h => h) (Or.inl ⟨by rfl, fun W hW => (by rfl)⟩) (by assumption) ?_
                  try simp only [Act.put, List.setIfInBounds_toArray, List.set_cons_zero, List.set_cons_succ]
                  refine wpAnyH_take (i := 1) (oi := ⟨some 149, _, _, _, _, _⟩) (v := .bool true) rfl (by kernel_rfl) (by kernel_rfl) (by kernel_rfl) (fun _ _ _ h => h) (Or.inl ⟨by rfl, fun W hW => (by go_simp)⟩) (by assumption) ?_
                  try simp only [Act.put, List.setIfInBounds_toArray, List.set_cons_zero, List.set_cons_succ]
                  refine wpAnyH_take (i := 2) (oi := ⟨some 150, _, _, _, _, _⟩) (v := .bool true) rfl (by kernel_rfl) (by kernel_rfl) (by kernel_rfl) (fun _ _ _ h => h) (Or.inl ⟨by rfl, fun W hW => (by rfl)⟩) (by assumption) ?_
                  try simp only [Act.put, List.setIfInBounds_toArray, List.set_cons_zero, List.set_cons_succ]
                  refine wpAnyH_take (i := 3) (oi := ⟨some 151, _, _, _, _, _⟩) (v := .pointer (some ⟨h, 0, none⟩)) rfl (by kernel_rfl) (by kernel_rfl) (by kernel_rfl) (fun _ _ _ h => h) (Or.inl ⟨by rfl, fun W hW => (by rfl)⟩) (by assumption) ?_
                  try simp only [Act.put, List.setIfInBounds_toArray, List.set_cons_zero, List.set_cons_succ]
                  refine' wpAnyH_take (i := 5) (oi := ⟨some 153, _, _, _, _, _⟩) (v := _) rfl (by kernel_rfl) (by kernel_rfl) (by kernel_rfl) (fun _ _ _ h => h) (yieldsIf_load_mid (by rfl) _ _ rfl (kb + 1 + 1) 0 rfl [.int .u32 1, .bool false, .slice (some ⟨kb, 0, none⟩) 1 1, .slice (some ⟨kb + 1, 0, none⟩) 1 1] _ (fun w h => HFR.out w h) HUF.out rfl HSF.out) (by assumption) ?_
                  try simp only [Act.put, List.setIfInBounds_toArray, List.set_cons_zero, List.set_cons_succ]
                  refine wpAnyH_ready (rs := [4]) (by kernel_rfl) (by simp) ?_
                  refine AllReadyH.cons (o := ⟨some 152, _, _, _, _, _⟩) rfl (fun K hK => ?_) AllReadyH.nil
                  rw [if_pos (by rfl)]
                  go_simp
                  refine (HEX2.out).mono ?_
                  rintro e u1 ⟨lb2, lo2, pc2, xb2, xo2, xc2, mb2, mo2, qc2, yb2, yo2, yc2, rfl, hX2, hS2, hB2⟩
                  dsimp only
                  have hE : Below V.heap.size V u1 := hHeld.trans (hB2.mono hHeld.size)
                  have HX2 := Lib.hid hX2
                  have HV2 := Lib.hid hE
                  refine hK.out _ _ hE (fun hHeld => ?_)
                  clear hK K hE hB2 hX2 hS2
                  try simp only [Act.put, List.setIfInBounds_toArray, List.set_cons_zero, List.set_cons_succ]
                  refine wpAnyH_ready (rs := [6]) (by kernel_rfl) (by simp) ?_
                  refine AllReadyH.cons (o := ⟨some 154, _, _, _, _, _⟩) rfl (fun K hK => ?_) AllReadyH.nil
                  rw [if_pos (by rfl)]
                  go_simp
                  have hp := HX2.out
                  have hv1 := (V1.out.below HV2.out V1.out.lt)
                  have hv2 := (V2.out.below HV2.out V2.out.lt)
                  refine (samef_true 1 false (some ⟨lb2, lo2, none⟩) (some ⟨kb, 0, none⟩) (some ⟨mb2, mo2, none⟩) (some ⟨kb + 1, 0, none⟩) 1 pc2 1 1 qc2 1 u1 (by decide) (by decide) (fun j hj => ?_) (fun j hj => ?_)).mono ?_
                  · obtain rfl : j = 0 := by omega
                    exact ⟨0, k, z, z, ⟨lb2, lo2, _, xc2, rfl, hp.lt.1, hp.p0, hp.p1, hp.pr⟩, ⟨kb, 0, _, cp, rfl, hv1.lt, hv1.cell 0, hv1.cell 1, HRZ.out.next HV2.out⟩, fun _ _ => rfl⟩
                  · obtain rfl : j = 0 := by omega
                    exact ⟨k, z, z, ⟨mb2, mo2, _, yc2, rfl, hp.lt.2, hp.q0, hp.qr⟩, ⟨kb + 1, 0, _, cp, rfl, hv2.lt, hv2.cell 0, HRZ.out.next HV2.out⟩, fun _ _ => rfl⟩
                  rintro e u2 ⟨rfl, hB2⟩
                  dsimp only
                  have hE : Below V.heap.size V u2 := hHeld.trans (hB2.mono hHeld.size)
                  refine hK.out _ _ hE (fun hHeld => ?_)
                  clear hK K hE hB2 hp hv1 hv2
                  try simp only [Act.put, List.setIfInBounds_toArray, List.set_cons_zero, List.set_cons_succ]
                  refine wpAnyH_take (i := 7) (oi := ⟨some 155, _, _, _, _, _⟩) (v := .bool true) rfl (by kernel_rfl) (by kernel_rfl) (by kernel_rfl) (fun _ _ _ h => h) (Or.inl ⟨by rfl, fun W hW => (by go_simp)⟩) (by assumption) ?_
                  try simp only [Act.put, List.setIfInBounds_toArray, List.set_cons_zero, List.set_cons_succ]
                  refine wpAnyH_take (i := 8) (oi := ⟨some 156, _, _, _, _, _⟩) (v := .bool true) rfl (by kernel_rfl) (by kernel_rfl) (by kernel_rfl) (fun _ _ _ h => h) (Or.inl ⟨by rfl, fun W hW => (by rfl)⟩) (by assumption) ?_
                  try simp only [Act.put, List.setIfInBounds_toArray, List.set_cons_zero, List.set_cons_succ]
                  refine wpAnyH_ready (rs := [9]) (by kernel_rfl) (by simp) ?_
                  refine AllReadyH.cons (o := ⟨some 157, _, _, _, _, _⟩) rfl (fun K hK => ?_) AllReadyH.nil
                  rw [if_pos (by rfl)]
                  go_simp
                  refine (HKN.out _).mono ?_
                  rintro e u3 ⟨rfl, hB2⟩
                  dsimp only
                  have hE : Below V.heap.size V u3 := hHeld.trans (hB2.mono hHeld.size)
                  refine hK.out _ _ hE (fun hHeld => ?_)
                  clear hK K hE hB2
                  try simp only [Act.put, List.setIfInBounds_toArray, List.set_cons_zero, List.set_cons_succ]
                  refine wpAnyH_take (i := 10) (oi := ⟨some 158, _, _, _, _, _⟩) (v := .bool true) rfl (by kernel_rfl) (by kernel_rfl) (by kernel_rfl) (fun _ _ _ h => h) (Or.inl ⟨by rfl, fun W hW => (by go_simp)⟩) (by assumption) ?_
                  try simp only [Act.put, List.setIfInBounds_toArray, List.set_cons_zero, List.set_cons_succ]
                  refine wpAnyH_take (i := 11) (oi := ⟨some 4, _, _, _, _, _⟩) (v := .bool true) rfl (by kernel_rfl) (by kernel_rfl) (by kernel_rfl) (fun _ _ _ h => h) (Or.inl ⟨by rfl, fun W hW => (by rfl)⟩) (by assumption) ?_
                  try simp only [Act.put, List.setIfInBounds_toArray, List.set_cons_zero, List.set_cons_succ]
                  refine wpAnyH_done (by kernel_rfl) ?_ _
                  have H9 := Lib.hid hHeld
                  clear hHeld
                  go_wp2
                  go_ret
                  exact ⟨rfl, GV.out.trans (H9.out.mono GV.out.size)⟩
end Go.Proofs.YtiffminhlimajaaGreat
