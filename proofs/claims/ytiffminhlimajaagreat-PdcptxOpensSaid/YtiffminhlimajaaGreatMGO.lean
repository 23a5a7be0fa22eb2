/- SameForward of the reference is true of states that read alike. A PDCP configuration by value among a law's arguments. Printed by gen/xzn.py. the reference's Valid; equality of configurations. One new transmitter among a law's calls; PdcptxWindow: the walk. law 45: configurations with integrity; a configuration without compression. PdcptxOpens: the walk. -/
import Derived.Test.YtiffminhlimajaaGreatMGI
import Derived.Test.YtiffminhlimajaaGreatMGC
import Derived.Test.YtiffminhlimajaaGreatMGK
import Derived.Test.YtiffminhlimajaaGreatMGJ
import Derived.ProofKit
import Derived.OpenShut
import Derived.ChangeOld
import Derived.Deep.Fields
import Derived.Laws.StructEq
import Derived.ChangeKeysEq
namespace Go.Proofs.YtiffminhlimajaaGreat
open Go.RowKit
set_option linter.unusedVariables false
attribute [local go_sem ↓] Go.wp_at_zero Go.wp_at_succ

/-- element k of a slice of counted packets; of a slice of packets -/
def CE2 (w : World) (A : Option Addr) (k : Nat) (ct : Int) (n : Nat) (z : Nat → Int) : Prop :=
  ∃ lb lo PA pc, A = some ⟨lb, lo, none⟩ ∧ lb < w.heap.size ∧ w.cell? ⟨lb, lo + k * 2, none⟩ = some (.int .u32 ct) ∧ w.cell? ⟨lb, lo + k * 2 + 1, none⟩ = some (.slice PA n pc) ∧ Row w w.heap.size PA n (fun j => .int .u8 (z j))
def BE2 (w : World) (A : Option Addr) (k : Nat) (n : Nat) (z : Nat → Int) : Prop :=
  ∃ lb lo PA pc, A = some ⟨lb, lo, none⟩ ∧ lb < w.heap.size ∧ w.cell? ⟨lb, lo + k, none⟩ = some (.slice PA n pc) ∧ Row w w.heap.size PA n (fun j => .int .u8 (z j))
theorem CE2.below {w w' : World} {A : Option Addr} {k : Nat} {ct : Int} {n : Nat} {z : Nat → Int} (h : CE2 w A k ct n z) (hb : Below w.heap.size w w') : CE2 w' A k ct n z := by
  obtain ⟨lb, lo, PA, pc, h1, h2, h3, h4, h5⟩ := h
  exact ⟨lb, lo, PA, pc, h1, Nat.lt_of_lt_of_le h2 hb.size, (hb.cell (p := ⟨lb, lo + k * 2, none⟩) h2).trans h3, (hb.cell (p := ⟨lb, lo + k * 2 + 1, none⟩) h2).trans h4, h5.next hb⟩
theorem BE2.below {w w' : World} {A : Option Addr} {k : Nat} {n : Nat} {z : Nat → Int} (h : BE2 w A k n z) (hb : Below w.heap.size w w') : BE2 w' A k n z := by
  obtain ⟨lb, lo, PA, pc, h1, h2, h3, h5⟩ := h
  exact ⟨lb, lo, PA, pc, h1, Nat.lt_of_lt_of_le h2 hb.size, (hb.cell (p := ⟨lb, lo + k, none⟩) h2).trans h3, h5.next hb⟩
def SameC (w : World) (A A' : Option Addr) (m : Nat) : Prop := ∀ k, k < m → ∃ ct n z z', CE2 w A k ct n z ∧ CE2 w A' k ct n z' ∧ ∀ j, j < n → z j = z' j
def SameB (w : World) (A A' : Option Addr) (m : Nat) : Prop := ∀ k, k < m → ∃ n z z', BE2 w A k n z ∧ BE2 w A' k n z' ∧ ∀ j, j < n → z j = z' j
theorem SameC.below {w w' : World} {A A' : Option Addr} {m : Nat} (h : SameC w A A' m) (hb : Below w.heap.size w w') : SameC w' A A' m := fun k hk => by
  obtain ⟨ct, n, z, z', h1, h2, h3⟩ := h k hk
  exact ⟨ct, n, z, z', h1.below hb, h2.below hb, h3⟩
theorem SameB.below {w w' : World} {A A' : Option Addr} {m : Nat} (h : SameB w A A' m) (hb : Below w.heap.size w w') : SameB w' A A' m := fun k hk => by
  obtain ⟨n, z, z', h1, h2, h3⟩ := h k hk
  exact ⟨n, z, z', h1.below hb, h2.below hb, h3⟩
set_option maxRecDepth 100000 in
set_option maxHeartbeats 1600000 in
theorem samec_true (A A' : Option Addr) (m c c' : Nat) (w : World) (hm : m ≤ maxLen) (h : SameC w A A' m) :
    Calls Tryz.prog 58 #[.slice A m c, .slice A' m c'] w fun e w' => e = .returned (.bool true) ∧ Below w.heap.size w w' := by
  unfold maxLen at hm
  have HS := Lib.hid h
  have hm' : (m : Int) ≤ 9223372036854775807 := by omega
  clear h
  go_enter Tryz.func58, Tryz.ntmps58
  go_wp2
  go_loopw [5] (fun v wr => ∃ k : Nat, k ≤ m ∧ v = .int .i64 k ∧ Below w.heap.size w wr) (fun v _ => m - (intOf v).toNat)
  case atStart => exact ⟨0, by omega, rfl, Below.refl _ _⟩
  case round =>
    obtain ⟨k, hk, rfl, hb⟩ := hrel
    by_cases hlt : k < m
    · obtain ⟨ct, n, z, z', ⟨lb, lo, PA, pc, rfl, h2, h3, h4, h5⟩, ⟨lb', lo', PA', pc', rfl, k2, k3, k4, k5⟩, he⟩ := (HS.out.below hb) k hlt
      have s1 := fun q => row_string (P := Tryz.prog) (w := wr.drewN q) 27 9 5 Tryz.underlying27 Tryz.underlying5 Tryz.underlying9 (show Row (wr.drewN q) wr.heap.size PA n (fun j => .int .u8 (z j)) from h5) pc
      have s2 := fun q => row_string (P := Tryz.prog) (w := wr.drewN q) 27 9 5 Tryz.underlying27 Tryz.underlying5 Tryz.underlying9 (show Row (wr.drewN q) wr.heap.size PA' n (fun j => .int .u8 (z' j)) from k5) pc'
      rw [← bytesOf_congr he] at s2
      have BB := Lib.hid hb
      have k0 : (0 : Int) ≤ (k : Int) := by omega
      have k1 : (k : Int) < (m : Int) := by omega
      clear h5 k5 he hb
      go_upto_region 6 with (fail)
      have hg : (ct != ct) = false := by simp
      go_quiet (fail)
      go_wp2
      go_roundw
      case rel => exact ⟨k + 1, by omega, by go_num, below_drewN BB.out _⟩
      case measure => simp [intOf]; omega
    · obtain rfl : k = m := by omega
      have BB := Lib.hid hb
      clear hb
      go_wp2
      go_ret
      exact ⟨rfl, BB.out⟩
set_option maxRecDepth 100000 in
set_option maxHeartbeats 1600000 in
theorem samel_true (A A' : Option Addr) (m c c' : Nat) (w : World) (hm : m ≤ maxLen) (h : SameB w A A' m) :
    Calls Tryz.prog 59 #[.slice A m c, .slice A' m c'] w fun e w' => e = .returned (.bool true) ∧ Below w.heap.size w w' := by
  unfold maxLen at hm
  have HS := Lib.hid h
  have hm' : (m : Int) ≤ 9223372036854775807 := by omega
  clear h
  go_enter Tryz.func59, Tryz.ntmps59
  go_wp2
  go_loopw [5] (fun v wr => ∃ k : Nat, k ≤ m ∧ v = .int .i64 k ∧ Below w.heap.size w wr) (fun v _ => m - (intOf v).toNat)
  case atStart => exact ⟨0, by omega, rfl, Below.refl _ _⟩
  case round =>
    obtain ⟨k, hk, rfl, hb⟩ := hrel
    by_cases hlt : k < m
    · obtain ⟨n, z, z', ⟨lb, lo, PA, pc, rfl, h2, h3, h5⟩, ⟨lb', lo', PA', pc', rfl, k2, k3, k5⟩, he⟩ := (HS.out.below hb) k hlt
      have s1 := fun q => row_string (P := Tryz.prog) (w := wr.drewN q) 27 9 5 Tryz.underlying27 Tryz.underlying5 Tryz.underlying9 (show Row (wr.drewN q) wr.heap.size PA n (fun j => .int .u8 (z j)) from h5) pc
      have s2 := fun q => row_string (P := Tryz.prog) (w := wr.drewN q) 27 9 5 Tryz.underlying27 Tryz.underlying5 Tryz.underlying9 (show Row (wr.drewN q) wr.heap.size PA' n (fun j => .int .u8 (z' j)) from k5) pc'
      rw [← bytesOf_congr he] at s2
      have BB := Lib.hid hb
      have k0 : (0 : Int) ≤ (k : Int) := by omega
      have k1 : (k : Int) < (m : Int) := by omega
      clear h5 k5 he hb
      go_upto_region 6 with (fail)
      go_quiet (fail)
      go_wp2
      go_roundw
      case rel => exact ⟨k + 1, by omega, by go_num, below_drewN BB.out _⟩
      case measure => simp [intOf]; omega
    · obtain rfl : k = m := by omega
      have BB := Lib.hid hb
      clear hb
      go_wp2
      go_ret
      exact ⟨rfl, BB.out⟩
set_option maxRecDepth 100000 in
set_option maxHeartbeats 1600000 in
theorem samef_true (nx : Int) (us : Bool) (A A' C C' : Option Addr) (m c c' mq d d' : Nat) (w : World) (hm : m ≤ maxLen) (hmq : mq ≤ maxLen) (h : SameC w A A' m) (h2 : SameB w C C' mq) :
    Calls Tryz.prog 25 #[.agg #[.int .u32 nx, .bool us, .slice A m c, .slice C mq d], .agg #[.int .u32 nx, .bool us, .slice A' m c', .slice C' mq d']] w fun e w' => e = .returned (.bool true) ∧ Below w.heap.size w w' := by
  have HC := Lib.hid (fun (V : World) (hb : Below w.heap.size w V) => samec_true A A' m c c' V hm (h.below hb))
  have HL := Lib.hid (fun (V : World) (hb : Below w.heap.size w V) => samel_true C C' mq d d' V hmq (h2.below hb))
  clear h h2 hm hmq
  go_enter Tryz.func25, Tryz.ntmps25
  go_upto_region 1 with (fail)
  refine wp_let (fun V => Blk V w.heap.size 36 #[.int .u32 nx, .bool us, .slice A m c, .slice C mq d] ∧ Blk V (w.heap.size + 1) 36 #[.int .u32 nx, .bool us, .slice A' m c', .slice C' mq d'] ∧ Below w.heap.size w V) ⟨(Blk.new _ _ _).alloc _, blk_atZ _ _ _ _ (by simp), ((Below.refl _ w).alloc (Nat.le_refl _) _).alloc (by simp) _⟩ ?_
  rintro W1 ⟨b1, b2, b3⟩
  obtain ⟨fa, hfa⟩ : ∃ fa, fa = w.heap.size := ⟨_, rfl⟩
  have B1 := Lib.hid b1
  have B2 := Lib.hid b2
  have B3 := Lib.hid b3
  have x0 := b1.cell 0
  have x1 := b1.cell 1
  have x2 := b1.cell 2
  have x3 := b1.cell 3
  have y0 := b2.cell 0
  have y1 := b2.cell 1
  have y2 := b2.cell 2
  have y3 := b2.cell 3
  simp at x0 x1 x2 x3 y0 y1 y2 y3
  clear b1 b2 b3 hfa
  go_wp2_with (first
    | (go_at_call 58; refine (HC.out _ B3.out).mono ?_; rintro e w2 ⟨rfl, hb⟩; have B4 := Lib.hid (B3.out.trans (hb.mono B3.out.size)); have P1 := B1.out.below hb B1.out.lt; have P2 := B2.out.below hb B2.out.lt; have u3 := P1.cell 3; have v3 := P2.cell 3; simp at u3 v3; clear hb P1 P2)
    | (go_at_call 59; refine (HL.out _ B4.out).mono ?_; rintro e w3 ⟨rfl, hb⟩; have B5 := Lib.hid (B4.out.trans (hb.mono B4.out.size)); clear hb))
  go_ret
  exact ⟨rfl, B5.out⟩
end Go.Proofs.YtiffminhlimajaaGreat
namespace Go.Proofs.YtiffminhlimajaaGreat
open Go.ChangeShapes Go.WideShapes Go.ChangeAt Go.RowKit

def valInt : Option Value → Int
  | some (.int _ a) => a
  | _ => 0
section
variable {H : Type} {enc : TypeId × Value → H} {w : World} {base : Nat} {spare : Nat → Bool} {held : Bool}
theorem open_b16 {fuel : Nat} {L : List Value} {x : DataW H × List MemPlace} (h : DataW.trod enc Tryz.prog w base spare held fuel 23 L = some x) :
    ∃ f : Nat → Int, (∀ j, j < 16 → L[j]? = some (.int .u8 (f j))) ∧ ∀ j, j < 16 → 0 ≤ f j ∧ f j < 256 := by
  obtain ⟨xs, m, _, _, _, hx, hel⟩ := DataW.trod_array Tryz.underlying23 h
  have c5 : Tryz.prog.cellsOf 5 = 1 := by kernel_rfl
  have key : ∀ j, j < 16 → ∃ a, L[j]? = some (.int .u8 a) ∧ 0 ≤ a ∧ a < 256 := fun j hj => by
    have h1 := hel j hj
    rw [c5, Nat.mul_one, List.getElem?_eq_getElem (by omega)] at h1
    obtain ⟨a, e, _, hw⟩ := DataW.trod_int Tryz.underlying5 h1
    have h2 := congrArg List.head? e
    simp [List.head?_take] at h2
    have hb := bounds_u8 hw
    exact ⟨a, h2, hb.1, by omega⟩
  refine ⟨fun j => valInt L[j]?, fun j hj => ?_, fun j hj => ?_⟩
  · obtain ⟨a, e, _⟩ := key j hj
    simp only [e, valInt]
  · obtain ⟨a, e, hb⟩ := key j hj
    simp only [e, valInt]
    exact hb
set_option maxRecDepth 100000 in
theorem open_cfg {r : Reach} {b0 : Nat} {v : Value} {d : DataW H} {p : List MemPlace}
    (hv : Value.okWide Tryz.prog w r b0 25 v) (h : DataW.Trod enc Tryz.prog w base spare held 25 v d p) : ∃ c : Cfg, v = .agg c.arr ∧ c.Ok := by
  obtain ⟨cs, rfl, hsz⟩ := okWide_struct Tryz.underlying25 hv
  have hc : Tryz.prog.cellsOf 25 = 39 := by kernel_rfl
  have h9 : cs.size = 39 := hsz.trans hc
  obtain ⟨fuel, hf⟩ := h
  obtain ⟨xs, n, _, _, _, hlen, hg⟩ := DataW.trod_struct Tryz.underlying25 hf
  have c3 : Tryz.prog.cellsOf 3 = 1 := by kernel_rfl
  have c22 : Tryz.prog.cellsOf 22 = 1 := by kernel_rfl
  have c4 : Tryz.prog.cellsOf 4 = 1 := by kernel_rfl
  have c16 : Tryz.prog.cellsOf 23 = 16 := by kernel_rfl
  have hx9 : xs.length = 9 := hlen
  have keyi : ∀ (i o : Nat) (ty : TypeId), Tryz.prog.underlying ty = some (.int .i64) → i < 9 → DataW.trod enc Tryz.prog w base spare held n ty (List.take 1 (List.drop o (Value.agg cs).cells.toList)) = xs[i]? → ∃ a, cs[o]? = some (Value.int .i64 a) := by
    intro i o ty hu hi h1
    rw [List.getElem?_eq_getElem (by omega)] at h1
    obtain ⟨a, e, _, _⟩ := DataW.trod_int hu h1
    refine ⟨a, ?_⟩
    have h2 := congrArg List.head? e
    simp [Value.cells, List.head?_take] at h2
    exact h2
  have keyb : ∀ (i o : Nat), i < 9 → DataW.trod enc Tryz.prog w base spare held n 4 (List.take 1 (List.drop o (Value.agg cs).cells.toList)) = xs[i]? → ∃ a, cs[o]? = some (Value.bool a) := by
    intro i o hi h1
    rw [List.getElem?_eq_getElem (by omega)] at h1
    obtain ⟨a, e, _⟩ := DataW.trod_bool Tryz.underlying4 h1
    refine ⟨a, ?_⟩
    have h2 := congrArg List.head? e
    simp [Value.cells, List.head?_take] at h2
    exact h2
  have keya : ∀ (i o : Nat), i < 9 → DataW.trod enc Tryz.prog w base spare held n 23 (List.take 16 (List.drop o (Value.agg cs).cells.toList)) = xs[i]? → ∃ f : Nat → Int, (∀ j, j < 16 → cs[o + j]? = some (.int .u8 (f j))) ∧ ∀ j, j < 16 → 0 ≤ f j ∧ f j < 256 := by
    intro i o hi h1
    rw [List.getElem?_eq_getElem (by omega)] at h1
    obtain ⟨f, e, hb⟩ := open_b16 h1
    refine ⟨f, fun j hj => ?_, hb⟩
    have := e j hj
    rw [List.getElem?_take, if_pos hj, List.getElem?_drop] at this
    simpa [Value.cells] using this
  obtain ⟨a0, e0⟩ := keyi 0 0 3 Tryz.underlying3 (by decide) (by have h1 : DataW.trod enc Tryz.prog w base spare held n 3 (List.take (Tryz.prog.cellsOf 3) (List.drop 0 (Value.agg cs).cells.toList)) = xs[0]? := hg 0 _ rfl; rwa [c3] at h1)
  obtain ⟨a1, e1⟩ := keyi 1 1 22 Tryz.underlying22 (by decide) (by have h1 : DataW.trod enc Tryz.prog w base spare held n 22 (List.take (Tryz.prog.cellsOf 22) (List.drop 1 (Value.agg cs).cells.toList)) = xs[1]? := hg 1 _ rfl; rwa [c22] at h1)
  obtain ⟨a2, e2, r2⟩ := keya 2 2 (by decide) (by have h1 : DataW.trod enc Tryz.prog w base spare held n 23 (List.take (Tryz.prog.cellsOf 23) (List.drop 2 (Value.agg cs).cells.toList)) = xs[2]? := hg 2 _ rfl; rwa [c16] at h1)
  obtain ⟨a3, e3, r3⟩ := keya 3 18 (by decide) (by have h1 : DataW.trod enc Tryz.prog w base spare held n 23 (List.take (Tryz.prog.cellsOf 23) (List.drop 18 (Value.agg cs).cells.toList)) = xs[3]? := hg 3 _ rfl; rwa [c16] at h1)
  obtain ⟨a4, e4⟩ := keyb 4 34 (by decide) (by have h1 : DataW.trod enc Tryz.prog w base spare held n 4 (List.take (Tryz.prog.cellsOf 4) (List.drop 34 (Value.agg cs).cells.toList)) = xs[4]? := hg 4 _ rfl; rwa [c4] at h1)
  obtain ⟨a5, e5⟩ := keyb 5 35 (by decide) (by have h1 : DataW.trod enc Tryz.prog w base spare held n 4 (List.take (Tryz.prog.cellsOf 4) (List.drop 35 (Value.agg cs).cells.toList)) = xs[5]? := hg 5 _ rfl; rwa [c4] at h1)
  obtain ⟨a6, e6⟩ := keyb 6 36 (by decide) (by have h1 : DataW.trod enc Tryz.prog w base spare held n 4 (List.take (Tryz.prog.cellsOf 4) (List.drop 36 (Value.agg cs).cells.toList)) = xs[6]? := hg 6 _ rfl; rwa [c4] at h1)
  obtain ⟨a7, e7⟩ := keyi 7 37 3 Tryz.underlying3 (by decide) (by have h1 : DataW.trod enc Tryz.prog w base spare held n 3 (List.take (Tryz.prog.cellsOf 3) (List.drop 37 (Value.agg cs).cells.toList)) = xs[7]? := hg 7 _ rfl; rwa [c3] at h1)
  obtain ⟨a8, e8⟩ := keyi 8 38 3 Tryz.underlying3 (by decide) (by have h1 : DataW.trod enc Tryz.prog w base spare held n 3 (List.take (Tryz.prog.cellsOf 3) (List.drop 38 (Value.agg cs).cells.toList)) = xs[8]? := hg 8 _ rfl; rwa [c3] at h1)
  obtain ⟨c, hcd⟩ : ∃ c : Cfg, c = ⟨a0, a1, a2, a3, a4, a5, a6, a7, a8⟩ := ⟨_, rfl⟩
  refine ⟨c, ?_, by rw [hcd]; exact ⟨r2, r3⟩⟩
  have : cs = c.arr := by
    apply Array.ext_getElem?
    intro i
    by_cases hi : i < 39
    · rw [c.arr_at hi, hcd]
      unfold Cfg.cell
      rcases (by omega : i = 0 ∨ i = 1 ∨ (2 ≤ i ∧ i < 18) ∨ (18 ≤ i ∧ i < 34) ∨ i = 34 ∨ i = 35 ∨ i = 36 ∨ i = 37 ∨ i = 38) with rfl | rfl | h | h | rfl | rfl | rfl | rfl | rfl
      · exact e0
      · exact e1
      · rw [if_neg (by omega), if_neg (by omega), if_pos (by omega)]
        have := e2 (i - 2) (by omega)
        rwa [show 2 + (i - 2) = i by omega] at this
      · rw [if_neg (by omega), if_neg (by omega), if_neg (by omega), if_pos (by omega)]
        have := e3 (i - 18) (by omega)
        rwa [show 18 + (i - 18) = i by omega] at this
      · exact e4
      · exact e5
      · exact e6
      · exact e7
      · exact e8
    · rw [Array.getElem?_eq_none (by omega), Array.getElem?_eq_none (by rw [c.arr_size]; omega)]
  rw [this]
end
end Go.Proofs.YtiffminhlimajaaGreat
namespace Go.Proofs.YtiffminhlimajaaGreat
open Go.RowKit
set_option linter.unusedVariables false
attribute [local go_sem ↓] Go.wp_at_zero Go.wp_at_succ

set_option maxRecDepth 100000 in
set_option maxHeartbeats 1600000 in
theorem rvalid45_ok (c : Cfg) (w : World) : Calls Tryz.prog 16 #[.agg c.arr] w fun e w' => e = .returned (.bool (decide c.Valid)) ∧ Below w.heap.size w w' := by
  have h0 : c.arr[0]? = some (.int .i64 c.b) := c.arr_at (by decide)
  have h1 : c.arr[1]? = some (.int .i64 c.d) := c.arr_at (by decide)
  have h2 : c.arr[37]? = some (.int .i64 c.ds) := c.arr_at (by decide)
  have h3 : c.arr[38]? = some (.int .i64 c.ro) := c.arr_at (by decide)
  have HV := Lib.hid (show c.Valid ↔ (0 ≤ c.b ∧ c.b ≤ 31 ∧ (c.d = 0 ∨ c.d = 1) ∧ 0 ≤ c.ds ∧ c.ds ≤ 1073741824 ∧ 0 ≤ c.ro ∧ c.ro ≤ 1073741824) from Iff.rfl)
  obtain ⟨V, hV⟩ : ∃ V, V = decide c.Valid := ⟨_, rfl⟩
  have HD := Lib.hid (show V = true ↔ c.Valid from by rw [hV]; exact decide_eq_true_iff)
  obtain ⟨Z, hZ⟩ : ∃ Z, Z = c.arr := ⟨_, rfl⟩
  rw [← hV]
  rw [← hZ] at h0 h1 h2 h3 ⊢
  obtain ⟨b, hb⟩ : ∃ b, b = c.b := ⟨_, rfl⟩
  obtain ⟨d, hd⟩ : ∃ d, d = c.d := ⟨_, rfl⟩
  obtain ⟨ds, hds⟩ : ∃ ds, ds = c.ds := ⟨_, rfl⟩
  obtain ⟨ro, hro⟩ : ∃ ro, ro = c.ro := ⟨_, rfl⟩
  rw [← hb] at h0 HV
  rw [← hd] at h1 HV
  rw [← hds] at h2 HV
  rw [← hro] at h3 HV
  clear hZ hV hb hd hds hro
  go_enter Tryz.func16, Tryz.ntmps16
  go_upto_region 1 with (fail)
  refine wp_let (fun W => Blk W w.heap.size 25 Z ∧ Below w.heap.size w W) ⟨Blk.new _ _ _, (Below.refl _ w).alloc (Nat.le_refl _) _⟩ ?_
  rintro W1 ⟨b1, b2⟩
  have x0 := (b1.cell 0).trans h0
  have x1 := (b1.cell 1).trans h1
  have x2 := (b1.cell 37).trans h2
  have x3 := (b1.cell 38).trans h3
  have HB := Lib.hid b2
  clear b1 b2 h0 h1 h2 h3
  have hout : ∀ r : Bool, (r = true ↔ (0 ≤ b ∧ b ≤ 31 ∧ (d = 0 ∨ d = 1) ∧ 0 ≤ ds ∧ ds ≤ 1073741824 ∧ 0 ≤ ro ∧ ro ≤ 1073741824)) → r = V := fun r hr => by
    rw [Bool.eq_iff_iff, hr, HD.out, HV.out]
  have HO := Lib.hid hout
  clear hout
  by_cases c0 : 0 ≤ b
  rotate_left
  · go_wp2
    go_ret
    exact ⟨ret_bool (HO.out _ ⟨fun h => (by cases h), fun h => (by omega)⟩), HB.out⟩
  by_cases c1 : b ≤ 31
  rotate_left
  · go_wp2
    go_ret
    exact ⟨ret_bool (HO.out _ ⟨fun h => (by cases h), fun h => (by omega)⟩), HB.out⟩
  by_cases c2 : d = 0 ∨ d = 1
  rotate_left
  · have d0 : (d == 0) = false := by simp; exact fun h => c2 (.inl h)
    have d1 : (d == 1) = false := by simp; exact fun h => c2 (.inr h)
    have HC2 := Lib.hid c2
    clear c2
    go_wp2
    go_ret
    exact ⟨ret_bool (HO.out _ ⟨fun h => (by cases h), fun h => (absurd h.2.2.1 HC2.out)⟩), HB.out⟩
  by_cases c3 : 0 ≤ ds
  rotate_left
  · rcases c2 with rfl | rfl
    · go_wp2
      go_ret
      exact ⟨ret_bool (HO.out _ ⟨fun h => (by cases h), fun h => (by omega)⟩), HB.out⟩
    · go_wp2
      go_ret
      exact ⟨ret_bool (HO.out _ ⟨fun h => (by cases h), fun h => (by omega)⟩), HB.out⟩
  by_cases c4 : ds ≤ 1073741824
  rotate_left
  · rcases c2 with rfl | rfl
    · go_wp2
      go_ret
      exact ⟨ret_bool (HO.out _ ⟨fun h => (by cases h), fun h => (by omega)⟩), HB.out⟩
    · go_wp2
      go_ret
      exact ⟨ret_bool (HO.out _ ⟨fun h => (by cases h), fun h => (by omega)⟩), HB.out⟩
  by_cases c5 : 0 ≤ ro
  rotate_left
  · rcases c2 with rfl | rfl
    · go_wp2
      go_ret
      exact ⟨ret_bool (HO.out _ ⟨fun h => (by cases h), fun h => (by omega)⟩), HB.out⟩
    · go_wp2
      go_ret
      exact ⟨ret_bool (HO.out _ ⟨fun h => (by cases h), fun h => (by omega)⟩), HB.out⟩
  by_cases c6 : ro ≤ 1073741824
  · rcases c2 with rfl | rfl
    · go_wp2
      go_ret
      exact ⟨ret_bool (HO.out _ ⟨fun h => ⟨by omega, by omega, by simp, by omega, by omega, by omega, by omega⟩, fun h => rfl⟩), HB.out⟩
    · go_wp2
      go_ret
      exact ⟨ret_bool (HO.out _ ⟨fun h => ⟨by omega, by omega, by simp, by omega, by omega, by omega, by omega⟩, fun h => rfl⟩), HB.out⟩
  · rcases c2 with rfl | rfl
    · go_wp2
      go_ret
      exact ⟨ret_bool (HO.out _ ⟨fun h => (by cases h), fun h => (by omega)⟩), HB.out⟩
    · go_wp2
      go_ret
      exact ⟨ret_bool (HO.out _ ⟨fun h => (by cases h), fun h => (by omega)⟩), HB.out⟩
theorem cells5 : Tryz.prog.cellsOf 5 = 1 := by kernel_rfl
theorem k_part (f : Nat → Int) (i : Nat) (hi : i < 16) (w : World) : (part 5 (kArr f) (i * 1)).run Tryz.prog w = .ok (.int .u8 (f i)) w := by
  obtain ⟨q, hq, _, hqs, _⟩ := info_parts Tryz.infoByte
  have h := kArr_at f i hi
  simp [part, Sem.run_bind, sizeOf, typeInfo, hq, hqs, h]
theorem k_items (f : Nat → Int) (d : Nat) : ∀ (is : List Nat) (_ : ∀ i, i ∈ is → i < 16) (w : World), (Op.eqItems (d + 1) 5 1 (kArr f) (kArr f) is).run Tryz.prog w = .ok true w
  | [], _, w => by simp [Op.eqItems]
  | i :: is, h, w => by
    simp only [Op.eqItems, Sem.run_bind, k_part f i (h i (by simp)) w, Result.andThen_ok]
    have hr := k_items f d is (fun j hj => h j (by simp [hj])) w
    simp [go_sem, hr]
theorem k_self (f : Nat → Int) (d : Nat) (w : World) : (Op.equalIn (d + 2) 23 (.agg (kArr f)) (.agg (kArr f))).run Tryz.prog w = .ok true w := by
  obtain ⟨q, hq, _⟩ := info_parts Tryz.infoByte
  rw [run_equalIn_array w (d + 1) (kArr f) (kArr f) Tryz.underlying23 hq, cells5, k_items f d (List.range 16) (fun i hi => by simpa using hi) w]
set_option maxRecDepth 100000 in
set_option maxHeartbeats 4000000 in
theorem cfg_self (c : Cfg) (w : World) : (binOp .eql 25 (.agg c.arr) (.agg c.arr)).run Tryz.prog w = .ok (.bool true) w := by
  have h1 := fun w => k_self c.key 9997 w
  have h2 := fun w => k_self c.code 9997 w
  rw [cfgLit_eq]
  unfold cfgLit
  simp only [kArr] at h1 h2
  simp [go_sem, h1, h2]
end Go.Proofs.YtiffminhlimajaaGreat
namespace Go.Proofs.YtiffminhlimajaaGreat
open Go.RowKit
set_option linter.unusedVariables false
attribute [local go_sem ↓] Go.wp_at_zero Go.wp_at_succ

/-- a transmitter of blocks that w0 had not -/
def Solo (w0 w : World) (g : Nat) (s : TS) : Prop := ∃ W R, TxI w g s W R ∧ (∀ k, W k → w0.heap.size ≤ k) ∧ Below w0.heap.size w0 w
section
variable {w0 w w' : World} {g : Nat} {s : TS}
theorem Solo.of_new {w1 : World} (hb : Below w0.heap.size w0 w1) (h : TxNewO w1 w g s) : Solo w0 w g s := by
  obtain ⟨W, R, h1, h2, h3, h4⟩ := h
  exact ⟨W, R, h1, fun k hk => Nat.le_trans hb.size (h2 k hk), hb.trans (h4.mono hb.size)⟩
theorem Solo.low (h : Solo w0 w g s) : Below w0.heap.size w0 w := by
  obtain ⟨W, R, h1, h2, h3⟩ := h
  exact h3
theorem Solo.below (h : Solo w0 w g s) (hb : Below w.heap.size w w') : Solo w0 w' g s := by
  obtain ⟨W, R, h1, h2, h3⟩ := h
  exact ⟨W, R, h1.below hb, h2, h3.trans (hb.mono h3.size)⟩
theorem Solo.call (h : Solo w0 w g s) : ∃ W R, TxI w g s W R ∧ (∀ k, W k → w0.heap.size ≤ k) ∧ ∀ w' s', TxO W R w w' g s' → Solo w0 w' g s' := by
  obtain ⟨W, R, h1, h2, h3⟩ := h
  refine ⟨W, R, h1, h2, fun w' s' hO => ?_⟩
  obtain ⟨W', R', hI, hW, hR, hK⟩ := hO
  have hs := h3.size
  exact ⟨W', R', hI, fun k hk => by
    rcases hW k hk with h | h
    · exact h2 k h
    · omega, KeepF.below h3 hK (fun k hk => h2 k hk) hs⟩
/-- Next of such a transmitter -/
theorem solo_next (h : Solo w0 w g s) (hf : s.Fine) (hig : s.C.ig = false) (hcm : s.C.cm = false) (hpl : s.P.length ≤ 1000000) (t : Int) (ht1 : -9223372036854775808 ≤ t) (ht2 : t ≤ 9223372036854775807) :
    Calls Tryz.prog 18 #[.pointer (some ⟨g, 0, none⟩), .int .i64 t] w fun e w' => ∃ A c, e = .returned (.tuple #[.slice A (s.send t).n c, .int .u32 (s.send t).ct, .int .i64 (s.send t).e]) ∧ (s.send t).n ≤ c ∧ Row w' w'.heap.size A (s.send t).n (fun j => .int .u8 (((s.send t).z j : Nat) : Int)) ∧ Solo w0 w' g (s.send t).s := by
  obtain ⟨W, R, hI, hW, hc⟩ := h.call
  refine (tNext_ok g s W R w hI hf t ht1 ht2 (builds_plain g s.C hf.ok hf.val hig hcm) hpl).mono ?_
  rintro e w' ⟨A, c, W', R', h1, h2, h3, h4, h5, h6, h7, h8⟩
  exact ⟨A, c, h1, h2, h3, hc w' _ ⟨W', R', h4, h5, h6, h7⟩⟩
theorem solo_confirm (h : Solo w0 w g s) (x : Int) (i : Nat) (e0 : PV) (he : s.P[i]? = some e0) (hx : e0.ct = x) (hno : ∀ j, j < i → ∀ e, s.P[j]? = some e → e.ct ≠ x) :
    Calls Tryz.prog 20 #[.pointer (some ⟨g, 0, none⟩), .int .u32 x] w fun e w' => e = .returned (.int .i64 0) ∧ Solo w0 w' g { s with P := s.P.eraseIdx i } := by
  obtain ⟨W, R, hI, hW, hc⟩ := h.call
  exact (tconfirm_ok g s W R w hI x i e0 he hx hno).mono fun e w' ⟨h1, h2⟩ => ⟨h1, hc w' _ h2⟩
theorem solo_confirm_no (h : Solo w0 w g s) (x : Int) (hno : ∀ e, e ∈ s.P → e.ct ≠ x) :
    Calls Tryz.prog 20 #[.pointer (some ⟨g, 0, none⟩), .int .u32 x] w fun e w' => e = .returned (.int .i64 10) ∧ Solo w0 w' g s := by
  obtain ⟨W, R, hI, hW, hc⟩ := h.call
  exact (tconfirm_no g s W R w hI x hno).mono fun e w' ⟨h1, h2⟩ => ⟨h1, h.below h2⟩
end
def cf1 : Cfg := { Cfg.zero with ac := true }
theorem cf1_lit : cf1.arr = #[.int .i64 0, .int .i64 0, .int .u8 0, .int .u8 0, .int .u8 0, .int .u8 0, .int .u8 0, .int .u8 0, .int .u8 0, .int .u8 0, .int .u8 0, .int .u8 0, .int .u8 0, .int .u8 0, .int .u8 0, .int .u8 0, .int .u8 0, .int .u8 0, .int .u8 0, .int .u8 0, .int .u8 0, .int .u8 0, .int .u8 0, .int .u8 0, .int .u8 0, .int .u8 0, .int .u8 0, .int .u8 0, .int .u8 0, .int .u8 0, .int .u8 0, .int .u8 0, .int .u8 0, .int .u8 0, .bool false, .bool false, .bool true, .int .i64 0, .int .i64 0] := by kernel_rfl
theorem cf1_ok : cf1.Ok := ⟨fun _ _ => ⟨Int.le_refl 0, by show (0 : Int) < 256; decide⟩, fun _ _ => ⟨Int.le_refl 0, by show (0 : Int) < 256; decide⟩⟩
theorem cf1_valid : cf1.Valid := by unfold cf1 Cfg.zero Cfg.Valid; decide
/-- the states of PdcptxWindow -/
def wS0 (nx fi : Int) (z y0 y1 : Nat → Int) : TS := ⟨cf1, 0, nx, [⟨1, y0, 0⟩, ⟨1, y1, 0⟩], [⟨fi, 1, z, true⟩], [kArr cf1.key], cNew⟩
def wS1 (nx fi : Int) (z y0 y1 : Nat → Int) : TS := { wS0 nx fi z y0 y1 with P := [⟨fi, 1, z, false⟩] }
def wS2 (nx fi : Int) (z y0 y1 : Nat → Int) : TS := { wS0 nx fi z y0 y1 with Q := [⟨1, y1, 0⟩], next := nx + 1, P := [⟨fi, 1, z, false⟩, ⟨nx, 1, y0, false⟩] }
theorem fine_of {s : TS} (h : s.C = cf1) (hq : ∀ q, q ∈ s.Q → q.at_ = 0) (hn : 0 ≤ s.now) : s.Fine := ⟨by rw [h]; exact cf1_ok, by rw [h]; exact cf1_valid, fun q h2 => by rw [hq q h2]; exact ⟨Int.le_refl _, hn⟩⟩
theorem tick0 {s : TS} (h : s.C.ds = 0) (hn : s.now = 0) : s.tick 0 = s := by
  rw [TS.tick_zero h, hn]
  have : max (0 : Int) 0 = s.now := by rw [hn]; rfl
  rw [this]
section
variable {nx fi : Int} {z y0 y1 : Nat → Int}
theorem w_send0 : (wS0 nx fi z y0 y1).send 0 = ⟨pduN cf1 1, pduZ cf1 fi.toNat 1 (nf z), fi, 0, wS1 nx fi z y0 y1⟩ := by
  unfold TS.send
  rw [if_neg (by decide), tick0 rfl rfl]
  rfl
theorem w_send1_full (h1 : nx ≠ 4294967296) (h : 2048 ≤ (nx - fi) % 18446744073709551616) : (wS1 nx fi z y0 y1).send 0 = ⟨0, zB, 0, 7, wS1 nx fi z y0 y1⟩ := by
  unfold TS.send
  rw [if_neg (by decide), tick0 rfl rfl]
  show (if nx = 4294967296 then _ else if decide (2048 ≤ (nx - fi) % 18446744073709551616) = true then _ else _) = _
  rw [if_neg h1, if_pos (decide_eq_true h)]
theorem w_send1 (h1 : nx ≠ 4294967296) (h : ¬ 2048 ≤ (nx - fi) % 18446744073709551616) : (wS1 nx fi z y0 y1).send 0 = ⟨pduN cf1 1, pduZ cf1 nx.toNat 1 (nf y0), nx, 0, wS2 nx fi z y0 y1⟩ := by
  unfold TS.send
  rw [if_neg (by decide), tick0 rfl rfl]
  show (if nx = 4294967296 then _ else if decide (2048 ≤ (nx - fi) % 18446744073709551616) = true then _ else _) = _
  rw [if_neg h1, if_neg (by rw [decide_eq_false h]; decide)]
  rfl
theorem w_send2_full (h1 : nx ≠ 4294967296) : (({ wS1 nx fi z y0 y1 with P := [] } : TS).send 0).e = 0 := by
  unfold TS.send
  rw [if_neg (by decide), tick0 rfl rfl]
  show (if nx = 4294967296 then _ else _ : NX).e = 0
  rw [if_neg h1]
  rfl
theorem w_send2 (h1 : nx + 1 ≠ 4294967296) : (({ wS2 nx fi z y0 y1 with P := [⟨nx, 1, y0, false⟩] } : TS).send 0).e = 0 := by
  unfold TS.send
  rw [if_neg (by decide), tick0 rfl rfl]
  show (if nx + 1 = 4294967296 then _ else if decide (2048 ≤ (nx + 1 - nx) % 18446744073709551616) = true then _ else _ : NX).e = 0
  rw [if_neg h1, show nx + 1 - nx = 1 by omega]
  rfl
end
end Go.Proofs.YtiffminhlimajaaGreat
namespace Go.Proofs.YtiffminhlimajaaGreat
open Go.RowKit
set_option linter.unusedVariables false
attribute [local go_sem ↓] Go.wp_at_zero Go.wp_at_succ

theorem builds_any (g : Nat) (C : Cfg) (hok : C.Ok) (hv : C.Valid) (hcm : C.cm = false) : Builds g C := by
  cases hig : C.ig with
  | false => exact builds_plain g C hok hv hig hcm
  | true =>
    intro s W R V hC hI ct hct A n c z h1 h9 hr hz
    subst hC
    exact tbuild_ig code_ok g s W R V hI hok hv hig hcm ct hct A n c z h1 h9 hr hz
theorem solo_nextA {w0 w : World} {g : Nat} {s : TS} (h : Solo w0 w g s) (hf : s.Fine) (hcm : s.C.cm = false) (hpl : s.P.length ≤ 1000000) (t : Int) (ht1 : -9223372036854775808 ≤ t) (ht2 : t ≤ 9223372036854775807) :
    Calls Tryz.prog 18 #[.pointer (some ⟨g, 0, none⟩), .int .i64 t] w fun e w' => ∃ A c, e = .returned (.tuple #[.slice A (s.send t).n c, .int .u32 (s.send t).ct, .int .i64 (s.send t).e]) ∧ (s.send t).n ≤ c ∧ Row w' w'.heap.size A (s.send t).n (fun j => .int .u8 (((s.send t).z j : Nat) : Int)) ∧ Solo w0 w' g (s.send t).s := by
  obtain ⟨W, R, hI, hW, hc⟩ := h.call
  refine (tNext_ok g s W R w hI hf t ht1 ht2 (builds_any g s.C hf.ok hf.val hcm) hpl).mono ?_
  rintro e w' ⟨A, c, W', R', h1, h2, h3, h4, h5, h6, h7, h8⟩
  exact ⟨A, c, h1, h2, h3, hc w' _ ⟨W', R', h4, h5, h6, h7⟩⟩
theorem k_b16 {f : Nat → Int} (h : ∀ j, j < 16 → 0 ≤ f j ∧ f j < 256) : kArr f = b16 (nf f) := by
  apply Array.ext_getElem?
  intro j
  by_cases hj : j < 16
  · rw [kArr_at f j hj, b16_at _ hj, nf_cast h hj]
  · rw [Array.getElem?_eq_none (by show 16 ≤ j; omega), Array.getElem?_eq_none (by rw [b16_size]; omega)]
def Cfg.noC (c : Cfg) : Cfg := { c with cm := false }
theorem Cfg.noC_arr (c : Cfg) : c.arr.setIfInBounds 35 (.bool false) = c.noC.arr := by
  apply Array.ext_getElem?
  intro j
  rw [Array.getElem?_setIfInBounds, c.arr_size]
  by_cases hj : j < 39
  · rw [c.noC.arr_at hj]
    by_cases e : 35 = j
    · subst e; rw [if_pos rfl, if_pos (by omega)]; rfl
    · rw [if_neg e, c.arr_at hj]
      unfold Cfg.cell Cfg.noC
      by_cases h0 : j = 0
      · simp [h0]
      by_cases h1 : j = 1
      · simp [h1]
      by_cases h2 : j < 18
      · simp [h0, h1, h2]
      by_cases h3 : j < 34
      · simp [h0, h1, h2, h3]
      by_cases h4 : j = 34
      · simp [h4]
      · simp [h0, h1, h2, h3, h4, show ¬ j = 35 from fun h => e h.symm]
  · rw [if_neg (by omega), Array.getElem?_eq_none (by rw [c.arr_size]; omega), Array.getElem?_eq_none (by rw [c.noC.arr_size]; omega)]
theorem Cfg.noC_ok {c : Cfg} (h : c.Ok) : c.noC.Ok := ⟨h.key, h.code⟩
theorem Cfg.noC_valid (c : Cfg) : c.noC.Valid ↔ c.Valid := Iff.rfl
set_option maxRecDepth 100000 in
set_option maxHeartbeats 1600000 in
theorem plain45_ok (c : Cfg) (w : World) : Calls Tryz.prog 14 #[.agg c.arr] w fun e w' => e = .returned (.agg c.noC.arr) ∧ Below w.heap.size w w' := by
  have HP := Lib.hid c.noC_arr
  have HS : Hid ((Tryz.prog.info? 25).map (·.size) = some c.noC.arr.size) := Lib.hid (by rw [c.noC.arr_size]; exact infoPd)
  have HO := Lib.hid c.noC.arr_one
  have HZS : Hid (Cfg.zero.arr.size = c.noC.arr.size) := Lib.hid (by rw [Cfg.arr_size, Cfg.arr_size])
  have c35 := c.arr_at (j := 35) (by decide)
  obtain ⟨Z, hZ⟩ : ∃ Z, Z = c.arr := ⟨_, rfl⟩
  obtain ⟨Y, hY⟩ : ∃ Y, Y = c.noC.arr := ⟨_, rfl⟩
  rw [← hZ] at HP c35 ⊢
  rw [← hY] at HP HS HO HZS ⊢
  have HC35 := Lib.hid c35
  have HU := Lib.hid Tryz.underlying25
  clear hZ hY c35
  go_enter Tryz.func14, Tryz.ntmps14
  go_upto_region 1 with (fail)
  obtain ⟨g, hg⟩ : ∃ g, g = w.heap.size := ⟨_, rfl⟩
  refine wp_let (fun W => Blk W g 25 Z ∧ Blk W (g + 1) 25 Cfg.zero.arr ∧ Below w.heap.size w W) ⟨by rw [hg]; exact (Blk.new _ _ _).alloc _, by rw [cf0_lit, hg]; exact blk_atZ _ _ _ _ (by simp), ((Below.refl _ w).alloc (Nat.le_refl _) _).alloc (by simp) _⟩ ?_
  rintro W1 ⟨b1, b2, b3⟩
  have B1 := Lib.hid b1
  have B2 := Lib.hid b2
  have B3 := Lib.hid b3
  have HG := Lib.hid hg
  rw [← hg]
  have c35 : W1.cell? ⟨g, 35, none⟩ = some (c.cell 35) := (b1.cell 35).trans HC35.out
  have f35 := b1.frozen 35
  clear b1 b2 b3 hg
  go_upto_region 2 with (fail)
  refine wp_let (fun W => Blk W g 25 Y ∧ Blk W (g + 1) 25 Cfg.zero.arr ∧ Below w.heap.size w W) ⟨by rw [← HP.out]; exact B1.out.set_ 35 _, B2.out.far (p := ⟨g, 35, none⟩) (by show ¬ g + 1 = g; omega) _, B3.out.setCell (p := ⟨g, 35, none⟩) (by rw [HG.out]; exact Nat.le_refl _) _⟩ ?_
  rintro W2 ⟨b1, b2, b3⟩
  have D1 := Lib.hid b1
  have D2 := Lib.hid b2
  have D3 := Lib.hid b3
  clear b1 b2 b3 c35 f35
  go_wp2_with (first
    | (refine wpList_load_row rfl _ _ rfl g rfl 25 Y (0, 0) _ D1.out HU.out rfl HS.out ?_)
    | (refine wpList_store_row rfl _ _ _ rfl (g + 1) Y rfl rfl 25 _ D2.out HS.out HZS.out HO.out ?_))
  refine bodyPost_ret (v := .agg Y) (results_cell_row (g := g + 1) (t := 25) (fr := (0, 0)) Tryz.results14 _ _ Y _ rfl (setRow_heap _ _ _ Y 25 (0, 0) D2.out) HU.out rfl HS.out) rfl ⟨rfl, ?_⟩
  exact belowRow D3.out (by rw [HG.out]; omega) _
end Go.Proofs.YtiffminhlimajaaGreat
namespace Go.Proofs.YtiffminhlimajaaGreat
open Go.RowKit
set_option linter.unusedVariables false
attribute [local go_sem ↓] Go.wp_at_zero Go.wp_at_succ

def openS (c : Cfg) (nx : Int) (n : Nat) (z : Nat → Int) : TS := resS c (nextOf nx false) 0 (fun _ => 0) (fun _ => 0) (fun _ _ => 0) 1 (fun _ => n) (fun _ => z)
theorem openS_fine {c : Cfg} (hok : c.Ok) (hv : c.Valid) (nx : Int) (n : Nat) (z : Nat → Int) : (openS c nx n z).Fine := ⟨hok, hv, fun q hq => by
  have : q = ⟨n, z, 0⟩ := by simpa [openS, resS, resQ] using hq
  rw [this]
  exact ⟨Int.le_refl _, Int.le_refl _⟩⟩
theorem open_send {c : Cfg} (hv : c.Valid) {nx : Int} (hnx : nx < 4294967296) (n : Nat) (z : Nat → Int) : ∃ s1, (openS c nx n z).send 0 = ⟨pduN c n, pduZ c nx.toNat n (nf z), nx, 0, s1⟩ := by
  have ht : ((openS c nx n z).tick 0).Q = [⟨n, z, 0⟩] := by
    have hg : (openS c nx n z).gone 0 ⟨n, z, 0⟩ = false := by
      unfold TS.gone
      show (decide (0 < c.ds) && decide (c.ds ≤ 0 - 0)) = false
      by_cases h : 0 < c.ds
      · rw [decide_eq_false (show ¬ c.ds ≤ 0 - 0 by omega), Bool.and_false]
      · rw [decide_eq_false h, Bool.false_and]
    show List.filter (fun q => !(openS c nx n z).gone (max 0 0) q) [⟨n, z, 0⟩] = _
    rw [show max (0 : Int) 0 = 0 from rfl, List.filter_cons, hg]
    rfl
  unfold TS.send
  rw [if_neg (by decide), show firstRep (openS c nx n z).P = none from rfl]
  dsimp only
  rw [ht]
  dsimp only
  rw [if_neg (show ¬ (openS c nx n z).next = 4294967296 from by show ¬ nx = 4294967296; omega), if_neg (show ¬ (openS c nx n z).full = true from by show ¬ false = true; decide)]
  exact ⟨_, rfl⟩
theorem BRows.one {w : World} {sb : Nat} {A : Option Addr} {n cp : Nat} {z : Nat → Int} (hsb : sb < w.heap.size) (c0 : w.cell? ⟨sb, 0, none⟩ = some (.slice A n cp)) (hn : n ≤ 9223372036854775807) (hc : n ≤ cp) (hz : ∀ j, j < n → 0 ≤ z j ∧ z j < 256) (hr : Row w w.heap.size A n (fun j => .int .u8 (z j))) :
    BRows w (some ⟨sb, 0, none⟩) 1 (fun _ => A) (fun _ => n) (fun _ => cp) (fun _ => z) :=
  ⟨fun _ => ⟨sb, 0, rfl, hsb, fun k hk => by obtain rfl : k = 0 := by omega
                                             exact c0⟩, fun _ _ => hn, fun _ _ => hc, fun _ _ => hz, fun _ _ => hr⟩
theorem BRows.alloc {W : World} {A : Option Addr} {n cp : Nat} {z : Nat → Int} (hn : n ≤ 9223372036854775807) (hc : n ≤ cp) (hz : ∀ j, j < n → 0 ≤ z j ∧ z j < 256) (hr : Row W W.heap.size A n (fun j => .int .u8 (z j))) :
    BRows (W.alloc (.cells #[.slice A n cp] 27)) (some ⟨W.heap.size, 0, none⟩) 1 (fun _ => A) (fun _ => n) (fun _ => cp) (fun _ => z) :=
  have hb : Below W.heap.size W (W.alloc (.cells #[.slice A n cp] 27)) := (Below.refl _ _).alloc (Nat.le_refl _) _
  have hB : Blk (W.alloc (.cells #[.slice A n cp] 27)) W.heap.size 27 #[.slice A n cp] := Blk.new _ _ _
  BRows.one hB.lt (hB.cell 0) hn hc hz (hr.next hb)
/-- the states that Resume takes: one queued packet -/
theorem fok_one (ac : Bool) (nx : Int) (n : Nat) (h : fitsB n = true) : FOk ac nx false 0 (fun _ => 0) (fun _ => 0) 1 (fun _ => n) :=
  ⟨fun h => absurd h (by decide), fun h => absurd h (by omega), fun k hk => absurd hk (by omega), fun h => absurd h (by omega), fun k hk => h⟩
set_option maxRecDepth 100000 in
set_option maxHeartbeats 6400000 in
theorem opens_walk (c : Cfg) (hok : c.Ok) (CT : Nat) (hct : CT < 4294967296) (A : Option Addr) (n cp : Nat) (z : Nat → Int) (hn : n ≤ maxLen) (hc : n ≤ cp) (hz : ∀ j, j < n → 0 ≤ z j ∧ z j < 256) (w : World) (hr : Row w w.heap.size A n (fun j => .int .u8 (z j))) :
    Calls Tryz.prog 3 #[.agg c.arr, .int .u32 (CT : Int), .slice A n cp] w fun e w' => e = .returned (.bool true) ∧ Below w.heap.size w w' := by
  have HKN := Lib.hid (fun V => known45_true V)
  have HPL := Lib.hid (fun V => plain45_ok c V)
  have HRV := Lib.hid (fun V => rvalid45_ok c.noC V)
  obtain ⟨d, hd⟩ : ∃ d, d = c.noC := ⟨_, rfl⟩
  have hdo : d.Ok := by rw [hd]; exact Cfg.noC_ok hok
  have hdc : d.cm = false := by rw [hd]; rfl
  rw [← hd] at HPL HRV
  have HD := Lib.hid hdo
  have HDC := Lib.hid hdc
  have HS0 : Hid ((Tryz.prog.info? 25).map (·.size) = some c.arr.size) := Lib.hid (by rw [c.arr_size]; exact infoPd)
  have HS1 : Hid ((Tryz.prog.info? 25).map (·.size) = some d.arr.size) := Lib.hid (by rw [d.arr_size]; exact infoPd)
  have HSS : Hid (c.arr.size = d.arr.size) := Lib.hid (by rw [c.arr_size, d.arr_size])
  have HO1 := Lib.hid d.arr_one
  have HAT := Lib.hid (fun j (hj : j < 39) => d.arr_at hj)
  have HNO := Lib.hid (fun hfo A2 c2 V hq => tresume_no d none A2 0 0 1 c2 (CT : Int) false (fun _ => 0) (fun _ => none) (fun _ => 0) (fun _ => 0) (fun _ _ => 0) (fun _ => A) (fun _ => n) (fun _ => cp) (fun _ => z) V (by omega) (Nat.zero_le _) (by unfold maxLen; omega) (Cnts.empty V) hq hfo)
  have HYES := Lib.hid (fun hv hfo A2 c2 V hq => tresume_ok d none A2 0 0 1 c2 (CT : Int) false (fun _ => 0) (fun _ => none) (fun _ => 0) (fun _ => 0) (fun _ _ => 0) (fun _ => A) (fun _ => n) (fun _ => cp) (fun _ => z) V (by omega) (Nat.zero_le _) (by omega) (Cnts.empty V) hq hv hfo)
  obtain ⟨Z, hZ⟩ : ∃ Z, Z = c.arr := ⟨_, rfl⟩
  obtain ⟨Y, hY⟩ : ∃ Y, Y = d.arr := ⟨_, rfl⟩
  rw [← hZ] at HPL HS0 HSS ⊢
  rw [← hY] at HPL HRV HS1 HSS HO1 HAT HNO HYES
  have HU := Lib.hid Tryz.underlying25
  have HZ := Lib.hid hz
  have HR := Lib.hid hr
  have HN := Lib.hid hn
  have HC := Lib.hid hc
  have HCT := Lib.hid hct
  unfold maxLen at hn
  have n0 : (0 : Int) ≤ (n : Int) := by omega
  have n9 : (n : Int) ≤ 9223372036854775807 := by omega
  have c0 : (0 : Int) ≤ (CT : Int) := by omega
  have c1 : (CT : Int) < 4294967296 := by omega
  clear hZ hY hd hdo hdc hz hr hn hc hct hok
  go_enter Tryz.func3, Tryz.ntmps3
  go_upto_region 1 with (fail)
  obtain ⟨g, hg⟩ : ∃ g, g = w.heap.size := ⟨_, rfl⟩
  refine wp_let (fun W => Blk W g 25 Z ∧ Below w.heap.size w W) ⟨by rw [hg]; exact Blk.new _ _ _, (Below.refl _ w).alloc (Nat.le_refl _) _⟩ ?_
  rintro W1 ⟨b1, b2⟩
  have B1 := Lib.hid b1
  have B2 := Lib.hid b2
  have HG := Lib.hid hg
  rw [← hg]
  clear b1 b2 hg
  go_upto_region 2 with (first
    | (refine wpList_load_row rfl _ _ rfl g rfl 25 Z (0, 0) _ B1.out HU.out rfl HS0.out ?_)
    | (go_at_call 14; refine (HPL.out _).mono ?_; rintro e w2 ⟨rfl, hB⟩; have C1 := Lib.hid (B1.out.below hB B1.out.lt); have C2 := Lib.hid (B2.out.trans (hB.mono B2.out.size)); clear hB)
    | (refine wpList_store_row rfl _ _ _ rfl g Y rfl rfl 25 _ C1.out HS1.out HSS.out HO1.out ?_))
  try simp only [Act.put]
  refine wp_let (fun W => Blk W g 25 Y ∧ Below w.heap.size w W) ⟨setRow_heap _ _ _ Y 25 (0, 0) C1.out, belowRow C2.out (by rw [HG.out]; exact Nat.le_refl _) _⟩ ?_
  rintro W2 ⟨b1, b2⟩
  have D1 := Lib.hid b1
  have D2 := Lib.hid b2
  clear b1 b2 B1 B2 C1 C2
  have HBR := Lib.hid (fun (V : World) (hV : Below W2.heap.size W2 V) => BRows.alloc (W := V) (A := A) (n := n) (cp := cp) (z := z) (by have := HN.out; unfold maxLen at this; omega) HC.out HZ.out ((HR.out.next D2.out).next hV))
  by_cases hvf : d.Valid ∧ FOk d.ac (CT : Int) false 0 (fun _ => 0) (fun _ => 0) 1 (fun _ => n)
  rotate_left
  · have HX := Lib.hid (HNO.out hvf)
    go_upto_region 3 with (first
      | (refine wpList_load_row rfl _ _ rfl g rfl 25 Y (0, 0) _ D1.out HU.out rfl HS1.out ?_)
      | (go_at_call 15; refine (HX.out _ _ _ (HBR.out _ (Below.refl _ _))).mono ?_; rintro e w3 ⟨rfl, hB⟩; have C3 := Lib.hid hB; clear hB))
    have E1 := Lib.hid ((Below.refl W2.heap.size W2).alloc (Nat.le_refl _) (.cells #[.slice A n cp] 27))
    have G1 := Lib.hid (E1.out.trans (C3.out.mono E1.out.size))
    have G2 := Lib.hid (D1.out.below G1.out D1.out.lt)
    have G3 := Lib.hid (D2.out.trans (G1.out.mono D2.out.size))
    have KNOWN := Lib.hid (HKN.out)
    by_cases h6 : (600 : Int) < (n : Int)
    · go_wp2_with (go_at_call 17; with_reducible refine (HKN.out _).mono ?_; rintro e w9 ⟨rfl, hB⟩; have E9 := Lib.hid hB; clear hB)
      go_ret
      exact ⟨rfl, G3.out.trans (E9.out.mono G3.out.size)⟩
    · by_cases hv : d.Valid
      · have h0 : n = 0 := by
          rcases Nat.eq_zero_or_pos n with h | h
          · exact h
          · exact absurd ⟨hv, fok_one _ _ _ ((fits_iff n).2 ⟨h, by omega⟩)⟩ hvf
        rw [decide_eq_true hv] at HRV
        subst h0
        go_wp2_with (first
          | (refine wpList_load_rowG (by rfl) _ _ rfl g rfl 25 Y (0, 0) _ G2.out HU.out rfl HS1.out ?_)
          | (go_at_call 16; with_reducible refine (HRV.out _).mono ?_; rintro e w8 ⟨rfl, hB⟩; have E8 := Lib.hid hB; clear hB)
          | (go_at_call 17; with_reducible refine (HKN.out _).mono ?_; rintro e w9 ⟨rfl, hB⟩; have E9 := Lib.hid hB; clear hB))
        go_ret -- no0
        exact ⟨rfl, G3.out.trans (E8.out.trans (E9.out.mono E8.out.size) |>.mono G3.out.size)⟩
      · rw [decide_eq_false hv] at HRV
        go_wp2_with (first
          | (refine wpList_load_rowG (by rfl) _ _ rfl g rfl 25 Y (0, 0) _ G2.out HU.out rfl HS1.out ?_)
          | (go_at_call 16; with_reducible refine (HRV.out _).mono ?_; rintro e w8 ⟨rfl, hB⟩; have E8 := Lib.hid hB; clear hB)
          | (go_at_call 17; with_reducible refine (HKN.out _).mono ?_; rintro e w9 ⟨rfl, hB⟩; have E9 := Lib.hid hB; clear hB))
        go_ret
        exact ⟨rfl, G3.out.trans (E8.out.trans (E9.out.mono E8.out.size) |>.mono G3.out.size)⟩
  · have HX := Lib.hid (HYES.out hvf.1 hvf.2)
    have hfit := (fits_iff n).1 (hvf.2.queue 0 (by omega))
    have HV := Lib.hid hvf.1
    go_upto_region 3 with (first
      | (refine wpList_load_row rfl _ _ rfl g rfl 25 Y (0, 0) _ D1.out HU.out rfl HS1.out ?_)
      | (go_at_call 15; refine (HX.out _ _ _ (HBR.out _ (Below.refl _ _))).mono ?_; rintro e w3 ⟨h, TW, TR, rfl, hI, hTW, hTR, hB⟩; have HI := Lib.hid hI; have HTW := Lib.hid hTW; have HTR := Lib.hid hTR; have C3 := Lib.hid hB; clear hI hTW hTR hB))
    have E1 := Lib.hid ((Below.refl W2.heap.size W2).alloc (Nat.le_refl _) (.cells #[.slice A n cp] 27))
    have S3 := Lib.hid (show Solo W2 w3 h (openS d (CT : Int) n z) from ⟨TW, TR, HI.out, fun k hk => Nat.le_trans E1.out.size (HTW.out k hk), E1.out.trans (C3.out.mono E1.out.size)⟩)
    have G3 := Lib.hid (D2.out.trans (S3.out.low.mono D2.out.size))
    by_cases h6 : (600 : Int) < (n : Int)
    · go_wp2_with (go_at_call 17; with_reducible refine (HKN.out _).mono ?_; rintro e w9 ⟨rfl, hB⟩; have E9 := Lib.hid hB; clear hB)
      go_ret
      exact ⟨rfl, G3.out.trans (E9.out.mono G3.out.size)⟩
    have h1 : 1 ≤ n := hfit.1
    have HN6 : Hid (1 ≤ n ∧ n ≤ 600) := Lib.hid ⟨h1, by omega⟩
    obtain ⟨s1, hs1⟩ := open_send HV.out c1 n z
    have HNX := Lib.hid (solo_nextA S3.out (openS_fine HD.out HV.out _ _ _) HDC.out (by show 0 ≤ 1000000; decide) 0 (by decide) (by decide))
    rw [hs1] at HNX
    dsimp only at HNX
    have HPN : Hid (plainN d n = if d.ig = true then n + 4 else n) := Lib.hid rfl
    obtain ⟨M, hM⟩ : ∃ M, M = plainN d n := ⟨_, rfl⟩
    obtain ⟨N3, hN3⟩ : ∃ N3, N3 = pduN d n := ⟨_, rfl⟩
    have HN3 : Hid (N3 = 2 + M) := Lib.hid (by rw [hN3, hM]; rfl)
    have HML : Hid (n ≤ M ∧ M ≤ n + 4) := Lib.hid (by rw [hM]; unfold plainN; split <;> omega)
    rw [← hN3] at HNX
    rw [← hM] at HPN
    have N31 : decide ((N3 : Int) < 2) = false := decide_eq_false (by have := HN3.out; omega)
    have N32 : (2 : Int) ≤ (N3 : Int) := by have := HN3.out; omega
    have N33 : (1 : Int) < (N3 : Int) := by omega
    have N34 : (0 : Int) < (N3 : Int) := by omega
    have n6 : (n : Int) ≤ 600 := by omega
    clear hM hN3 hs1 hfit hvf n9
    go_upto_region 6 with (go_at_call 18; with_reducible refine (HNX.out).mono ?_; rintro e w4 ⟨A4, c4, rfl, hc4, hR4, hS4⟩; have R4 := Lib.hid hR4; have S4 := Lib.hid hS4; clear hR4 hS4)
    obtain ⟨pb, po, rfl, hpl, hpc⟩ := R4.out (by omega)
    have p0 : w4.cell? ⟨pb, po, none⟩ = some (.int .u8 ((128 + CT / 256 % 16 : Nat) : Int)) := by
      have := hpc 0 (by omega)
      rw [Nat.add_zero] at this
      rw [this]
      show some (Value.int .u8 ((catF (hdB ((CT : Int)).toNat) 2 _ 0 : Nat) : Int)) = _
      simp [catF, hdB]
    have p1 : w4.cell? ⟨pb, po + 1, none⟩ = some (.int .u8 ((CT % 256 : Nat) : Int)) := by
      have := hpc 1 (by omega)
      rw [this]
      show some (Value.int .u8 ((catF (hdB ((CT : Int)).toNat) 2 _ 1 : Nat) : Int)) = _
      simp [catF, hdB]
    have HPC := Lib.hid (show Row w4 w4.heap.size (some ⟨pb, po + 2, none⟩) M (fun j => .int .u8 ((cryF (nf d.key) CT d.b.toNat d.d.toNat (plainZ d CT n (nf z)) j : Nat) : Int)) from fun _ => ⟨pb, po + 2, rfl, hpl, fun j hj => by
      rw [Nat.add_assoc, hpc (2 + j) (by have := HN3.out; omega)]
      show some (Value.int .u8 ((catF (hdB ((CT : Int)).toNat) 2 (cryF (nf d.key) ((CT : Int)).toNat d.b.toNat d.d.toNat (plainZ d ((CT : Int)).toNat n (nf z))) (2 + j) : Nat) : Int)) = _
      unfold catF
      rw [if_neg (by omega), Nat.add_sub_cancel_left, Int.toNat_natCast]⟩)
    have hgl : g < W2.heap.size := D1.out.lt
    have DD := Lib.hid (D1.out.below S4.out.low hgl)
    have G4 := Lib.hid (D2.out.trans (S4.out.low.mono D2.out.size))
    have HCL := Lib.hid (fun (V : World) (hV : Below w4.heap.size w4 V) j (hj : j < 39) => show V.cell? ⟨g, j, none⟩ = some (d.cell j) from ((DD.out.below hV DD.out.lt).cell j).trans (HAT.out j hj))
    have d37 : w4.cell? ⟨g, 37, none⟩ = some (.int .i64 d.ds) := HCL.out w4 (Below.refl _ _) 37 (by decide)
    clear hpc
    rcases Decidable.em (0 < d.ds) with hds | hds
    all_goals
      go_upto_region 8 with (fail)
      clear hds d37
      have hand := u32_and_nat (CT / 256) 15 (by omega) (by decide)
      rw [show CT / 256 &&& 15 = CT / 256 % 16 from nat_mask4 _] at hand
      have hor := u32_or_nat 128 (CT / 256 % 16) (by decide) (by omega)
      rw [show 128 ||| CT / 256 % 16 = 128 + CT / 256 % 16 from nat_join 7 128 _ (by decide) (by omega)] at hor
      have hm : ((CT : Int) / 256) = ((CT / 256 : Nat) : Int) := by simp
      have hl : ((CT : Int) % 256) = ((CT % 256 : Nat) : Int) := by simp
      obtain ⟨r, hr⟩ : ∃ r, r = 128 + CT / 256 % 16 := ⟨_, rfl⟩
      have hr0 : (r : Int) % 256 = (r : Int) := by omega
      rw [← hr] at hor p0
      have HRR := Lib.hid hr
      clear hr
      generalize CT / 256 % 16 = q at hand hor
      generalize CT / 256 = m at hand hm
      generalize CT % 256 = l at hl p1
      replace hand : bits .and .u32 (m : Int) 15 = (q : Int) := hand
      replace hor : bits .or .u32 128 (q : Int) = (r : Int) := hor
      go_upto_region 10 with (fail)
      clear hand hor hm hl hr0 p0 p1 HRR
      have HKR := Lib.hid (show ∀ W', Below w4.heap.size w4 W' → W'.rangeAt g 2 (b16 (nf d.key)).toList from fun W' hW j v hv => by
        have hj : j < 16 := by have := (List.getElem?_eq_some_iff.1 hv).1; rw [Array.length_toList, b16_size] at this; exact this
        rw [HCL.out W' hW (2 + j) (by omega), ← hv, Array.getElem?_toList, b16_at _ hj]
        unfold Cfg.cell
        rw [if_neg (by omega), if_neg (by omega), if_pos (by omega), show 2 + j - 2 = j by omega, nf_cast HD.out.key hj])
      obtain ⟨KB, hKB⟩ : ∃ KB, KB = b16 (nf d.key) := ⟨_, rfl⟩
      obtain ⟨B, hB⟩ : ∃ B : Nat, B = d.b.toNat := ⟨_, rfl⟩
      obtain ⟨D, hD⟩ : ∃ D : Nat, D = d.d.toNat := ⟨_, rfl⟩
      have HBI : d.b = (B : Int) := by rw [hB]; have := HV.out.1; omega
      have HDI : d.d = (D : Int) := by rw [hD]; have := HV.out.2.2.1; omega
      have HC0 := Lib.hid (show ∀ W', Below w4.heap.size w4 W' → W'.cell? ⟨g, 0, none⟩ = some (.int .i64 (B : Int)) from fun W' hW => (HCL.out W' hW 0 (by decide)).trans (by rw [show d.cell 0 = .int .i64 d.b from rfl, HBI]))
      have HC1 := Lib.hid (show ∀ W', Below w4.heap.size w4 W' → W'.cell? ⟨g, 1, none⟩ = some (.int .i64 (D : Int)) from fun W' hW => (HCL.out W' hW 1 (by decide)).trans (by rw [show d.cell 1 = .int .i64 d.d from rfl, HDI]))
      have HS16 : Hid ((Tryz.prog.info? 23).map (·.size) = some KB.toList.length) := Lib.hid (by rw [hKB, Array.length_toList, b16_size]; kernel_rfl)
      have HUK := Lib.hid Tryz.underlying23
      have hk16 : B16 (nf d.key) := fun j hj => nf_lt HD.out.key hj
      have HCRY := Lib.hid (fun V hr c9 => crypt_ok (nf d.key) CT B D hk16 HCT.out (by rw [hB]; have := HV.out; unfold Cfg.Valid at this; omega) (by rw [hD]; have := HV.out.2.2.1; omega) (some ⟨pb, po + 2, none⟩) M c9 (cryF (nf d.key) CT B D (plainZ d CT n (nf z))) (by have := HML.out; have := HN6.out; omega) (by have := HML.out; have := HN6.out; omega) (fun j hj => cryF_lt hk16 _ _ _ (plainZ_lt (fun j hj => nf_lt HZ.out hj) j)) V hr)
      rw [← hKB] at HKR HCRY
      rw [← hB, ← hD] at HPC
      have hN2 : N3 - 2 = M := by have := HN3.out; omega
      have hc4' : (N3 : Int) ≤ (c4 : Int) := by omega
      have hc42 : ¬ c4 = 2 := by have := HN3.out; have := HML.out; omega
      clear hKB hB hD HBI HDI hk16
      obtain ⟨w0, hw0⟩ : ∃ w0, w0 = w4.drew := ⟨_, rfl⟩
      have hb0 : Below w4.heap.size w4 w0 := by rw [hw0]; exact (Below.refl _ _).drew
      have HCR := Lib.hid (HCRY.out w0 (HPC.out.next hb0))
      refine wp_region_held_drew (S := fun w' => Below w4.heap.size w4 w') (by kernel_rfl) ((Below.refl _ w4).drew) (fun hHeld => ?_)
      rw [← hw0]
      rw [← hw0] at hHeld
      clear hw0

      refine wpAnyH_take (i := 0) (oi := ⟨some 94, _, _, _, _, _⟩) (v := .pointer (some ⟨g, 2, none⟩)) rfl (by kernel_rfl) (by kernel_rfl) (by kernel_rfl) (fun _ _ _ h => h) (Or.inl ⟨by rfl, fun W hW => (by go_simp)⟩) (by assumption) ?_
      try simp only [Act.put, List.setIfInBounds_toArray, List.set_cons_zero, List.set_cons_succ]
      refine' wpAnyH_take (i := 1) (oi := ⟨some 95, _, _, _, _, _⟩) (v := _) rfl (by kernel_rfl) (by kernel_rfl) (by kernel_rfl) (fun _ _ _ h => h) (yieldsIf_load_mid (by rfl) _ _ rfl g 2 rfl KB.toList _ (fun w h => HKR.out w h) HUK.out rfl HS16.out) (by assumption) ?_
      try simp only [Act.put, List.setIfInBounds_toArray, List.set_cons_zero, List.set_cons_succ]
      refine wpAnyH_take (i := 2) (oi := ⟨some 96, _, _, _, _, _⟩) (v := .int .u32 (CT : Int)) rfl (by kernel_rfl) (by kernel_rfl) (by kernel_rfl) (fun _ _ _ h => h) (Or.inl ⟨by rfl, fun W hW => (by rfl)⟩) (by assumption) ?_
      try simp only [Act.put, List.setIfInBounds_toArray, List.set_cons_zero, List.set_cons_succ]
      refine wpAnyH_take (i := 3) (oi := ⟨some 97, _, _, _, _, _⟩) (v := .pointer (some ⟨g, 0, none⟩)) rfl (by kernel_rfl) (by kernel_rfl) (by kernel_rfl) (fun _ _ _ h => h) (Or.inl ⟨by rfl, fun W hW => (by go_simp)⟩) (by assumption) ?_
      try simp only [Act.put, List.setIfInBounds_toArray, List.set_cons_zero, List.set_cons_succ]
      refine wpAnyH_take (i := 4) (oi := ⟨some 98, _, _, _, _, _⟩) (v := .int .i64 (B : Int)) rfl (by kernel_rfl) (by kernel_rfl) (by kernel_rfl) (fun _ _ _ h => h) (Or.inl ⟨by rfl, fun W hW => (by have := HC0.out W hW; go_simp)⟩) (by assumption) ?_
      try simp only [Act.put, List.setIfInBounds_toArray, List.set_cons_zero, List.set_cons_succ]
      refine wpAnyH_take (i := 5) (oi := ⟨some 99, _, _, _, _, _⟩) (v := .pointer (some ⟨g, 1, none⟩)) rfl (by kernel_rfl) (by kernel_rfl) (by kernel_rfl) (fun _ _ _ h => h) (Or.inl ⟨by rfl, fun W hW => (by go_simp)⟩) (by assumption) ?_
      try simp only [Act.put, List.setIfInBounds_toArray, List.set_cons_zero, List.set_cons_succ]
      refine wpAnyH_take (i := 6) (oi := ⟨some 100, _, _, _, _, _⟩) (v := .int .i64 (D : Int)) rfl (by kernel_rfl) (by kernel_rfl) (by kernel_rfl) (fun _ _ _ h => h) (Or.inl ⟨by rfl, fun W hW => (by have := HC1.out W hW; go_simp)⟩) (by assumption) ?_
      try simp only [Act.put, List.setIfInBounds_toArray, List.set_cons_zero, List.set_cons_succ]
      refine wpAnyH_take (i := 7) (oi := ⟨some 101, _, _, _, _, _⟩) (v := .slice (some ⟨pb, po, none⟩) N3 c4) rfl (by kernel_rfl) (by kernel_rfl) (by kernel_rfl) (fun _ _ _ h => h) (Or.inl ⟨by rfl, fun W hW => (by rfl)⟩) (by assumption) ?_
      try simp only [Act.put, List.setIfInBounds_toArray, List.set_cons_zero, List.set_cons_succ]
      refine wpAnyH_take (i := 8) (oi := ⟨some 102, _, _, _, _, _⟩) (v := .slice (some ⟨pb, po + 2, none⟩) M (c4 - 2)) rfl (by kernel_rfl) (by kernel_rfl) (by kernel_rfl) (fun _ _ _ h => h) (Or.inl ⟨by rfl, fun W hW => (by go_simp)⟩) (by assumption) ?_
      try simp only [Act.put, List.setIfInBounds_toArray, List.set_cons_zero, List.set_cons_succ]
      refine wpAnyH_ready (rs := [9]) (by kernel_rfl) (by simp) ?_
      refine AllReadyH.cons (o := ⟨some 103, _, _, _, _, _⟩) rfl (fun K hK => ?_) AllReadyH.nil
      rw [if_pos (by rfl)]
      go_simp
      refine (HCR.out _).mono ?_
      rintro e w5 ⟨A5, c5, rfl, hc5, hF5, hR5, hB5⟩
      dsimp only
      have R5 := Lib.hid hR5
      have C5 := Lib.hid hc5
      have hE : Below w4.heap.size w4 w5 := hHeld.trans (hB5.mono hHeld.size)
      refine hK.out _ _ hE (fun hHeld => ?_)
      clear hK K hE hB5 hR5 hF5 hc5
      try simp only [Act.put, List.setIfInBounds_toArray, List.set_cons_zero, List.set_cons_succ]
      refine wpAnyH_take (i := 10) (oi := ⟨some 93, _, _, _, _, _⟩) (v := .tuple #[.slice A5 M c5, .int .i64 0]) rfl (by kernel_rfl) (by kernel_rfl) (by kernel_rfl) (fun _ _ _ h => h) (Or.inl ⟨by rfl, fun W hW => (by rfl)⟩) (by assumption) ?_
      try simp only [Act.put, List.setIfInBounds_toArray, List.set_cons_zero, List.set_cons_succ]
      refine wpAnyH_take (i := 11) (oi := ⟨some 104, _, _, _, _, _⟩) (v := .slice A5 M c5) rfl (by kernel_rfl) (by kernel_rfl) (by kernel_rfl) (fun _ _ _ h => h) (Or.inl ⟨by rfl, fun W hW => (by go_simp)⟩) (by assumption) ?_
      try simp only [Act.put, List.setIfInBounds_toArray, List.set_cons_zero, List.set_cons_succ]
      refine wpAnyH_take (i := 13) (oi := ⟨some 12, _, _, _, _, _⟩) (v := .slice A5 M c5) rfl (by kernel_rfl) (by kernel_rfl) (by kernel_rfl) (fun _ _ _ h => h) (Or.inl ⟨by rfl, fun W hW => (by rfl)⟩) (by assumption) ?_
      try simp only [Act.put, List.setIfInBounds_toArray, List.set_cons_zero, List.set_cons_succ]
      refine wpAnyH_take (i := 12) (oi := ⟨some 105, _, _, _, _, _⟩) (v := .int .i64 0) rfl (by kernel_rfl) (by kernel_rfl) (by kernel_rfl) (fun _ _ _ h => h) (Or.inl ⟨by rfl, fun W hW => (by go_simp)⟩) (by assumption) ?_
      try simp only [Act.put, List.setIfInBounds_toArray, List.set_cons_zero, List.set_cons_succ]
      refine wpAnyH_take (i := 14) (oi := ⟨some 13, _, _, _, _, _⟩) (v := .int .i64 0) rfl (by kernel_rfl) (by kernel_rfl) (by kernel_rfl) (fun _ _ _ h => h) (Or.inl ⟨by rfl, fun W hW => (by rfl)⟩) (by assumption) ?_
      try simp only [Act.put, List.setIfInBounds_toArray, List.set_cons_zero, List.set_cons_succ]
      refine wpAnyH_done (by kernel_rfl) ?_ _
      have H5 := Lib.hid hHeld
      clear hHeld hb0 hc42 hc4' hN2
      obtain ⟨qb, qo, rfl, hql, hqc⟩ := R5.out (by have := HML.out; omega)
      have d34 : w5.cell? ⟨g, 34, none⟩ = some (.bool d.ig) := HCL.out w5 H5.out 34 (by decide)
      have HROW := Lib.hid (show Row w5 w5.heap.size (some ⟨qb, qo, none⟩) n (fun j => .int .u8 (z j)) from fun _ => ⟨qb, qo, rfl, hql, fun j hj => by
        rw [hqc j (by have := HML.out; omega)]
        dsimp only
        rw [cryF_back]
        unfold plainZ catF
        rw [if_pos hj, nf_cast HZ.out hj]⟩)
      obtain ⟨X, hX⟩ : ∃ X, X = bytesOf n z := ⟨_, rfl⟩
      have s1 : ∀ e : ExtT w5, (convert 27 9 (.slice (some ⟨qb, qo, none⟩) n c5)).run Tryz.prog e.v = .ok (.string X) e.v := fun e => by
        rw [hX]
        exact row_string 27 9 5 Tryz.underlying27 Tryz.underlying5 Tryz.underlying9 (HROW.out.next e.h) c5
      have s2 : ∀ e : ExtT w5, (convert 27 9 (.slice A n cp)).run Tryz.prog e.v = .ok (.string X) e.v := fun e => by
        rw [hX]
        exact row_string 27 9 5 Tryz.underlying27 Tryz.underlying5 Tryz.underlying9 (((HR.out.next G4.out).next H5.out).next e.h) cp
      have i5 : (n : Int) ≤ (c5 : Int) := by have := C5.out; have := HML.out; omega
      have HG5 := Lib.hid (G4.out.trans (H5.out.mono G4.out.size))
      clear hX hqc
      cases hig : d.ig
      all_goals
        rw [hig] at d34
        have hpn := HPN.out
        rw [hig] at hpn
        first | (have t1 : ((M : Int) == (n : Int)) = true := by (rw [beq_iff_eq]; have : M = n := hpn; omega)) | (have t2 : ((M : Int) == (n : Int) + 4) = true := by (rw [beq_iff_eq]; have : M = n + 4 := hpn; omega))
        clear hpn hig
        go_upto_region 14 with (fail)
        clear d34
        refine wp_region_extT (by kernel_rfl) (by kernel_rfl) ?_
        repeat (go_big_quiet_step (first | (go_at_call 17; exact Calls.ext_ofT (HKN.out _))))
        refine wpQuiet_nil ?_
        rintro _ ⟨ex, rfl⟩
        go_wp2
        go_ret
        exact ⟨rfl, HG5.out.trans (ex.h.mono HG5.out.size)⟩
theorem opens_walk' (c : Cfg) (hok : c.Ok) (x : Int) (hx : 0 ≤ x ∧ x < 4294967296) (A : Option Addr) (n cp : Nat) (z : Nat → Int) (hn : n ≤ maxLen) (hc : n ≤ cp ∧ ∀ j, j < n → 0 ≤ z j ∧ z j < 256) (w : World) (hr : Row w w.heap.size A n (fun j => .int .u8 (z j))) :
    Calls Tryz.prog 3 #[.agg c.arr, .int .u32 x, .slice A n cp] w fun e w' => e = .returned (.bool true) ∧ Below w.heap.size w w' := by
  obtain ⟨CT, rfl⟩ := Int.eq_ofNat_of_zero_le hx.1
  exact opens_walk c hok CT (by have := hx.2; omega) A n cp z hn hc.1 hc.2 w hr
end Go.Proofs.YtiffminhlimajaaGreat
