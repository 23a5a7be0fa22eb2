import Derived.Test.YtmdpiajhfohagaaGreatMGI
import Derived.Test.YtmdpiajhfohagaaGreatMGC
import Derived.Test.YtmdpiajhfohagaaGreatMGK
import Derived.Test.YtmdpiajhfohagaaGreatMGJ
import Derived.Test.YtmdpiajhfohagaaGreatU
import Derived.Test.YtmdpiajhfohagaaGreatMDK
import Derived.Test.YtmdpiajhfohagaaGreatMDG
import Derived.ProofKit
import Derived.OpenShut
import Derived.ChangeOld
import Derived.Deep.Fields
import Derived.Laws.StructEq
import Derived.ChangeKeysEq
import Derived.Deep.RegionHeld3
import Derived.Deep.Slices
namespace Go.Proofs.YtmdpiajhfohagaaGreat
open Go.RowKit
set_option linter.unusedVariables false
attribute [local go_sem ↓] Go.wp_at_zero Go.wp_at_succ
private theorem zh {p : Prop} (h : p) : Hid p := h
def BE2 (w : World) (A : Option Addr) (k : Nat) (n : Nat) (z : Nat → Int) : Prop :=
 ∃ lb lo PA pc, A = some ⟨lb, lo, none⟩ ∧ lb < w.heap.size ∧ w.cell? ⟨lb, lo + k, none⟩ = some (.slice PA n pc) ∧ Row w w.heap.size PA n (fun j => .int .u8 (z j))
theorem BE2.below {w w' : World} {A : Option Addr} {k : Nat} {n : Nat} {z : Nat → Int} (h : BE2 w A k n z) (hb : Below w.heap.size w w') : BE2 w' A k n z := by
 obtain ⟨lb, lo, PA, pc, h1, h2, h3, h5⟩ := h
 exact ⟨lb, lo, PA, pc, h1, Nat.lt_of_lt_of_le h2 hb.size, (hb.cell (p := ⟨lb, lo + k, none⟩) h2).trans h3, h5.next hb⟩
def SameB (w : World) (A A' : Option Addr) (m : Nat) : Prop := ∀ k, k < m → ∃ n z z', BE2 w A k n z ∧ BE2 w A' k n z' ∧ ∀ j, j < n → z j = z' j
theorem SameB.below {w w' : World} {A A' : Option Addr} {m : Nat} (h : SameB w A A' m) (hb : Below w.heap.size w w') : SameB w' A A' m := fun k hk => by
 obtain ⟨n, z, z', h1, h2, h3⟩ := h k hk
 exact ⟨n, z, z', h1.below hb, h2.below hb, h3⟩
set_option maxRecDepth 100000 in
set_option maxHeartbeats 1600000 in
theorem samel_true (A A' : Option Addr) (m c c' : Nat) (w : World) (hm : m ≤ maxLen) (h : SameB w A A' m) :
  Calls Tryz.prog 15 #[.slice A m c, .slice A' m c'] w fun e w' => e = .returned (.bool true) ∧ Below w.heap.size w w' := by
 unfold maxLen at hm
 have HS := zh h
 have hm' : (m : Int) ≤ 9223372036854775807 := by omega
 clear h
 go_enter Tryz.func15, Tryz.ntmps15
 go_wp2
 go_loopw [5] (fun v wr => ∃ k : Nat, k ≤ m ∧ v = .int .i64 k ∧ Below w.heap.size w wr) (fun v _ => m - (intOf v).toNat)
 case atStart => exact ⟨0, by omega, rfl, Below.refl _ _⟩
 case round =>
  obtain ⟨k, hk, rfl, hb⟩ := hrel
  by_cases hlt : k < m
  ·obtain ⟨n, z, z', ⟨lb, lo, PA, pc, rfl, h2, h3, h5⟩, ⟨lb', lo', PA', pc', rfl, k2, k3, k5⟩, he⟩ := (HS.out.below hb) k hlt
   have s1 := fun q => row_string (P := Tryz.prog) (w := wr.drewN q) 41 9 5 Tryz.underlying41 Tryz.underlying5 Tryz.underlying9 (show Row (wr.drewN q) wr.heap.size PA n (fun j => .int .u8 (z j)) from h5) pc
   have s2 := fun q => row_string (P := Tryz.prog) (w := wr.drewN q) 41 9 5 Tryz.underlying41 Tryz.underlying5 Tryz.underlying9 (show Row (wr.drewN q) wr.heap.size PA' n (fun j => .int .u8 (z' j)) from k5) pc'
   rw [← bytesOf_congr he] at s2
   have BB := zh hb
   have k0 : (0 : Int) ≤ (k : Int) := by omega
   have k1 : (k : Int) < (m : Int) := by omega
   clear h5 k5 he hb
   go_upto_region 6 with (fail)
   go_quiet (fail)
   go_wp2
   go_roundw
   case rel => exact ⟨k + 1, by omega, by go_num, below_drewN BB.out _⟩
   case measure => simp [intOf]; omega
  ·obtain rfl : k = m := by omega
   have BB := zh hb
   clear hb
   go_wp2
   go_ret
   exact ⟨rfl, BB.out⟩
end Go.Proofs.YtmdpiajhfohagaaGreat
namespace Go.Proofs.YtmdpiajhfohagaaGreat
open Go.ChangeShapes Go.WideShapes Go.ChangeAt Go.RowKit
def valInt : Option Value → Int
 | some (.int _ a) => a
 | _ => 0
section
variable {H : Type} {enc : TypeId × Value → H} {w : World} {base : Nat} {spare : Nat → Bool} {held : Bool}
theorem open_b16 {fuel : Nat} {L : List Value} {x : DataW H × List MemPlace} (h : DataW.trod enc Tryz.prog w base spare held fuel 24 L = some x) :
  ∃ f : Nat → Int, (∀ j, j < 16 → L[j]? = some (.int .u8 (f j))) ∧ ∀ j, j < 16 → 0 ≤ f j ∧ f j < 256 := by
 obtain ⟨xs, m, _, _, _, hx, hel⟩ := DataW.trod_array Tryz.underlying24 h
 have c5 : Tryz.prog.cellsOf 5 = 1 := by kernel_rfl
 have key : ∀ j, j < 16 → ∃ a, L[j]? = some (.int .u8 a) ∧ 0 ≤ a ∧ a < 256 := fun j hj => by
  have h1 := hel j hj
  rw [c5, Nat.mul_one, List.getElem?_eq_getElem (by omega)] at h1
  obtain ⟨a, e, _, hw⟩ := DataW.trod_int Tryz.underlying5 h1
  have h2 := congrArg List.head? e
  simp [List.head?_take] at h2
  have hb := bounds_u8 hw
  exact ⟨a, h2, hb.1, by omega⟩
 refine ⟨fun j => valInt L[j]?, fun j hj => ?_, fun j hj => ?_⟩
 ·obtain ⟨a, e, _⟩ := key j hj
  simp only [e, valInt]
 ·obtain ⟨a, e, hb⟩ := key j hj
  simp only [e, valInt]
  exact hb
set_option maxRecDepth 100000 in
theorem open_cfg {r : Reach} {b0 : Nat} {v : Value} {d : DataW H} {p : List MemPlace}
  (hv : Value.okWide Tryz.prog w r b0 26 v) (h : DataW.Trod enc Tryz.prog w base spare held 26 v d p) : ∃ c : Cfg, v = .agg c.arr ∧ c.Ok := by
 obtain ⟨cs, rfl, hsz⟩ := okWide_struct Tryz.underlying26 hv
 have hc : Tryz.prog.cellsOf 26 = 39 := by kernel_rfl
 have h9 : cs.size = 39 := hsz.trans hc
 obtain ⟨fuel, hf⟩ := h
 obtain ⟨xs, n, _, _, _, hlen, hg⟩ := DataW.trod_struct Tryz.underlying26 hf
 have c3 : Tryz.prog.cellsOf 3 = 1 := by kernel_rfl
 have c22 : Tryz.prog.cellsOf 23 = 1 := by kernel_rfl
 have c4 : Tryz.prog.cellsOf 4 = 1 := by kernel_rfl
 have c16 : Tryz.prog.cellsOf 24 = 16 := by kernel_rfl
 have hx9 : xs.length = 9 := hlen
 have keyi : ∀ (i o : Nat) (ty : TypeId), Tryz.prog.underlying ty = some (.int .i64) → i < 9 → DataW.trod enc Tryz.prog w base spare held n ty (List.take 1 (List.drop o (Value.agg cs).cells.toList)) = xs[i]? → ∃ a, cs[o]? = some (Value.int .i64 a) := by
  intro i o ty hu hi h1
  rw [List.getElem?_eq_getElem (by omega)] at h1
  obtain ⟨a, e, _, _⟩ := DataW.trod_int hu h1
  refine ⟨a, ?_⟩
  have h2 := congrArg List.head? e
  simp [Value.cells, List.head?_take] at h2
  exact h2
 have keyb : ∀ (i o : Nat), i < 9 → DataW.trod enc Tryz.prog w base spare held n 4 (List.take 1 (List.drop o (Value.agg cs).cells.toList)) = xs[i]? → ∃ a, cs[o]? = some (Value.bool a) := by
  intro i o hi h1
  rw [List.getElem?_eq_getElem (by omega)] at h1
  obtain ⟨a, e, _⟩ := DataW.trod_bool Tryz.underlying4 h1
  refine ⟨a, ?_⟩
  have h2 := congrArg List.head? e
  simp [Value.cells, List.head?_take] at h2
  exact h2
 have keya : ∀ (i o : Nat), i < 9 → DataW.trod enc Tryz.prog w base spare held n 24 (List.take 16 (List.drop o (Value.agg cs).cells.toList)) = xs[i]? → ∃ f : Nat → Int, (∀ j, j < 16 → cs[o + j]? = some (.int .u8 (f j))) ∧ ∀ j, j < 16 → 0 ≤ f j ∧ f j < 256 := by
  intro i o hi h1
  rw [List.getElem?_eq_getElem (by omega)] at h1
  obtain ⟨f, e, hb⟩ := open_b16 h1
  refine ⟨f, fun j hj => ?_, hb⟩
  have := e j hj
  rw [List.getElem?_take, if_pos hj, List.getElem?_drop] at this
  simpa [Value.cells] using this
 obtain ⟨a0, e0⟩ := keyi 0 0 3 Tryz.underlying3 (by decide) (by have h1 : DataW.trod enc Tryz.prog w base spare held n 3 (List.take (Tryz.prog.cellsOf 3) (List.drop 0 (Value.agg cs).cells.toList)) = xs[0]? := hg 0 _ rfl; rwa [c3] at h1)
 obtain ⟨a1, e1⟩ := keyi 1 1 23 Tryz.underlying23 (by decide) (by have h1 : DataW.trod enc Tryz.prog w base spare held n 23 (List.take (Tryz.prog.cellsOf 23) (List.drop 1 (Value.agg cs).cells.toList)) = xs[1]? := hg 1 _ rfl; rwa [c22] at h1)
 obtain ⟨a2, e2, r2⟩ := keya 2 2 (by decide) (by have h1 : DataW.trod enc Tryz.prog w base spare held n 24 (List.take (Tryz.prog.cellsOf 24) (List.drop 2 (Value.agg cs).cells.toList)) = xs[2]? := hg 2 _ rfl; rwa [c16] at h1)
 obtain ⟨a3, e3, r3⟩ := keya 3 18 (by decide) (by have h1 : DataW.trod enc Tryz.prog w base spare held n 24 (List.take (Tryz.prog.cellsOf 24) (List.drop 18 (Value.agg cs).cells.toList)) = xs[3]? := hg 3 _ rfl; rwa [c16] at h1)
 obtain ⟨a4, e4⟩ := keyb 4 34 (by decide) (by have h1 : DataW.trod enc Tryz.prog w base spare held n 4 (List.take (Tryz.prog.cellsOf 4) (List.drop 34 (Value.agg cs).cells.toList)) = xs[4]? := hg 4 _ rfl; rwa [c4] at h1)
 obtain ⟨a5, e5⟩ := keyb 5 35 (by decide) (by have h1 : DataW.trod enc Tryz.prog w base spare held n 4 (List.take (Tryz.prog.cellsOf 4) (List.drop 35 (Value.agg cs).cells.toList)) = xs[5]? := hg 5 _ rfl; rwa [c4] at h1)
 obtain ⟨a6, e6⟩ := keyb 6 36 (by decide) (by have h1 : DataW.trod enc Tryz.prog w base spare held n 4 (List.take (Tryz.prog.cellsOf 4) (List.drop 36 (Value.agg cs).cells.toList)) = xs[6]? := hg 6 _ rfl; rwa [c4] at h1)
 obtain ⟨a7, e7⟩ := keyi 7 37 3 Tryz.underlying3 (by decide) (by have h1 : DataW.trod enc Tryz.prog w base spare held n 3 (List.take (Tryz.prog.cellsOf 3) (List.drop 37 (Value.agg cs).cells.toList)) = xs[7]? := hg 7 _ rfl; rwa [c3] at h1)
 obtain ⟨a8, e8⟩ := keyi 8 38 3 Tryz.underlying3 (by decide) (by have h1 : DataW.trod enc Tryz.prog w base spare held n 3 (List.take (Tryz.prog.cellsOf 3) (List.drop 38 (Value.agg cs).cells.toList)) = xs[8]? := hg 8 _ rfl; rwa [c3] at h1)
 obtain ⟨c, hcd⟩ : ∃ c : Cfg, c = ⟨a0, a1, a2, a3, a4, a5, a6, a7, a8⟩ := ⟨_, rfl⟩
 refine ⟨c, ?_, by rw [hcd]; exact ⟨r2, r3⟩⟩
 have : cs = c.arr := by
  apply Array.ext_getElem?
  intro i
  by_cases hi : i < 39
  ·rw [c.arr_at hi, hcd]
   unfold Cfg.cell
   rcases (by omega : i = 0 ∨ i = 1 ∨ (2 ≤ i ∧ i < 18) ∨ (18 ≤ i ∧ i < 34) ∨ i = 34 ∨ i = 35 ∨ i = 36 ∨ i = 37 ∨ i = 38) with rfl | rfl | h | h | rfl | rfl | rfl | rfl | rfl
   ·exact e0
   ·exact e1
   ·rw [if_neg (by omega), if_neg (by omega), if_pos (by omega)]
    have := e2 (i - 2) (by omega)
    rwa [show 2 + (i - 2) = i by omega] at this
   ·rw [if_neg (by omega), if_neg (by omega), if_neg (by omega), if_pos (by omega)]
    have := e3 (i - 18) (by omega)
    rwa [show 18 + (i - 18) = i by omega] at this
   ·exact e4
   ·exact e5
   ·exact e6
   ·exact e7
   ·exact e8
  ·rw [Array.getElem?_eq_none (by omega), Array.getElem?_eq_none (by rw [c.arr_size]; omega)]
 rw [this]
end
end Go.Proofs.YtmdpiajhfohagaaGreat
namespace Go.Proofs.YtmdpiajhfohagaaGreat
open Go.RowKit
set_option linter.unusedVariables false
attribute [local go_sem ↓] Go.wp_at_zero Go.wp_at_succ
set_option maxRecDepth 100000 in
set_option maxHeartbeats 1600000 in
theorem rvalid45_ok (c : Cfg) (w : World) : Calls Tryz.prog 8 #[.agg c.arr] w fun e w' => e = .returned (.bool (decide c.Valid)) ∧ Below w.heap.size w w' := by
 have h0 : c.arr[0]? = some (.int .i64 c.b) := c.arr_at (by decide)
 have h1 : c.arr[1]? = some (.int .i64 c.d) := c.arr_at (by decide)
 have h2 : c.arr[37]? = some (.int .i64 c.ds) := c.arr_at (by decide)
 have h3 : c.arr[38]? = some (.int .i64 c.ro) := c.arr_at (by decide)
 have HV := zh (show c.Valid ↔ (0 ≤ c.b ∧ c.b ≤ 31 ∧ (c.d = 0 ∨ c.d = 1) ∧ 0 ≤ c.ds ∧ c.ds ≤ 1073741824 ∧ 0 ≤ c.ro ∧ c.ro ≤ 1073741824) from Iff.rfl)
 obtain ⟨V, hV⟩ : ∃ V, V = decide c.Valid := ⟨_, rfl⟩
 have HD := zh (show V = true ↔ c.Valid from by rw [hV]; exact decide_eq_true_iff)
 obtain ⟨Z, hZ⟩ : ∃ Z, Z = c.arr := ⟨_, rfl⟩
 rw [← hV]
 rw [← hZ] at h0 h1 h2 h3 ⊢
 obtain ⟨b, hb⟩ : ∃ b, b = c.b := ⟨_, rfl⟩
 obtain ⟨d, hd⟩ : ∃ d, d = c.d := ⟨_, rfl⟩
 obtain ⟨ds, hds⟩ : ∃ ds, ds = c.ds := ⟨_, rfl⟩
 obtain ⟨ro, hro⟩ : ∃ ro, ro = c.ro := ⟨_, rfl⟩
 rw [← hb] at h0 HV
 rw [← hd] at h1 HV
 rw [← hds] at h2 HV
 rw [← hro] at h3 HV
 clear hZ hV hb hd hds hro
 go_enter Tryz.func8, Tryz.ntmps8
 go_upto_region 1 with (fail)
 refine wp_let (fun W => Blk W w.heap.size 26 Z ∧ Below w.heap.size w W) ⟨Blk.new _ _ _, (Below.refl _ w).alloc (Nat.le_refl _) _⟩ ?_
 rintro W1 ⟨b1, b2⟩
 have x0 := (b1.cell 0).trans h0
 have x1 := (b1.cell 1).trans h1
 have x2 := (b1.cell 37).trans h2
 have x3 := (b1.cell 38).trans h3
 have HB := zh b2
 clear b1 b2 h0 h1 h2 h3
 have hout : ∀ r : Bool, (r = true ↔ (0 ≤ b ∧ b ≤ 31 ∧ (d = 0 ∨ d = 1) ∧ 0 ≤ ds ∧ ds ≤ 1073741824 ∧ 0 ≤ ro ∧ ro ≤ 1073741824)) → r = V := fun r hr => by
  rw [Bool.eq_iff_iff, hr, HD.out, HV.out]
 have HO := zh hout
 clear hout
 by_cases c0 : 0 ≤ b
 rotate_left
 ·go_wp2
  go_ret
  exact ⟨ret_bool (HO.out _ ⟨fun h => (by cases h), fun h => (by omega)⟩), HB.out⟩
 by_cases c1 : b ≤ 31
 rotate_left
 ·go_wp2
  go_ret
  exact ⟨ret_bool (HO.out _ ⟨fun h => (by cases h), fun h => (by omega)⟩), HB.out⟩
 by_cases c2 : d = 0 ∨ d = 1
 rotate_left
 ·have d0 : (d == 0) = false := by simp; exact fun h => c2 (.inl h)
  have d1 : (d == 1) = false := by simp; exact fun h => c2 (.inr h)
  have HC2 := zh c2
  clear c2
  go_wp2
  go_ret
  exact ⟨ret_bool (HO.out _ ⟨fun h => (by cases h), fun h => (absurd h.2.2.1 HC2.out)⟩), HB.out⟩
 by_cases c3 : 0 ≤ ds
 rotate_left
 ·rcases c2 with rfl | rfl
  ·go_wp2
   go_ret
   exact ⟨ret_bool (HO.out _ ⟨fun h => (by cases h), fun h => (by omega)⟩), HB.out⟩
  ·go_wp2
   go_ret
   exact ⟨ret_bool (HO.out _ ⟨fun h => (by cases h), fun h => (by omega)⟩), HB.out⟩
 by_cases c4 : ds ≤ 1073741824
 rotate_left
 ·rcases c2 with rfl | rfl
  ·go_wp2
   go_ret
   exact ⟨ret_bool (HO.out _ ⟨fun h => (by cases h), fun h => (by omega)⟩), HB.out⟩
  ·go_wp2
   go_ret
   exact ⟨ret_bool (HO.out _ ⟨fun h => (by cases h), fun h => (by omega)⟩), HB.out⟩
 by_cases c5 : 0 ≤ ro
 rotate_left
 ·rcases c2 with rfl | rfl
  ·go_wp2
   go_ret
   exact ⟨ret_bool (HO.out _ ⟨fun h => (by cases h), fun h => (by omega)⟩), HB.out⟩
  ·go_wp2
   go_ret
   exact ⟨ret_bool (HO.out _ ⟨fun h => (by cases h), fun h => (by omega)⟩), HB.out⟩
 by_cases c6 : ro ≤ 1073741824
 ·rcases c2 with rfl | rfl
  ·go_wp2
   go_ret
   exact ⟨ret_bool (HO.out _ ⟨fun h => ⟨by omega, by omega, by simp, by omega, by omega, by omega, by omega⟩, fun h => rfl⟩), HB.out⟩
  ·go_wp2
   go_ret
   exact ⟨ret_bool (HO.out _ ⟨fun h => ⟨by omega, by omega, by simp, by omega, by omega, by omega, by omega⟩, fun h => rfl⟩), HB.out⟩
 ·rcases c2 with rfl | rfl
  ·go_wp2
   go_ret
   exact ⟨ret_bool (HO.out _ ⟨fun h => (by cases h), fun h => (by omega)⟩), HB.out⟩
  ·go_wp2
   go_ret
   exact ⟨ret_bool (HO.out _ ⟨fun h => (by cases h), fun h => (by omega)⟩), HB.out⟩
end Go.Proofs.YtmdpiajhfohagaaGreat
namespace Go.Proofs.YtmdpiajhfohagaaGreat
open Go.RowKit
set_option linter.unusedVariables false
attribute [local go_sem ↓] Go.wp_at_zero Go.wp_at_succ
def Solo (w0 w : World) (g : Nat) (s : TS) : Prop := ∃ W R, TxI w g s W R ∧ (∀ k, W k → w0.heap.size ≤ k) ∧ Below w0.heap.size w0 w
section
variable {w0 w w' : World} {g : Nat} {s : TS}
theorem Solo.of_new {w1 : World} (hb : Below w0.heap.size w0 w1) (h : TxNewO w1 w g s) : Solo w0 w g s := by
 obtain ⟨W, R, h1, h2, h3, h4⟩ := h
 exact ⟨W, R, h1, fun k hk => Nat.le_trans hb.size (h2 k hk), hb.trans (h4.mono hb.size)⟩
end
section
variable {nx fi : Int} {z y0 y1 : Nat → Int}
end
end Go.Proofs.YtmdpiajhfohagaaGreat
namespace Go.Proofs.YtmdpiajhfohagaaGreat
open Go.RowKit
set_option linter.unusedVariables false
attribute [local go_sem ↓] Go.wp_at_zero Go.wp_at_succ
theorem builds_any (g : Nat) (C : Cfg) (hok : C.Ok) (hv : C.Valid) (hcm : C.cm = false) : Builds g C := by
 cases hig : C.ig with
 | false => exact builds_plain g C hok hv hig hcm
 | true =>
  intro s W R V hC hI ct hct A n c z h1 h9 hr hz
  subst hC
  exact tbuild_ig code_ok g s W R V hI hok hv hig hcm ct hct A n c z h1 h9 hr hz
end Go.Proofs.YtmdpiajhfohagaaGreat
namespace Go.Proofs.YtmdpiajhfohagaaGreat
open Go.RowKit
def UnB (w : World) (k : Nat) : Prop := ∃ cur t, w.heap[k]? = some (.cells cur t (0, 0))
theorem UnB.lt {w : World} {k : Nat} (h : UnB w k) : k < w.heap.size := by
 obtain ⟨cur, t, h⟩ := h
 exact (Array.getElem?_eq_some_iff.1 h).1
section
variable {w w1 w' : World} {B rb : Nat} {nx : Int} {us : Bool} {W R R' F : Nat → Prop} {qA qA' : Option Addr} {qc qc' : Nat} {lq lq' : List WE} {pA pA' : Option Addr} {pc pc' : Nat} {lp lp' : List PE}
end
set_option linter.unusedVariables false
attribute [local go_sem ↓] Go.wp_at_zero Go.wp_at_succ
end Go.Proofs.YtmdpiajhfohagaaGreat
namespace Go.Proofs.YtmdpiajhfohagaaGreat
open Go.RowKit
set_option linter.unusedVariables false
attribute [local go_sem ↓] Go.wp_at_zero Go.wp_at_succ
def blkOf (A : Option Addr) (k : Nat) : Prop := ∃ a, A = some a ∧ k = a.block
def SoloN (w0 w : World) (g : Nat) (s : TS) (N : Nat → Prop) : Prop := ∃ W R, TxI w g s W R ∧ (∀ k, W k → w0.heap.size ≤ k) ∧ Below w0.heap.size w0 w ∧ (∀ k, N k → w0.heap.size ≤ k ∧ k < w.heap.size ∧ ¬ W k ∧ ¬ R k)
section
variable {w0 w w' : World} {g : Nat} {s : TS} {N N' : Nat → Prop}
theorem SoloN.of (h : Solo w0 w g s) : SoloN w0 w g s (fun _ => False) := by
 obtain ⟨W, R, h1, h2, h3⟩ := h
 exact ⟨W, R, h1, h2, h3, fun k hk => hk.elim⟩
theorem SoloN.low (h : SoloN w0 w g s N) : Below w0.heap.size w0 w := by
 obtain ⟨W, R, h1, h2, h3, h4⟩ := h
 exact h3
theorem SoloN.below (h : SoloN w0 w g s N) (hb : Below w.heap.size w w') : SoloN w0 w' g s N := by
 obtain ⟨W, R, h1, h2, h3, h4⟩ := h
 exact ⟨W, R, h1.below hb, h2, h3.trans (hb.mono h3.size), fun k hk => ⟨(h4 k hk).1, Nat.lt_of_lt_of_le (h4 k hk).2.1 hb.size, (h4 k hk).2.2⟩⟩
theorem SoloN.other (h : SoloN w0 w g s N) (hk : KeepF N w w') (hN : ∀ k, N' k → (N k ∨ w.heap.size ≤ k) ∧ k < w'.heap.size) : SoloN w0 w' g s N' := by
 obtain ⟨W, R, h1, h2, h3, h4⟩ := h
 have hs := h3.size
 refine ⟨W, R, h1.keepF hk (fun k hn => (h4 k hn).2.2), h2, KeepF.below h3 hk (fun k hn => (h4 k hn).1) hs, fun k hn => ?_⟩
 obtain ⟨h5 | h5, h6⟩ := hN k hn
 ·exact ⟨(h4 k h5).1, h6, (h4 k h5).2.2⟩
 ·exact ⟨by omega, h6, fun hw => by have := h1.win k hw; omega, fun hr => by have := h1.rin k hr; omega⟩
theorem SoloN.call (h : SoloN w0 w g s N) : ∃ W R, TxI w g s W R ∧ ∀ w' s', TxO W R w w' g s' → SoloN w0 w' g s' N ∧ ∀ k, N k → w'.heap[k]? = w.heap[k]? := by
 obtain ⟨W, R, h1, h2, h3, h4⟩ := h
 refine ⟨W, R, h1, fun w' s' hO => ?_⟩
 obtain ⟨W', R', hI, hW, hR, hK⟩ := hO
 have hs := h3.size
 refine ⟨⟨W', R', hI, fun k hk => ?_, KeepF.below h3 hK (fun k hk => h2 k hk) hs, fun k hk => ?_⟩, fun k hk => hK.block k (h4 k hk).2.1 (h4 k hk).2.2.1⟩
 ·rcases hW k hk with h | h
  ·exact h2 k h
  ·omega
 ·have h5 := h4 k hk
  refine ⟨h5.1, Nat.lt_of_lt_of_le h5.2.1 hK.size, fun hw => ?_, fun hr => ?_⟩
  ·rcases hW k hw with h | h
   ·exact h5.2.2.1 h
   ·omega
  ·rcases hR k hr with h | h
   ·exact h5.2.2.2 h
   ·omega
theorem solon_submit (h : SoloN w0 w g s N) (hf : s.Fine) (hcm : s.C.cm = false) (hql : s.Q.length ≤ 1000000) (t : Int) (ht1 : -9223372036854775808 ≤ t) (ht2 : t ≤ 9223372036854775807) (A : Option Addr) (n c : Nat) (z : Nat → Int) (hr : Row w w.heap.size A n (fun j => .int .u8 (z j))) (hz : ∀ j, j < n → 0 ≤ z j ∧ z j < 256) (hA : ∀ a, A = some a → n ≠ 0 → N a.block ∨ a.block < w0.heap.size) (hn9 : n ≤ 1000000) :
  Calls Tryz.prog 26 #[.pointer (some ⟨g, 0, none⟩), .int .i64 t, .slice A n c] w fun e w' => e = .returned (.int .i64 (s.submit t n z).1) ∧ SoloN w0 w' g (s.submit t n z).2 N ∧ KeepF (fun k => ¬ N k) w w' := by
 obtain ⟨W, R, h1, h2, h3, h4⟩ := h
 obtain ⟨W', R', hI, hc⟩ := SoloN.call ⟨W, R, h1, h2, h3, h4⟩
 clear hI hc W' R'
 have hh : SoloN w0 w g s N := ⟨W, R, h1, h2, h3, h4⟩
 refine (tsubmit_ok g s W R w h1 hf hcm hql t ht1 ht2 A n c z ⟨hr, hz, fun a e hn hw => ?_⟩ hn9).mono ?_
 ·rcases hA a e hn with h5 | h5
  ·exact (h4 _ h5).2.2.1 hw
  ·have := h2 _ hw; omega
 ·rintro e w' ⟨he, W', R', hI, hW, hR, hK⟩
  have hs := h3.size
  refine ⟨he, ⟨W', R', hI, fun k hk => ?_, KeepF.below h3 hK (fun k hk => h2 k hk) hs, fun k hk => ?_⟩, hK.mono (fun k hk hn => (h4 k hn).2.2.1 hk)⟩
  ·rcases hW k hk with h | h
   ·exact h2 k h
   ·omega
  ·have h5 := h4 k hk
   refine ⟨h5.1, Nat.lt_of_lt_of_le h5.2.1 hK.size, fun hw => ?_, fun hr => ?_⟩
   ·rcases hW k hw with h | h
    ·exact h5.2.2.1 h
    ·omega
   ·rcases hR k hr with h | h
    ·exact h5.2.2.2 h
    ·omega
theorem solon_nextU (h : SoloN w0 w g s N) (hf : s.Fine) (hcm : s.C.cm = false) (hpl : s.P.length ≤ 1000000) (t : Int) (ht1 : -9223372036854775808 ≤ t) (ht2 : t ≤ 9223372036854775807) :
  Calls Tryz.prog 27 #[.pointer (some ⟨g, 0, none⟩), .int .i64 t] w fun e w' => ∃ A c, e = .returned (.tuple #[.slice A (s.send t).n c, .int .u32 (s.send t).ct, .int .i64 (s.send t).e]) ∧ (s.send t).n ≤ c ∧ Row w' w'.heap.size A (s.send t).n (fun j => .int .u8 (((s.send t).z j : Nat) : Int)) ∧ SoloN w0 w' g (s.send t).s (fun k => N k ∨ blkOf A k) ∧ KeepF (fun k => ¬ N k) w w' ∧ ∀ a, A = some a → UnB w' a.block ∧ w.heap.size ≤ a.block := by
 obtain ⟨W, R, h1, h2, h3, h4⟩ := h
 refine (tNext_ok g s W R w h1 hf t ht1 ht2 (builds_any g s.C hf.ok hf.val hcm) hpl).mono ?_
 rintro e w' ⟨A, c, W', R', he, hc, hr, hI, hW, hR, hK, hA⟩
 have hs := h3.size
 refine ⟨A, c, he, hc, hr, ⟨W', R', hI, fun k hk => ?_, KeepF.below h3 hK (fun k hk => h2 k hk) hs, fun k hk => ?_⟩, hK.mono (fun k hk hn => (h4 k hn).2.2.1 hk), fun a e => ⟨(hA a e).2.2.2, (hA a e).1⟩⟩
 ·rcases hW k hk with h | h
  ·exact h2 k h
  ·omega
 ·rcases hk with hk | ⟨a, ha, e⟩
  ·have h5 := h4 k hk
   refine ⟨h5.1, Nat.lt_of_lt_of_le h5.2.1 hK.size, fun hw => ?_, fun hr => ?_⟩
   ·rcases hW k hw with h | h
    ·exact h5.2.2.1 h
    ·omega
   ·rcases hR k hr with h | h
    ·exact h5.2.2.2 h
    ·omega
  ·subst e
   have := hA a ha
   exact ⟨by omega, UnB.lt this.2.2.2, this.2.1, this.2.2.1⟩
end
end Go.Proofs.YtmdpiajhfohagaaGreat
namespace Go.Proofs.YtmdpiajhfohagaaGreat
open Go.RowKit Go.ChangeShapes Go.WideShapes
theorem open_bytes_row {H : Type} {enc : TypeId × Value → H} {w : World} {base : Nat} {spare : Nat → Bool} {held : Bool} {fuel : Nat} {v : Value} {x : DataW H × List MemPlace} (h : DataW.trod enc Tryz.prog w base spare held fuel 41 [v] = some x) (hsp : ∀ b, spare b = true) :
  ∃ a len cap zs, v = .slice a len cap ∧ IsRow .u8 w a len cap zs := by
 rcases open_ints Tryz.underlying41 Tryz.underlying5 (by kernel_rfl) h with ⟨hcs, _⟩ | ⟨x, l, c, zs, hcs, _, hl, hm, hz, _, hcell, hwz⟩
 ·simp at hcs
  subst hcs
  exact ⟨none, 0, 0, [], rfl, .inl ⟨rfl, rfl, rfl, rfl⟩⟩
 ·simp at hcs
  subst hcs
  rw [if_pos (hsp _)] at hz
  exact ⟨some x, l, c, zs, rfl, .inr ⟨x, rfl, hl, hm, hz, hcell, hwz⟩⟩
structure Rows2 (w : World) (A : Option Addr) (m : Nat) (PA : Nat → Option Addr) (pn pc : Nat → Nat) (z : Nat → Nat → Int) : Prop where
 at_ : m ≠ 0 → ∃ lb lo, A = some ⟨lb, lo, none⟩ ∧ lb < w.heap.size ∧ ∀ k, k < m → w.cell? ⟨lb, lo + k, none⟩ = some (.slice (PA k) (pn k) (pc k))
 cap : ∀ k, k < m → pn k ≤ pc k
 byte : ∀ k, k < m → ∀ j, j < pn k → 0 ≤ z k j ∧ z k j < 256
 row : ∀ k, k < m → Row w w.heap.size (PA k) (pn k) (fun j => .int .u8 (z k j))
theorem Rows2.below {w w' : World} {A : Option Addr} {m : Nat} {PA : Nat → Option Addr} {pn pc : Nat → Nat} {z : Nat → Nat → Int} (h : Rows2 w A m PA pn pc z) (hb : Below w.heap.size w w') : Rows2 w' A m PA pn pc z :=
 ⟨fun hm => by
  obtain ⟨lb, lo, e, hlt, hc⟩ := h.at_ hm
  exact ⟨lb, lo, e, Nat.lt_of_lt_of_le hlt hb.size, fun k hk => (hb.cell (p := ⟨lb, lo + k, none⟩) hlt).trans (hc k hk)⟩, h.cap, h.byte, fun k hk => (h.row k hk).next hb⟩
theorem open_rows2 {H : Type} {enc : TypeId × Value → H} {w : World} {base : Nat} {spare : Nat → Bool} {held : Bool} {fuel : Nat} {a : Option Addr} {len cap : Nat} {x : DataW H × List MemPlace}
  (h : DataW.trod enc Tryz.prog w base spare held fuel 38 [.slice a len cap] = some x) (hsp : ∀ b, spare b = true) :
  len ≤ maxLen ∧ len ≤ cap ∧ ∃ PA pn pc z, Rows2 w a len PA pn pc z := by
 rcases Go.Deep.open_slice Tryz.underlying38 h with ⟨hcs, _⟩ | ⟨ad, l, c, m, n, D, Pl, hcs, _, hl, hm, hmm, _, hf⟩
 ·simp at hcs
  obtain ⟨rfl, rfl, rfl⟩ := hcs
  exact ⟨by unfold maxLen; omega, Nat.le_refl _, fun _ => none, fun _ => 0, fun _ => 0, fun _ _ => 0, ⟨fun h => absurd rfl h, fun k hk => by omega, fun k hk => by omega, fun k hk => by omega⟩⟩
 ·simp at hcs
  obtain ⟨rfl, rfl, rfl⟩ := hcs
  rw [if_pos (hsp _)] at hmm
  subst hmm
  have c1 : Tryz.prog.cellsOf 41 = 1 := by kernel_rfl
  have h1 : ∀ i, ∃ q : Option Addr × Nat × Nat × List Int, i < len → w.cell? (ad.add i) = some (.slice q.1 q.2.1 q.2.2.1) ∧ IsRow .u8 w q.1 q.2.1 q.2.2.1 q.2.2.2 := fun i => by
   by_cases hi : i < len
   ·obtain ⟨cs', g1, g2⟩ := hf i (by omega)
    rw [c1, Nat.mul_one] at g1
    obtain ⟨_, hlen, hcell⟩ := World.cells?_some g1
    match cs', hlen with
    | [v], _ =>
     obtain ⟨a, l, c, zs, hv, hr⟩ := open_bytes_row (v := v) g2 hsp
     have hc0 := hcell 0 (by omega)
     simp at hc0
     exact ⟨(a, l, c, zs), fun _ => ⟨by rw [← hv]; simpa [Addr.add] using hc0, hr⟩⟩
   ·exact ⟨(none, 0, 0, []), fun h => absurd h hi⟩
  obtain ⟨q1, hq1⟩ := Classical.axiomOfChoice h1
  refine ⟨by omega, hl, fun k => (q1 k).1, fun k => (q1 k).2.1, fun k => (q1 k).2.2.1, fun k j => (q1 k).2.2.2.getD j 0, ⟨fun hn => ?_, fun k hk => (isRow_u8 (hq1 k hk).2).1, fun k hk => (isRow_u8 (hq1 k hk).2).2, fun k hk => isRow_row (hq1 k hk).2⟩⟩
  obtain ⟨b, off, spot⟩ := ad
  have c0 := (hq1 0 (by omega)).1
  have hspot : spot = none := by simpa [Addr.add] using World.cell?_spot c0
  subst hspot
  have hadd : ∀ j, (⟨b, off, none⟩ : Addr).add j = ⟨b, off + j, none⟩ := fun j => by unfold Addr.add; split <;> simp_all
  refine ⟨b, off, rfl, ?_, fun k hk => ?_⟩
  ·rw [hadd] at c0
   exact World.block_lt_of_cell? w _ c0
  ·have := (hq1 k hk).1
   rwa [hadd] at this
end Go.Proofs.YtmdpiajhfohagaaGreat
namespace Go.Proofs.YtmdpiajhfohagaaGreat
open Go.RowKit
set_option linter.unusedVariables false
set_option linter.unusedSimpArgs false
attribute [local go_sem] Oper.semAt_some
set_option maxRecDepth 100000 in
set_option maxHeartbeats 6400000 in
theorem receive_run (g : Nat) (s : RS) (W R : Nat → Prop) (sb : Nat) (l : List SE) (ub eb : Nat) (w : World) (h : RxM w g s W R sb l ub eb) (hok : s.C.Ok) (hcm : s.C.cm = false) (hro : 0 ≤ s.C.ro ∧ s.C.ro ≤ 1073741824) (hl : l.length ≤ 100) (hrun : s.run = false) (hdup : s.dup < 4611686018427387903) (t : Int)
  (A : Option Addr) (n c : Nat) (z : Nat → Nat) (hn : n ≤ 1000000) (hnc : n ≤ c) (hz : ∀ j, j < n → z j < 256) (hr : Row w w.heap.size A n (fun j => .int .u8 ((z j : Nat) : Int))) (hA : ∀ a, A = some a → ¬ W a.block) (hD : DataAll g s.C W R sb ub eb A n c z) :
  Calls Tryz.prog 11 #[.pointer (some ⟨g, 0, none⟩), .int .i64 t, .slice A n c] w (RecvO g s W R sb ub eb t n z w) := by
 have hmf : ∀ (fn : Fn) (first cap : Array Value) (w : World), (Instr.makeFunc fn first cap).run Tryz.prog w = .ok (.func fn first cap) w := fun _ _ _ _ => rfl
 obtain ⟨ob, hob⟩ : ∃ ob, ob = w.heap.size := ⟨_, rfl⟩
 obtain ⟨W1, hW1⟩ : ∃ W1, W1 = (w.alloc (.cells #[.slice none 0 0] 38)).alloc (.cells #[.int .i64 0] 31) := ⟨_, rfl⟩
 have hB1 : Below w.heap.size w W1 := by rw [hW1]; exact ((Below.refl _ w).alloc (Nat.le_refl _) _).alloc (by simp) _
 have hO : Blk W1 ob 38 #[.slice none 0 0] := by rw [hW1, hob]; exact (Blk.new _ _ _).alloc _
 have hE : Blk W1 (ob + 1) 31 #[.int .i64 0] := by rw [hW1, hob]; exact blk_atA _ _ _ _ (by simp)
 have hT := h.below hB1
 have HAT := zh (rat_ok g s W R sb l ub eb W1 hT t)
 have HW := zh (And.intro h.win h.rin)
 have HWG := zh (And.intro h.wg h.ws)
 have HDIS := zh h.dis
 have hgo : g < ob ∧ sb < ob := by have := h.win _ h.wg; have := h.win _ h.ws; omega
 have HP := zh (And.intro hok (And.intro hcm (And.intro hro (And.intro hl (And.intro hdup (And.intro hnc (And.intro hz (And.intro hr (And.intro hA (And.intro hD h.lv))))))))))
 have HO := zh hO
 have HE := zh hE
 have HB1 := zh hB1
 have HWW := zh hW1
 have HOB := zh hob
 have HRUN := zh hrun
 clear hrun h hok hcm hro hl hdup hnc hz hr hA hD hO hE hB1 hW1 hT
 refine (callsIn_wide (n := 9)).1 ?_
 refine callsIn_of_wp_marks Tryz.func11 rfl trivial ?_ rfl
 simp only [Tryz.ntmps11, List.size_toArray, List.length_cons, List.length_nil, Nat.reduceAdd, Nat.reduceSub, Array.replicate_succ, Array.replicate_zero, List.push_toArray, List.append_toArray, List.nil_append, List.cons_append]
 refine wpIn_wide.2 ?_
 go_upto_region 1 with (fail)
 rw [← HWW.out, ← HOB.out]
 clear hob
 by_cases hbt : 1073741824 ≤ t
 ·have HX := zh (show s.receive t n z = ([], 2, s) by unfold RS.receive; rw [if_pos hbt])
  go_wp2_with (go_at_call 35; refine (HAT.out).mono ?_; rintro e w2 ⟨he, hT2, hk2⟩; rw [if_pos hbt] at he hT2; subst he; have HT2 := zh hT2; have HK2 := zh hk2; have f1 := (hk2.blk HO.out (by omega)).frozen 0; have f2 := (hk2.blk HE.out (by omega)).frozen 0; have o1 := (hk2.blk HO.out (by omega)).cell 0; have o2 := (hk2.blk HE.out (by omega)).cell 0; clear hT2 hk2)
  have ho2 : Blk w2 ob 38 #[.slice none 0 0] := HK2.out.blk HO.out (by omega)
  have he2 : Blk w2 (ob + 1) 31 #[.int .i64 0] := HK2.out.blk HE.out (by omega)
  have k3 := keep_set w2 ob 0 (.slice none 0 0)
  have k4 := keep_set (w2.setCell ⟨ob, 0, none⟩ (.slice none 0 0)) (ob + 1) 0 (.int .i64 2)
  have k34 : KeepF (fun k => k = ob ∨ k = ob + 1) w2 ((w2.setCell ⟨ob, 0, none⟩ (.slice none 0 0)).setCell ⟨ob + 1, 0, none⟩ (.int .i64 2)) := (k3.mono (fun _ h => .inl h)).trans k4 (fun _ _ h => .inr h)
  have q1 := (k4.blk (ho2.set_ 0 (.slice none 0 0)) (by omega)).cell 0
  have q2 := ((k3.blk he2 (by omega)).set_ 0 (.int .i64 2)).cell 0
  simp at q1 q2
  refine ⟨.tuple #[.slice none 0 0, .int .i64 2], by simp [results, Tryz.results11, go_sem, q1, q2], ?_⟩
  refine ⟨R, l, none, 0, [], by rw [HX.out]; rfl, ⟨SL.nil _ _ _, fun a h => by cases h⟩, by rw [HX.out]; rfl, fun x h => by simp at h, ?_, fun k h => .inl h, fun k h => h, ?_⟩
  ·rw [HX.out]
   exact keepW HT2.out k34 (fun k h => by have := HOB.out; omega) HW.out
  ·exact ((KeepF.of_below HB1.out).trans HK2.out (fun k _ e => by rw [e]; exact HWG.out.1)).trans k34 (fun k hk e => by have := HOB.out; omega)
 have HX := zh (show s.receive t n z = (let y := (s.at_ t).expire.2.take n z; if y.2.1 = true then ((s.at_ t).expire.1 ++ y.2.2.deliver_.1, 0, y.2.2.deliver_.2.timer) else ((s.at_ t).expire.1, y.1, y.2.2)) by unfold RS.receive; rw [if_neg hbt])
 go_upto_region 4 with (go_at_call 35; refine (HAT.out).mono ?_; rintro e w2 ⟨he, hT2, hk2⟩; rw [if_neg hbt] at he hT2; subst he; have HT2 := zh hT2; have HK2 := zh hk2; have HO2 := zh (hk2.blk HO.out (by omega)); have HE2 := zh (hk2.blk HE.out (by omega)); clear hT2 hk2)
 have HEXP := zh (rexpire_idle g (s.at_ t) W R sb l ub eb w2 HT2.out (.inl HRUN.out))
 have hWob : ¬ W ob ∧ ¬ W (ob + 1) ∧ ¬ R ob ∧ ¬ R (ob + 1) := ⟨fun h => by have := HW.out.1 _ h; have := HOB.out; omega, fun h => by have := HW.out.1 _ h; have := HOB.out; omega, fun h => by have := HW.out.2 _ h; have := HOB.out; omega, fun h => by have := HW.out.2 _ h; have := HOB.out; omega⟩
 have HWO := zh hWob
 clear hWob
 go_upto_region 6 with (go_at_call 36; refine (HEXP.out).mono ?_; rintro e w3 ⟨A1, c1, lo1, l1, rfl, hM1, hm1, hs1, hs2, hT3, hk3⟩; have HM1 := zh (And.intro hM1 (And.intro hm1 (And.intro hs1 hs2))); have HT3 := zh hT3; have HK3 := zh hk3; have HO3 := zh (hk3.blk HO2.out HWO.out.1); have HE3 := zh (hk3.blk HE2.out HWO.out.2.1); have f3 := HO3.out.frozen 0; have o3 : w3.cell? ⟨ob, 0, none⟩ = some (.slice none 0 0) := HO3.out.cell 0; clear hM1 hm1 hs1 hs2 hT3 hk3)
 obtain ⟨s5, hs5⟩ : ∃ x, x = (s.at_ t).expire.2 := ⟨_, rfl⟩
 obtain ⟨x1, hx1⟩ : ∃ x, x = (s.at_ t).expire.1 := ⟨_, rfl⟩
 have hkp := expire_keeps (s.at_ t)
 rw [← hs5, ← hx1] at hkp HX
 rw [← hs5] at HT3
 rw [← hx1] at HM1
 have hatC : (s.at_ t).C = s.C ∧ (s.at_ t).dup = s.dup ∧ (s.at_ t).L = s.L := ⟨rfl, rfl, rfl⟩
 have hc5 : s5.C = s.C := hkp.1.trans hatC.1
 have hd5 : s5.dup = s.dup := hkp.2.1.trans hatC.2.1
 have hlen5 : x1.length + s5.L.length ≤ 100 := by rw [hkp.2.2, hatC.2.2, ← HP.out.2.2.2.2.2.2.2.2.2.2, List.length_map]; exact HP.out.2.2.2.1
 have hl1 : lo1.length = x1.length := by rw [← HM1.out.2.1, List.length_map]
 have hl5 : l1.length = s5.L.length := by rw [← HT3.out.lv, List.length_map]
 have HLEN := zh (show lo1.length + l1.length ≤ 100 by omega)
 have HC5 := zh (And.intro hc5 hd5)
 have k4 := keep_set w3 ob 0 (.slice A1 lo1.length c1)
 have hKW : KeepF W w (w3.setCell ⟨ob, 0, none⟩ (.slice A1 lo1.length c1)) := (((KeepF.of_below HB1.out).trans HK2.out (fun k _ e => by rw [e]; exact HWG.out.1)).trans HK3.out (fun k _ h => h)).trans k4 (fun k hk e => by have := HOB.out; omega)
 refine wp_let (fun V => RxM V g s5 W R sb l1 ub eb ∧ Blk V ob 38 #[.slice A1 lo1.length c1] ∧ Blk V (ob + 1) 31 #[.int .i64 0] ∧ OutM V w2.heap.size A1 c1 lo1 ∧ KeepF W w V ∧ (∀ x, x ∈ lo1 → Pkt V R x.A x.v.n x.c x.v.z) ∧ w2.heap.size ≤ V.heap.size)
  ⟨keepW HT3.out k4 (fun k h => by have := HOB.out; omega) HW.out, HO3.out.set_ 0 _, k4.blk HE3.out (by omega), ⟨HM1.out.1.1.keepF k4 (fun a ha e => by have := HM1.out.1.2 a ha; have := HO2.out.lt; omega), HM1.out.1.2⟩, hKW, fun x hx => (HT2.out.pk x (HM1.out.2.2.1 x hx)).keep ((HK3.out.mono (G := fun k => W k ∨ k = ob) (fun _ h => .inl h)).trans k4 (fun k _ h => .inr h)) (fun k hk hr => by
   rcases hk with hk | hk
   ·exact HDIS.out k hk hr
   ·rw [hk] at hr; exact HWO.out.2.2.1 hr), Nat.le_trans HK3.out.size k4.size⟩ ?_
 rintro w4 ⟨t4, o4, e4, m4, kw4, p4, z4⟩
 have HT4 := zh t4
 have HO4 := zh o4
 have HE4 := zh e4
 have HM4 := zh m4
 have HK4 := zh kw4
 have HP4 := zh p4
 have hz24 : w.heap.size ≤ w2.heap.size := Nat.le_trans HB1.out.size HK2.out.size
 have HZ4 := zh (And.intro z4 hz24)
 have HR4 : Hid (Row w4 w4.heap.size A n (fun j => .int .u8 ((z j : Nat) : Int))) := zh ((HK4.out.row HP.out.2.2.2.2.2.2.2.1 (Nat.le_refl _) (fun a ha _ => HP.out.2.2.2.2.2.2.2.2.1 a ha)).more HK4.out.size)
 have hDA := HP.out.2.2.2.2.2.2.2.2.2.1 s5 l1 w4 hc5 t4 HR4.out
 rw [← hc5] at hDA
 have HTK : Hid (Calls Tryz.prog 38 #[.pointer (some ⟨g, 0, none⟩), .slice A n c] w4 (TakeO g s5 W R sb l1 ub eb n z w4)) := zh (by
  have o5 : s5.C.Ok := by rw [hc5]; exact HP.out.1
  have c5 : s5.C.cm = false := by rw [hc5]; exact HP.out.2.1
  have d5 : s5.dup < 4611686018427387903 := by rw [hd5]; exact HP.out.2.2.2.2.1
  cases hig : s5.C.ig
  ·exact take_no g s5 W R sb l1 ub eb w4 t4 o5 c5 hig d5 A n c z hn HP.out.2.2.2.2.2.1 HP.out.2.2.2.2.2.2.1 HR4.out hDA
  ·exact take_yes g s5 W R sb l1 ub eb w4 t4 o5 c5 hig d5 A n c z hn HP.out.2.2.2.2.2.1 HP.out.2.2.2.2.2.2.1 HR4.out hDA)
 clear t4 o4 e4 m4 kw4 p4 k4 hKW hDA hkp hl1 hl5 hlen5 hc5 hd5 hatC f3 o3
 obtain ⟨ec, nw, s7, htk⟩ : ∃ a b c, s5.take n z = (a, b, c) := ⟨_, _, _, rfl⟩
 have hnw := take_err s5 n z
 have hc7 := take_C s5 n z
 rw [htk] at hnw HX hc7
 simp only at hnw HX hc7
 have HC7 := zh (hc7.trans HC5.out.1)
 clear hc7
 have HTE := zh htk
 by_cases hec : ec = 0
 rotate_left
 ·have hnf := hnw hec
  subst hnf
  go_wp2_with (go_at_call 38; refine (HTK.out).mono ?_; rintro e w7 ⟨R', l7, he, hT7, hR1, hR2, hk7, hl7⟩; rw [HTE.out] at he hT7; simp only at he hT7; rw [if_neg hec] at he; subst he; have HT7 := zh hT7; have HR7 := zh (And.intro hR1 hR2); have HK7 := zh hk7; clear hT7 hR1 hR2 hk7 hl7)
  have c7 : w7.cell? ⟨ob + 1, 0, none⟩ = some (.int .i64 0) := (HK7.out.blk HE4.out HWO.out.2.1).cell 0
  have f7 := (HK7.out.blk HE4.out HWO.out.2.1).frozen 0
  refine ⟨by simp, .inr ⟨fun h => (by cases h), _, _, 37, #[.pointer (some ⟨ob + 1, 0, none⟩)], rfl, by simp [go_sem], fun g _ => trivial, ?_⟩⟩
  refine (recv1_caught ⟨ob + 1, 0, none⟩ 0 ec [] w7 c7 f7).mono ?_
  rintro en u' w'' ⟨rfl, rfl, hw⟩
  have k9 := keep_set w7 (ob + 1) 0 (.int .i64 ec)
  rw [← hw] at k9
  have y1 : w''.cell? ⟨ob, 0, none⟩ = some (.slice A1 lo1.length c1) := (k9.blk (HK7.out.blk HO4.out HWO.out.1) (by omega)).cell 0
  have y2 : w''.cell? ⟨ob + 1, 0, none⟩ = some (.int .i64 ec) := by rw [hw]; exact ((HK7.out.blk HE4.out HWO.out.2.1).set_ 0 _).cell 0
  refine ⟨.tuple #[.slice A1 lo1.length c1, .int .i64 ec], by simp [results, Tryz.results11, go_sem, y1, y2], ?_⟩
  exact recv_fin HX.out HOB.out HW.out HDIS.out HM1.out.2.1 ⟨HE2.out.lt, HZ4.out.1⟩ HM4.out HP4.out HK4.out HT7.out HR7.out.1 HR7.out.2 HK7.out (k9.mono (fun _ h => .inr h))
 subst hec
 cases nw
 ·go_wp2_with (go_at_call 38; refine (HTK.out).mono ?_; rintro e w7 ⟨R', l7, he, hT7, hR1, hR2, hk7, hl7⟩; rw [HTE.out] at he hT7; simp only at he hT7; obtain rfl : e = .returned (.bool false) := (by simpa using he); have HT7 := zh hT7; have HR7 := zh (And.intro hR1 hR2); have HK7 := zh hk7; have o7 : w7.cell? ⟨ob, 0, none⟩ = some (.slice A1 lo1.length c1) := (hk7.blk HO4.out HWO.out.1).cell 0; have e7 : w7.cell? ⟨ob + 1, 0, none⟩ = some (.int .i64 0) := (hk7.blk HE4.out HWO.out.2.1).cell 0; have fo7 := (hk7.blk HO4.out HWO.out.1).frozen 0; have fe7 := (hk7.blk HE4.out HWO.out.2.1).frozen 0; clear hT7 hR1 hR2 hk7 hl7)
  have k8 := keep_set w7 ob 0 (.slice A1 lo1.length c1)
  have k9 := keep_set (w7.setCell ⟨ob, 0, none⟩ (.slice A1 lo1.length c1)) (ob + 1) 0 (.int .i64 0)
  have k89 : KeepF (fun k => k = ob ∨ k = ob + 1) w7 ((w7.setCell ⟨ob, 0, none⟩ (.slice A1 lo1.length c1)).setCell ⟨ob + 1, 0, none⟩ (.int .i64 0)) := (k8.mono (fun _ h => .inl h)).trans k9 (fun _ _ h => .inr h)
  have y1 : ((w7.setCell ⟨ob, 0, none⟩ (.slice A1 lo1.length c1)).setCell ⟨ob + 1, 0, none⟩ (.int .i64 0)).cell? ⟨ob, 0, none⟩ = some (.slice A1 lo1.length c1) := (k9.blk ((HK7.out.blk HO4.out HWO.out.1).set_ 0 _) (by omega)).cell 0
  have y2 : ((w7.setCell ⟨ob, 0, none⟩ (.slice A1 lo1.length c1)).setCell ⟨ob + 1, 0, none⟩ (.int .i64 0)).cell? ⟨ob + 1, 0, none⟩ = some (.int .i64 0) := ((k8.blk (HK7.out.blk HE4.out HWO.out.2.1) (by omega)).set_ 0 _).cell 0
  refine ⟨by simp, .inr ⟨fun h => (by cases h), _, _, 37, #[.pointer (some ⟨ob + 1, 0, none⟩)], rfl, by simp [go_sem], fun g _ => trivial, ?_⟩⟩
  refine (recv1_idle ⟨ob + 1, 0, none⟩ _).mono ?_
  rintro en u' w'' ⟨rfl, rfl, rfl⟩
  refine ⟨.tuple #[.slice A1 lo1.length c1, .int .i64 0], by simp [results, Tryz.results11, go_sem, y1, y2], ?_⟩
  exact recv_fin HX.out HOB.out HW.out HDIS.out HM1.out.2.1 ⟨HE2.out.lt, HZ4.out.1⟩ HM4.out HP4.out HK4.out HT7.out HR7.out.1 HR7.out.2 HK7.out k89
 have hcd7 := expire_keeps (s.at_ t)
 go_upto_region 7 with (go_at_call 38; refine (HTK.out).mono ?_; rintro e w7 ⟨R', l7, he, hT7, hR1, hR2, hk7, hl7⟩; rw [HTE.out] at he hT7; simp only at he hT7; obtain rfl : e = .returned (.bool true) := (by simpa using he); have HT7 := zh hT7; have HR7 := zh (And.intro hR1 hR2); have HK7 := zh hk7; have HL7 := zh hl7; clear hT7 hR1 hR2 hk7 hl7)
 simp only [if_true] at HX
 have HWR' : Hid ((∀ k, W k → k < w7.heap.size) ∧ ∀ k, R' k → k < w7.heap.size) := zh (And.intro HT7.out.win HT7.out.rin)
 have hRob : ¬ R' ob ∧ ¬ R' (ob + 1) := by
  have h1 := HE4.out.lt
  refine ⟨fun hr => ?_, fun hr => ?_⟩
  ·rcases HR7.out.1 _ hr with h | h
   ·exact HWO.out.2.2.1 h
   ·omega
  ·rcases HR7.out.1 _ hr with h | h
   ·exact HWO.out.2.2.2 h
   ·omega
 have HRO := zh hRob
 obtain ⟨bx, hbx⟩ : ∃ b, b = w7.heap.size := ⟨_, rfl⟩
 obtain ⟨V5, hV5⟩ : ∃ v, v = w7.alloc (.cells #[.pointer (some ⟨g, 0, none⟩)] 30) := ⟨_, rfl⟩
 have hB5 : Below w7.heap.size w7 V5 := by rw [hV5]; exact (Below.refl _ _).alloc (Nat.le_refl _) _
 have hX5 : Blk V5 bx 30 #[.pointer (some ⟨g, 0, none⟩)] := by rw [hV5, hbx]; exact Blk.new _ _ _
 have hz5 : V5.heap.size = bx + 1 := by rw [hV5, hbx]; simp
 have HFM := zh (from_made g w7)
 rw [← hV5, ← hbx] at HFM
 have hT5 := HT7.out.below hB5
 have hO7 := HK7.out.blk HO4.out HWO.out.1
 have hE7 := HK7.out.blk HE4.out HWO.out.2.1
 have hM7 : SL w7 41 1 A1 lo1.length c1 (lo1.map SE.val) := HM4.out.1.keepF HK7.out (fun a ha hw => by have := HM4.out.2 a ha; have := HW.out.1 _ hw; have := HZ4.out.2; omega)
 have hKW7 : KeepF W w w7 := HK4.out.trans HK7.out (fun _ _ h => h)
 have h24 := HE2.out.lt
 have hI5 : OutJ w w7 w2.heap.size W R' ob bx lo1 [] V5 := ⟨A1, c1, by rw [List.append_nil]; exact hO7.below hB5 hO7.lt, by rw [List.append_nil]; exact hM7.next hB5, fun a ha => ⟨HM4.out.2 a ha, by have := hM7.lt ha; omega, fun hr => by
  have h1 := HM4.out.1.lt ha
  have h2 := HM4.out.2 a ha
  rcases HR7.out.1 _ hr with h | h
  ·have := HW.out.2 _ h; have := HZ4.out.2; omega
  ·omega⟩, hKW7.more hB5, hE7.below hB5 hE7.lt, KeepF.of_below hB5⟩
 have hR5 : FromR g s7 W R' sb l7 ub eb bx [] V5 := ⟨l7, rfl, fun k e h => by simp at h, by
  have e := hT5.lv
  have e2 : ({ s7 with L := l7.map (·.v), deliver := s7.deliver + (([] : List SE).length : Nat) } : RS) = s7 := by rw [e]; simp
  rw [e2]
  exact hT5, hX5⟩
 have hsz7 : w2.heap.size ≤ w7.heap.size := Nat.le_trans HZ4.out.1 HK7.out.size
 have hbx2 : w2.heap.size ≤ bx := by omega
 have hwl := HW.out
 have hwl7 : ∀ k, R' k → k < bx := fun k hk => by have := HWR'.out.2 k hk; omega
 have hsl : sb < w2.heap.size ∧ g < w2.heap.size := by omega
 have hbg : bx ≠ g ∧ bx ≠ sb := by omega
 have hwb : w.heap.size ≤ bx := Nat.le_trans HZ4.out.2 hbx2
 have hobb : ob + 1 < bx := by omega
 have hobw : w.heap.size ≤ ob := Nat.le_of_eq HOB.out.symm
 have HHE := zh (show Blk V5 (ob + 1) 31 #[.int .i64 0] from hE7.below hB5 hE7.lt)
 have HP7 : Hid (∀ x, x ∈ lo1 → Pkt w7 R' x.A x.v.n x.c x.v.z) := zh (fun x hx => ((HP4.out x hx).keep HK7.out (fun k hw hr => HDIS.out k hw hr)).mono HR7.out.2)
 have HQ7 := zh (And.intro HT7.out.pk HT7.out.lv)
 have HH := zh (And.intro hI5 (And.intro hR5 (And.intro hz5 (And.intro hbx HT7.out.lv))))
 have HDS := zh HT7.out.dis
 have HLN := zh (show lo1.length + l7.length ≤ 101 by have := HLEN.out; have := HL7.out; omega)
 clear hT5 hI5 hR5 hB5 hX5 hV5 hbx hO7 hE7 hM7 hKW7 hRob hcd7
 go_wp2_with (go_at_call 39; refine (HFM.out).mono ?_; rintro e w3 ⟨rfl, rfl⟩)
 refine (wpIn_wide (n := 9)).1 ?_
 refine wpIn_rangeFunc_work rfl (by decide) (gf := 63) (lb := #[.pointer (some ⟨bx, 0, none⟩)]) rfl trivial (enters_of Tryz.func63 (by kernel_rfl) rfl)
  (from_seq g s7 W R' sb l7 ub eb bx 8 (by decide) hbg.1 hbg.2) (fun _ => rfl) (fun A B k o h hk ho _ _ => h.same ho (by rintro (e | e) <;> omega))
  (OutJ w w7 w2.heap.size W R' ob bx lo1) (outJ_loop _ _ _ _ _ _ _ _ _ (by omega) (fun k hk => by have := hwl7 k hk; omega)) (fun pre A B h hk => outJ_keep h hk (fun k e => by
   rcases e with rfl | rfl
   ·exact ⟨by omega, by omega, by omega, HWG.out.1, fun hr => HDS.out _ HWG.out.1 hr⟩
   ·exact ⟨by omega, by omega, by omega, HWG.out.2, fun hr => HDS.out _ HWG.out.2 hr⟩))
  (fun _ => fromR_loop g s7 W R' sb l7 ub eb bx _ (by omega) (fun k hk => by have := hwl.1 k hk; omega) (fun k hk => by have := hwl7 k hk; omega)) HH.out.1
  (fun u A A' row h hg hr => fromR_loop g s7 W R' sb l7 ub eb bx V5.heap.size (by omega) (fun k hk => by have := hwl.1 k hk; omega) (fun k hk => by have := hwl7 k hk; omega) [] A A' row h hg hr) HH.out.2.1 ?a1 ?assign ?body ?done
 case assign =>
  intro lp x Wa K hK
  gi_wp2
  simp only [SE.val]
  exact hK
 case body =>
  rintro lp i pre x Wb ⟨A2, c2, hO2, hS2, hA2, hK2, hE2, hJ2⟩ hR2
  have hgs := hK2.size
  have hlen : (lo1 ++ pre).length ≤ 101 := by
   obtain ⟨rest, e1, _⟩ := hR2
   have h1 := HLN.out
   have h2 := congrArg List.length e1
   simp only [List.length_append, List.length_cons, List.length_nil] at h2 ⊢
   omega
  obtain ⟨i0, hi0, hz0, hz1, hz2⟩ := info_parts Tryz.infoSl
  obtain ⟨n2, hn2⟩ : ∃ n, n = (lo1 ++ pre).length := ⟨_, rfl⟩
  rw [← hn2] at hO2 hS2 hlen
  have hszb := hR2.choose_spec.2.2.2.lt
  have HN2 := zh hn2
  have HOB2 := zh hO2
  have HSB := zh hS2
  have HA2 := zh hA2
  have HKK := zh hK2
  have HEB := zh hE2
  have HJB := zh hJ2
  have HRB := zh hR2
  have co := hO2.cell 0
  have co1 : Wb.cell? ⟨ob, 0, none⟩ = some (.slice A2 n2 c2) := co
  clear co hO2 hS2 hA2 hK2 hE2 hJ2 hR2 hn2 HH
  gi_wp2_with (gi_at_builtin; refine wpListIn_sl_append rfl _ _ 38 38 rfl _ 41 i0 (.slice none 0 0) 1 24 Tryz.underlying38 hi0 hz0 hz1 hz2 rfl A2 n2 c2 _ rfl (HSB.out.next ((Below.refl _ Wb).alloc (Nat.le_refl _) _)) (.slice (some ⟨Wb.heap.size, 0, none⟩) 1 1) rfl 1 [x.val] (src_new Wb x.val rfl) (by omega) (by unfold maxLen; omega) (by omega) ?_; intro A3 c3 w6 hs6 hk6 ho6; have hE6 : KeepF (fun k => ∃ a, A2 = some a ∧ k = a.block) Wb w6 := ((KeepF.refl (w := Wb)).alloc _).trans hk6 (fun k _ h => h); have hc1 : w6.cell? ⟨ob, 0, none⟩ = some (.slice A2 n2 c2) := (hE6.cell (p := ⟨ob, 0, none⟩) HOB2.out.lt (by rintro ⟨a, ha, h⟩; have := (HA2.out a ha).1; simp only at h; omega)).trans co1; have hf1 : w6.frozen? ⟨ob, 0, none⟩ = false := (hE6.blk HOB2.out (by rintro ⟨a, ha, h⟩; have := (HA2.out a ha).1; omega)).frozen 0; have HS6 := zh hs6; have HE6 := zh hE6; have HO6 := zh ho6; clear hs6 hk6 ho6 hE6)
  have hk7 := keep_set w6 ob 0 (.slice A3 (n2 + 1) c3)
  have hE7 : KeepF (fun k => (∃ a, A2 = some a ∧ k = a.block) ∨ k = ob) Wb (w6.setCell ⟨ob, 0, none⟩ (.slice A3 (n2 + 1) c3)) := (HE6.out.mono (fun _ h => .inl h)).trans hk7 (fun k _ h => .inr h)
  have hA6 : ∀ a, A3 = some a → w2.heap.size ≤ a.block ∧ a.block ≠ bx ∧ ¬ R' a.block := fun a ha => by
   rcases HO6.out a ha with ⟨a', h1, h2⟩ | h2
   ·rw [h2]; exact HA2.out a' h1
   ·simp at h2; exact ⟨by omega, by omega, fun hr => by have := hwl7 _ hr; omega⟩
  have hn3 : (lo1 ++ (pre ++ [x])).length = n2 + 1 := by rw [← List.append_assoc, List.length_append, ← HN2.out]; rfl
  have hmp : (lo1 ++ (pre ++ [x])).map SE.val = (lo1 ++ pre).map SE.val ++ [x.val] := by rw [← List.append_assoc, List.map_append]; rfl
  refine ⟨hE7.from2 _ (fun k o hf hk => ?k1), ⟨A3, c3, ?k2, ?k3, hA6, ?k4, ?k7, ?k8⟩, fromR_keep HRB.out hE7 (fun k hf => ?k5) (fun hf => ?k6)⟩
  case k1 =>
   rcases hf with ⟨a, ha, rfl⟩ | rfl
   ·obtain ⟨cur, hcur⟩ := HSB.out.obj ha
    rw [hcur] at hk; cases hk; rfl
   ·rw [show Wb.heap[k]? = _ from HOB2.out] at hk; cases hk; rfl
  case k2 =>
   rw [hn3]
   exact (HE6.out.blk HOB2.out (by rintro ⟨a, ha, h⟩; have := (HA2.out a ha).1; omega)).set_ 0 _
  case k3 =>
   rw [hn3, hmp]
   exact HS6.out.keepF hk7 (fun a ha e => by have := (hA6 a ha).1; omega)
  case k4 =>
   exact HKK.out.trans hE7 (fun k hk h => by
    rcases h with ⟨a, ha, rfl⟩ | rfl
    ·have := (HA2.out a ha).1; omega
    ·omega)
  case k7 =>
   exact hE7.blk HEB.out (by
    rintro (⟨a, ha, h⟩ | h)
    ·have := (HA2.out a ha).1; omega
    ·omega)
  case k8 =>
   exact HJB.out.trans hE7 (fun k hk h => by
    rcases h with ⟨a, ha, rfl⟩ | rfl
    ·exact (HA2.out a ha).2.2
    ·exact HRO.out.1)
  case k5 =>
   rcases hf with ⟨a, ha, rfl⟩ | rfl
   ·have := (HA2.out a ha).1
    exact ⟨fun hw => by have := hwl.1 _ hw; omega, (HA2.out a ha).2.2⟩
   ·exact ⟨fun hw => by have := hwl.1 _ hw; omega, HRO.out.1⟩
  case k6 =>
   rcases hf with ⟨a, ha, h⟩ | h
   ·exact (HA2.out a ha).2.1 h.symm
   ·omega
 case done =>
  rintro D i xs Wd hD hxs ⟨A2, c2, hO2, hS2, hA2, hK2, hE2, hJ2⟩ hR hDK
  obtain ⟨rest, hre, hxm, hTd⟩ := fromR_end hR hxs HQ7.out.2
  have hro2 : 0 ≤ s7.deliver_.2.C.ro ∧ s7.deliver_.2.C.ro ≤ 1073741824 := by
   have : s7.deliver_.2.C = s.C := HC7.out
   rw [this]; exact HP.out.2.2.1
  have HTM := zh (rtimer_ok g s7.deliver_.2 W R' sb rest ub eb Wd hTd hro2)
  obtain ⟨n2, hn2⟩ : ∃ n, n = (lo1 ++ xs).length := ⟨_, rfl⟩
  rw [← hn2] at hO2 hS2
  have HN2 := zh hn2
  have HOB2 := zh hO2
  have HSB := zh hS2
  have HA2 := zh hA2
  have HKK := zh hK2
  have HEB := zh hE2
  have HJB := zh hJ2
  have HDK := zh hDK
  have HRE := zh (And.intro hre hxm)
  clear hO2 hS2 hA2 hK2 hR hTd hDK hn2 hro2 hre hxm HH hxs hE2 hJ2
  have hgo1 : ob ≠ g ∧ ob + 1 ≠ g := by omega
  go_wp2_with (go_at_call 40; refine (HTM.out).mono ?_; rintro e W6 ⟨rfl, hT6, hk6⟩; have co1 : W6.cell? ⟨ob, 0, none⟩ = some (.slice A2 n2 c2) := (hk6.blk HOB2.out hgo1.1).cell 0; have fo1 := (hk6.blk HOB2.out hgo1.1).frozen 0; have ce1 : W6.cell? ⟨ob + 1, 0, none⟩ = some (.int .i64 0) := (hk6.blk HEB.out hgo1.2).cell 0; have fe1 := (hk6.blk HEB.out hgo1.2).frozen 0; have HT6 := zh hT6; have HK6 := zh hk6; clear hT6 hk6)
  obtain ⟨Wa, hWa⟩ : ∃ X, X = W6.setCell ⟨ob, 0, none⟩ (.slice A2 n2 c2) := ⟨_, rfl⟩
  obtain ⟨Wb, hWb⟩ : ∃ X, X = Wa.setCell ⟨ob + 1, 0, none⟩ (.int .i64 0) := ⟨_, rfl⟩
  have ka : KeepF (fun k => k = ob) W6 Wa := by rw [hWa]; exact keep_set W6 ob 0 _
  have kb : KeepF (fun k => k = ob + 1) Wa Wb := by rw [hWb]; exact keep_set Wa (ob + 1) 0 _
  have oa : Blk Wa ob 38 #[.slice A2 n2 c2] := by rw [hWa]; exact (HK6.out.blk HOB2.out hgo1.1).set_ 0 _
  have eb1 : Blk Wb (ob + 1) 31 #[.int .i64 0] := by rw [hWb]; exact (ka.blk (HK6.out.blk HEB.out hgo1.2) (by omega)).set_ 0 _
  have ob1 := kb.blk oa (by omega)
  rw [← hWa, ← hWb]
  have kc := KeepF.of_putObj Wb D (.deferred none)
  have hDb : Wb.heap[D]? = some (.deferred (some [])) := kb.same (ka.same (HK6.out.same HDK.out (by omega)) (by omega)) (by omega)
  refine ⟨by simp, .inl ⟨_, _, rfl, run_takeDeferred hDb, ?_⟩⟩
  refine ⟨by simp, .inr ⟨fun h => (by cases h), _, _, 37, #[.pointer (some ⟨ob + 1, 0, none⟩)], rfl, by simp [go_sem], fun g _ => trivial, ?_⟩⟩
  refine (recv1_idle ⟨ob + 1, 0, none⟩ _).mono ?_
  rintro en u' w'' ⟨rfl, rfl, rfl⟩
  have y1 : (Wb.putObj D (.deferred none)).cell? ⟨ob, 0, none⟩ = some (.slice A2 n2 c2) := (kc.blk ob1 (by omega)).cell 0
  have y2 : (Wb.putObj D (.deferred none)).cell? ⟨ob + 1, 0, none⟩ = some (.int .i64 0) := (kc.blk eb1 (by omega)).cell 0
  have kall : KeepF (fun k => k = ob ∨ k = ob + 1 ∨ k = D) W6 (Wb.putObj D (.deferred none)) := ((ka.mono (fun _ h => .inl h)).trans kb (fun _ _ h => .inr (.inl h))).trans kc (fun _ _ h => .inr (.inr h))
  have hDR : ∀ k, (k = ob ∨ k = ob + 1 ∨ k = D) → ¬ W k ∧ ¬ R' k := fun k hk => by
   rcases hk with rfl | rfl | rfl
   ·exact ⟨HWO.out.1, HRO.out.1⟩
   ·exact ⟨HWO.out.2.1, HRO.out.2⟩
   ·exact ⟨fun hw => by have := hwl.1 _ hw; omega, fun hr => by have := hwl7 _ hr; omega⟩
  have hJ6 : KeepF (fun k => ¬ R' k) w7 (Wb.putObj D (.deferred none)) := (HJB.out.trans HK6.out (fun k _ e hr => by rw [e] at hr; exact HDS.out _ HWG.out.1 hr)).trans kall (fun k _ e hr => (hDR k e).2 hr)
  refine ⟨.tuple #[.slice A2 n2 c2, .int .i64 0], by simp [results, Tryz.results11, go_sem, y1, y2], ?_⟩
  refine ⟨R', rest, A2, c2, lo1 ++ xs, by rw [HX, HN2.out], ⟨?o1, ?o2⟩, ?o3, ?o4, ?o5, ?o6, HR7.out.2, ?o7⟩
  case o1 =>
   rw [← HN2.out]
   refine (HSB.out.keepF HK6.out (fun a ha e => by have := (HA2.out a ha).1; omega)).keepF kall (fun a ha e => ?_)
   have h1 := (HA2.out a ha).1
   rcases e with e | e | e
   ·omega
   ·omega
   ·obtain ⟨cur, hcur⟩ := HSB.out.obj ha
    rw [e, HDK.out] at hcur; cases hcur
  case o2 => exact fun a ha => by have := (HA2.out a ha).1; have := HZ4.out.2; omega
  case o3 => rw [HX, List.map_append, HRE.out.2, HM1.out.2.1]
  case o4 =>
   intro x hx
   rcases List.mem_append.1 hx with h | h
   ·exact (HP7.out x h).keep hJ6 (fun k hk hr => hk hr)
   ·exact (HQ7.out.1 x (by rw [HRE.out.1]; exact List.mem_append.2 (.inl h))).keep hJ6 (fun k hk hr => hk hr)
  case o5 =>
   rw [HX]
   exact HT6.out.keepF kall hDR
  case o6 =>
   intro k hr
   rcases HR7.out.1 k hr with h | h
   ·exact .inl h
   ·exact .inr (by have := HZ4.out.1; have := HZ4.out.2; omega)
  case o7 =>
   exact (HKK.out.trans HK6.out (fun k _ e => by rw [e]; exact HWG.out.1)).trans kall (fun k hk e => by omega)
end Go.Proofs.YtmdpiajhfohagaaGreat
namespace Go.Proofs.YtmdpiajhfohagaaGreat
open Go.RowKit
set_option linter.unusedVariables false
attribute [local go_sem ↓] Go.wp_at_zero Go.wp_at_succ
theorem Cfg.setCm_arr (c : Cfg) (x : Bool) : c.arr.setIfInBounds 35 (.bool x) = ({ c with cm := x } : Cfg).arr := by
 apply Array.ext_getElem?
 intro j
 rw [Array.getElem?_setIfInBounds, c.arr_size]
 by_cases hj : j < 39
 ·rw [({ c with cm := x } : Cfg).arr_at hj]
  by_cases e : 35 = j
  ·subst e; rw [if_pos rfl, if_pos (by omega)]; rfl
  ·rw [if_neg e, c.arr_at hj]
   unfold Cfg.cell
   by_cases h0 : j = 0
   ·simp [h0]
   by_cases h1 : j = 1
   ·simp [h1]
   by_cases h2 : j < 18
   ·simp [h0, h1, h2]
   by_cases h3 : j < 34
   ·simp [h0, h1, h2, h3]
   by_cases h4 : j = 34
   ·simp [h4]
   by_cases h5 : j = 35
   ·exact absurd h5.symm e
   by_cases h6 : j = 36
   ·simp [h6]
   by_cases h7 : j = 37
   ·simp [h7]
   ·simp [h0, h1, h2, h3, h4, h5, h6, h7]
 ·rw [if_neg (by omega), Array.getElem?_eq_none (by rw [c.arr_size]; omega), Array.getElem?_eq_none (by rw [Cfg.arr_size]; omega)]
theorem Cfg.setRo_arr (c : Cfg) (x : Int) : c.arr.setIfInBounds 38 (.int .i64 x) = ({ c with ro := x } : Cfg).arr := by
 apply Array.ext_getElem?
 intro j
 rw [Array.getElem?_setIfInBounds, c.arr_size]
 by_cases hj : j < 39
 ·rw [({ c with ro := x } : Cfg).arr_at hj]
  by_cases e : 38 = j
  ·subst e; rw [if_pos rfl, if_pos (by omega)]; rfl
  ·rw [if_neg e, c.arr_at hj]
   unfold Cfg.cell
   by_cases h0 : j = 0
   ·simp [h0]
   by_cases h1 : j = 1
   ·simp [h1]
   by_cases h2 : j < 18
   ·simp [h0, h1, h2]
   by_cases h3 : j < 34
   ·simp [h0, h1, h2, h3]
   by_cases h4 : j = 34
   ·simp [h4]
   by_cases h5 : j = 35
   ·simp [h5]
   by_cases h6 : j = 36
   ·simp [h6]
   by_cases h7 : j = 37
   ·simp [h7]
   ·exact absurd (by omega) e
 ·rw [if_neg (by omega), Array.getElem?_eq_none (by rw [c.arr_size]; omega), Array.getElem?_eq_none (by rw [Cfg.arr_size]; omega)]
def Cfg.noK (c : Cfg) : Cfg := { c with cm := false }
theorem Cfg.noK_arr (c : Cfg) : c.arr.setIfInBounds 35 (.bool false) = c.noK.arr := c.setCm_arr false
set_option maxRecDepth 100000 in
set_option maxHeartbeats 1600000 in
theorem plain46_ok (c : Cfg) (w : World) : Calls Tryz.prog 7 #[.agg c.arr] w fun e w' => e = .returned (.agg c.noK.arr) ∧ Below w.heap.size w w' := by
 have HP := zh c.noK_arr
 have HS : Hid ((Tryz.prog.info? 26).map (·.size) = some c.noK.arr.size) := zh (by rw [c.noK.arr_size]; exact infoPd)
 have HO := zh c.noK.arr_one
 have HZS : Hid (Cfg.zero.arr.size = c.noK.arr.size) := zh (by rw [Cfg.arr_size, Cfg.arr_size])
 have c35 := c.arr_at (j := 35) (by decide)
 obtain ⟨Z, hZ⟩ : ∃ Z, Z = c.arr := ⟨_, rfl⟩
 obtain ⟨Y, hY⟩ : ∃ Y, Y = c.noK.arr := ⟨_, rfl⟩
 rw [← hZ] at HP c35 ⊢
 rw [← hY] at HP HS HO HZS ⊢
 have HC35 := zh c35
 have HU := zh Tryz.underlying26
 clear hZ hY c35
 go_enter Tryz.func7, Tryz.ntmps7
 go_upto_region 1 with (fail)
 obtain ⟨g, hg⟩ : ∃ g, g = w.heap.size := ⟨_, rfl⟩
 refine wp_let (fun W => Blk W g 26 Z ∧ Blk W (g + 1) 26 Cfg.zero.arr ∧ Below w.heap.size w W) ⟨by rw [hg]; exact (Blk.new _ _ _).alloc _, by rw [cf0_lit, hg]; exact blk_atZ _ _ _ _ (by simp), ((Below.refl _ w).alloc (Nat.le_refl _) _).alloc (by simp) _⟩ ?_
 rintro W1 ⟨b1, b2, b3⟩
 have B1 := zh b1
 have B2 := zh b2
 have B3 := zh b3
 have HG := zh hg
 rw [← hg]
 have c35 : W1.cell? ⟨g, 35, none⟩ = some (c.cell 35) := (b1.cell 35).trans HC35.out
 have f35 := b1.frozen 35
 clear b1 b2 b3 hg
 go_upto_region 2 with (fail)
 refine wp_let (fun W => Blk W g 26 Y ∧ Blk W (g + 1) 26 Cfg.zero.arr ∧ Below w.heap.size w W) ⟨by rw [← HP.out]; exact B1.out.set_ 35 _, B2.out.far (p := ⟨g, 35, none⟩) (by show ¬ g + 1 = g; omega) _, B3.out.setCell (p := ⟨g, 35, none⟩) (by rw [HG.out]; exact Nat.le_refl _) _⟩ ?_
 rintro W2 ⟨b1, b2, b3⟩
 have D1 := zh b1
 have D2 := zh b2
 have D3 := zh b3
 clear b1 b2 b3 c35 f35
 go_wp2_with (first
  | (refine wpList_load_row rfl _ _ rfl g rfl 26 Y (0, 0) _ D1.out HU.out rfl HS.out ?_)
  | (refine wpList_store_row rfl _ _ _ rfl (g + 1) Y rfl rfl 26 _ D2.out HS.out HZS.out HO.out ?_))
 refine bodyPost_ret (v := .agg Y) (results_cell_row (g := g + 1) (t := 26) (fr := (0, 0)) Tryz.results7 _ _ Y _ rfl (setRow_heap _ _ _ Y 26 (0, 0) D2.out) HU.out rfl HS.out) rfl ⟨rfl, ?_⟩
 exact belowRow D3.out (by rw [HG.out]; omega) _
end Go.Proofs.YtmdpiajhfohagaaGreat
namespace Go.Proofs.YtmdpiajhfohagaaGreat
open Go.RowKit
set_option linter.unusedVariables false
set_option linter.unusedSimpArgs false
end Go.Proofs.YtmdpiajhfohagaaGreat
namespace Go.Proofs.YtmdpiajhfohagaaGreat
open Go.RowKit
set_option linter.unusedVariables false
set_option linter.unusedSimpArgs false
section
variable (P : Nat → SV)
def runL (S : Nat → Bool) : Nat → Nat → Nat
 | _, 0 => 0
 | a, m + 1 => if S a = true then 1 + runL S (a + 1) m else 0
def lst (S : Nat → Bool) (a m : Nat) : List SV := ((List.range' a m).filter S).map P
variable {P}
theorem lst_ge (hP : ∀ k, (P k).ct = (k : Int)) {S : Nat → Bool} {a m : Nat} {e : SV} (h : e ∈ lst P S a m) : ∃ j, a ≤ j ∧ j < a + m ∧ S j = true ∧ e = P j := by
 obtain ⟨j, hj, rfl⟩ := List.mem_map.1 h
 obtain ⟨h1, h2⟩ := List.mem_filter.1 hj
 rw [List.mem_range'_1] at h1
 exact ⟨j, h1.1, h1.2, h2, rfl⟩
theorem runL_le (S : Nat → Bool) : ∀ m a, runL S a m ≤ m
 | 0, _ => Nat.le_refl _
 | m + 1, a => by
  unfold runL
  split
  ·have := runL_le S m (a + 1); omega
  ·omega
theorem runL_in (S : Nat → Bool) : ∀ m a j, j < runL S a m → S (a + j) = true
 | 0, _, j, h => by cases h
 | m + 1, a, j, h => by
  unfold runL at h
  split at h
  ·rename_i hs
   cases j with
   | zero => exact hs
   | succ j =>
    have := runL_in S m (a + 1) j (by omega)
    rwa [show a + (j + 1) = a + 1 + j by omega]
  ·cases h
theorem runL_end (S : Nat → Bool) : ∀ m a, runL S a m < m → S (a + runL S a m) = false
 | 0, _, h => by cases h
 | m + 1, a, h => by
  unfold runL at h ⊢
  by_cases hs : S a = true
  ·rw [if_pos hs] at h ⊢
   have := runL_end S m (a + 1) (by omega)
   rwa [show a + (1 + runL S (a + 1) m) = a + 1 + runL S (a + 1) m by omega]
  ·rw [if_neg hs]
   simpa using hs
theorem fromL_no {L : List SV} {d : Int} (h : ∀ e, e ∈ L → e.ct ≠ d) : fromL L d = ([], L, d) := by
 cases L with
 | nil => rfl
 | cons e r => exact from_ne e r d (h e (by simp))
theorem fromL_run (hP : ∀ k, (P k).ct = (k : Int)) (S : Nat → Bool) : ∀ m a, fromL (lst P S a m) (a : Int) = ((List.range' a (runL S a m)).map P, lst P S (a + runL S a m) (m - runL S a m), ((a + runL S a m : Nat) : Int))
 | 0, a => rfl
 | m + 1, a => by
  by_cases hs : S a = true
  ·have hl : lst P S a (m + 1) = P a :: lst P S (a + 1) m := by
    unfold lst
    rw [List.range'_succ, List.filter_cons, if_pos hs]
    rfl
   have ih := fromL_run hP S m (a + 1)
   have hr : runL S a (m + 1) = 1 + runL S (a + 1) m := by
    show (if S a = true then _ else _) = _
    rw [if_pos hs]
   rw [hl, from_eq (P a) _ (a : Int) (hP a), hr, show (a : Int) + 1 = ((a + 1 : Nat) : Int) by omega, ih]
   rw [show 1 + runL S (a + 1) m = runL S (a + 1) m + 1 by omega, List.range'_succ, List.map_cons, show a + (runL S (a + 1) m + 1) = a + 1 + runL S (a + 1) m by omega, show m + 1 - (runL S (a + 1) m + 1) = m - runL S (a + 1) m by omega]
  ·have hr : runL S a (m + 1) = 0 := by
    show (if S a = true then _ else _) = _
    rw [if_neg hs]
   rw [hr]
   refine fromL_no (fun e he h => ?_)
   obtain ⟨j, h1, h2, h3, rfl⟩ := lst_ge hP he
   rw [hP] at h
   have : j = a := by omega
   rw [this] at h3
   exact hs h3
theorem insV_all {x : SV} {l : List SV} (h : ∀ y, y ∈ l → x.ct < y.ct) : insV x l = x :: l := by
 cases l with
 | nil => rfl
 | cons y r => exact ins_lt x y r (h y (by simp))
theorem insV_lst (hP : ∀ k, (P k).ct = (k : Int)) (S : Nat → Bool) (k : Nat) (hk : S k = false) : ∀ m a, a ≤ k → k < a + m → insV (P k) (lst P S a m) = lst P (fun j => S j || decide (j = k)) a m
 | 0, a, h1, h2 => by omega
 | m + 1, a, h1, h2 => by
  unfold lst
  rw [List.range'_succ, List.filter_cons, List.filter_cons]
  by_cases e : a = k
  ·subst e
   rw [if_neg (by rw [hk]; decide), if_pos (by simp), List.map_cons]
   have h3 : (List.range' (a + 1) m).filter (fun j => S j || decide (j = a)) = (List.range' (a + 1) m).filter S := List.filter_congr (fun j hj => by
    rw [List.mem_range'_1] at hj
    have : ¬ j = a := by omega
    simp [this])
   rw [h3]
   refine insV_all (fun y hy => ?_)
   obtain ⟨j, h4, _, _, rfl⟩ := lst_ge (m := m) (a := a + 1) hP hy
   rw [hP, hP]
   omega
  ·have ih := insV_lst hP S k hk m (a + 1) (by omega) (by omega)
   unfold lst at ih
   by_cases hs : S a = true
   ·rw [if_pos hs, if_pos (by simp [hs]), List.map_cons, List.map_cons, ← ih]
    show (if (P k).ct < (P a).ct then _ else _) = _
    rw [if_neg (by rw [hP, hP]; omega)]
   ·rw [if_neg hs, if_neg (by simp [hs, e]), ih]
end
structure BS (cf : Cfg) (P : Nat → SV) (N : Nat) (S : Nat → Bool) (d : Nat) (s : RS) : Prop where
 C : s.C = cf
 run : s.run = false
 deliver : s.deliver = (d : Int)
 le : d ≤ N
 L : s.L = lst P S d (N - d)
 pre : ∀ k, k < d → S k = true
 gap : d < N → S d = false
 next : s.next ≤ (N : Int)
theorem bs_new (cf : Cfg) (X : Obj) (P : Nat → SV) (N : Nat) : BS cf P N (fun _ => false) 0 (rnewS cf X) :=
 ⟨rfl, rfl, rfl, Nat.zero_le _, by
  unfold lst
  rw [List.filter_eq_nil_iff.2 (fun a _ => (by simp))]
  rfl, fun k h => (by cases h), fun _ => rfl, (by show (0 : Int) ≤ _; omega)⟩
theorem bs_step {cf : Cfg} (hok : cf.Ok) (hro : cf.ro = 0) {N : Nat} (hN : N ≤ 1000) {pn : Nat → Nat} {z : Nat → Nat → Nat} (h1 : ∀ k, k < N → 1 ≤ pn k ∧ pn k ≤ 9000) (hz : ∀ k, k < N → ∀ j, j < pn k → z k j < 256) {S : Nat → Bool} {d : Nat} {s : RS} (h : BS cf (fun k => svP cf k (pn k) (z k)) N S d s) (k : Nat) (hk : k < N) :
  ∃ d' s', d ≤ d' ∧ s.receive 0 (pduN cf (pn k)) (pduZ cf k (pn k) (z k)) = ((List.range' d (d' - d)).map (fun k => svP cf k (pn k) (z k)), 0, s') ∧ BS cf (fun k => svP cf k (pn k) (z k)) N (fun j => S j || decide (j = k)) d' s' ∧ s'.dup ≤ s.dup + 1 := by
 have hP : ∀ k, (svP cf k (pn k) (z k)).ct = (k : Int) := fun k => rfl
 have hC := h.C
 have hc : cntOf s.deliver ((k % 4096 : Nat) : Int) = some (k : Int) := by
  rw [h.deliver]
  exact cnt_small (by omega) (by have := h.le; omega) (by omega)
 by_cases hs : S k = true
 ·have hS : (fun j => S j || decide (j = k)) = S := by
   funext j
   by_cases e : j = k
   ·subst e; simp [hs]
   ·simp [e]
  have hst : stored s.L (k : Int) = true ∨ (k : Int) < s.deliver := by
   by_cases hkd : k < d
   ·right; rw [h.deliver]; omega
   ·left
    rw [h.L]
    unfold stored
    rw [List.any_eq_true]
    refine ⟨_, List.mem_map.2 ⟨k, List.mem_filter.2 ⟨?_, hs⟩, rfl⟩, by simp [svP]⟩
    rw [List.mem_range'_1]
    have := h.le
    omega
  have hr := receive_dupI (s := s) (t := 0) (by omega) h.run (by rw [hC]; exact hok) k (pn k) (z k) (h1 k hk).1 (h1 k hk).2 (hz k hk) hc hst
  rw [hC] at hr
  refine ⟨d, { s.at_ 0 with dup := s.dup + 1 }, Nat.le_refl _, ?_, ?_, Int.le_refl _⟩
  ·rw [hr, Nat.sub_self]; rfl
  ·rw [hS]
   exact ⟨h.C, h.run, h.deliver, h.le, h.L, h.pre, h.gap, h.next⟩
 ·have hs' : S k = false := by simpa using hs
  have hdk : d ≤ k := Nat.le_of_not_lt (fun hlt => hs (h.pre k hlt))
  have hst : ¬ (stored s.L (k : Int) = true ∨ (k : Int) < s.deliver) := by
   rintro (hh | hh)
   ·refine stored_no s.L (k : Int) (fun e he => ?_) hh
    rw [h.L] at he
    obtain ⟨j, _, _, h3, rfl⟩ := lst_ge hP he
    intro e2
    rw [hP] at e2
    have : j = k := by omega
    rw [this] at h3
    exact hs h3
   ·rw [h.deliver] at hh; omega
  obtain ⟨S', hS'⟩ : ∃ S' : Nat → Bool, S' = fun j => S j || decide (j = k) := ⟨_, rfl⟩
  have hL' : insV (svP s.C k (pn k) (z k)) s.L = lst (fun k => svP cf k (pn k) (z k)) S' d (N - d) := by
   rw [hC, h.L, hS']
   exact insV_lst (P := fun k => svP cf k (pn k) (z k)) hP S k hs' (N - d) d hdk (by omega)
  have hr := receive_newI (s := s) (t := 0) (by omega) h.run (by rw [hC]; exact hok) k (pn k) (z k) (h1 k hk).1 (h1 k hk).2 (hz k hk) hc hst _ rfl
  rw [hC] at hr
  rw [← hC, hL'] at hr
  rw [hC] at hr
  have hf := fromL_run (P := fun k => svP cf k (pn k) (z k)) hP S' (N - d) d
  have hrl := runL_le S' (N - d) d
  have hdl : ({ s.at_ 0 with L := lst (fun k => svP cf k (pn k) (z k)) S' d (N - d), next := max s.next ((k : Int) + 1) } : RS).deliver_ = ((List.range' d (runL S' d (N - d))).map (fun k => svP cf k (pn k) (z k)), { s.at_ 0 with L := lst (fun k => svP cf k (pn k) (z k)) S' (d + runL S' d (N - d)) (N - d - runL S' d (N - d)), next := max s.next ((k : Int) + 1), deliver := ((d + runL S' d (N - d) : Nat) : Int) }) := by
   unfold RS.deliver_
   show ((fromL (lst (fun k => svP cf k (pn k) (z k)) S' d (N - d)) s.deliver).1, _) = _
   rw [show ({ s.at_ 0 with L := lst (fun k => svP cf k (pn k) (z k)) S' d (N - d), next := max s.next ((k : Int) + 1) } : RS).deliver = s.deliver from rfl, h.deliver, hf]
  rw [hdl] at hr
  simp only at hr
  rw [still_ro (s := { s.at_ 0 with L := lst (fun k => svP cf k (pn k) (z k)) S' (d + runL S' d (N - d)) (N - d - runL S' d (N - d)), next := max s.next ((k : Int) + 1), deliver := ((d + runL S' d (N - d) : Nat) : Int) }) h.run (by show s.C.ro = 0; rw [hC]; exact hro)] at hr
  refine ⟨d + runL S' d (N - d), _, Nat.le_add_right _ _, by rw [hr, show d + runL S' d (N - d) - d = runL S' d (N - d) by omega], ?_, by show s.dup ≤ s.dup + 1; omega⟩
  have hle := h.le
  rw [← hS']
  refine ⟨h.C, h.run, rfl, by omega, by rw [show N - (d + runL S' d (N - d)) = N - d - runL S' d (N - d) by omega], fun j hj => ?_, fun hlt => ?_, ?_⟩
  ·by_cases hjd : j < d
   ·rw [hS']
    simp [h.pre j hjd]
   ·have := runL_in S' (N - d) d (j - d) (by omega)
    rwa [show d + (j - d) = j by omega] at this
  ·exact runL_end S' (N - d) d (by omega)
  ·have := h.next
   show max s.next ((k : Int) + 1) ≤ (N : Int)
   omega
theorem bs_all {cf : Cfg} {P : Nat → SV} {N : Nat} {S : Nat → Bool} {d : Nat} {s : RS} (h : BS cf P N S d s) (ha : ∀ k, k < N → S k = true) : d = N := by
 by_cases hlt : d < N
 ·have h1 := h.gap hlt
  rw [ha d hlt] at h1
  cases h1
 ·have := h.le; omega
end Go.Proofs.YtmdpiajhfohagaaGreat
namespace Go.Proofs.YtmdpiajhfohagaaGreat
open Go.RowKit
set_option linter.unusedVariables false
set_option linter.unusedSimpArgs false
attribute [local go_sem ↓] Go.wp_at_zero Go.wp_at_succ
theorem Cfg.setDs_arr (c : Cfg) (x : Int) : c.arr.setIfInBounds 37 (.int .i64 x) = ({ c with ds := x } : Cfg).arr := by
 apply Array.ext_getElem?
 intro j
 rw [Array.getElem?_setIfInBounds, c.arr_size]
 by_cases hj : j < 39
 ·rw [({ c with ds := x } : Cfg).arr_at hj]
  by_cases e : 37 = j
  ·subst e; rw [if_pos rfl, if_pos (by omega)]; rfl
  ·rw [if_neg e, c.arr_at hj]
   unfold Cfg.cell
   by_cases h0 : j = 0
   ·simp [h0]
   by_cases h1 : j = 1
   ·simp [h1]
   by_cases h2 : j < 18
   ·simp [h0, h1, h2]
   by_cases h3 : j < 34
   ·simp [h0, h1, h2, h3]
   by_cases h4 : j = 34
   ·simp [h4]
   by_cases h5 : j = 35
   ·simp [h5]
   by_cases h6 : j = 36
   ·simp [h6]
   by_cases h7 : j = 37
   ·exact absurd h7.symm e
   ·simp [h0, h1, h2, h3, h4, h5, h6, h7]
 ·rw [if_neg (by omega), Array.getElem?_eq_none (by rw [c.arr_size]; omega), Array.getElem?_eq_none (by rw [Cfg.arr_size]; omega)]
structure SendS (cf : Cfg) (k : Nat) (s : TS) : Prop where
 C : s.C = cf
 now : s.now = 0
 Q : s.Q = []
 next : s.next = (k : Int)
 P : ∀ p, p ∈ s.P → p.rep = false ∧ 0 ≤ p.ct ∧ p.ct < (k : Int)
 len : s.P.length ≤ k
 fine : s.Fine
theorem sendS_new {cf : Cfg} (hok : cf.Ok) (hv : cf.Valid) : SendS cf 0 (newS cf) := ⟨rfl, rfl, rfl, rfl, fun p hp => (by cases hp), Nat.le_refl _, newS_fine hok hv⟩
structure SubS (cf : Cfg) (k n : Nat) (z : Nat → Int) (s : TS) : Prop where
 C : s.C = cf
 now : s.now = 0
 Q : s.Q = [⟨n, z, 0⟩]
 next : s.next = (k : Int)
 P : ∀ p, p ∈ s.P → p.rep = false ∧ 0 ≤ p.ct ∧ p.ct < (k : Int)
 len : s.P.length ≤ k
 fine : s.Fine
theorem SendS.sub {cf : Cfg} {k : Nat} {s : TS} (h : SendS cf k s) (hd : cf.ds = 0) {n : Nat} (h1 : 1 ≤ n) (h9 : n ≤ 9000) (z : Nat → Int) : ∃ s', s.submit 0 n z = (0, s') ∧ SubS cf k n z s' := by
 have hf := h.fine.submit (by rw [h.now]; exact Int.le_refl _) 0 n z
 have e : s.submit 0 n z = (0, { s with now := max s.now 0, Q := s.Q ++ [⟨n, z, max s.now 0⟩] }) := by
  unfold TS.submit
  rw [if_neg (by decide), if_neg (by omega), if_neg (by omega), TS.tick_zero (by rw [h.C]; exact hd)]
 rw [e] at hf
 have h0 : max s.now 0 = 0 := by rw [h.now]; rfl
 exact ⟨_, e, h.C, h0, by show s.Q ++ _ = _; rw [h.Q, h0]; rfl, h.next, h.P, h.len, hf⟩
theorem firstRep_nil : ∀ {l : List PV}, (∀ e, e ∈ l → e.rep = false) → firstRep l = none
 | [], _ => rfl
 | p :: r, h => by
  unfold firstRep
  rw [if_neg (by rw [h p (by simp)]; decide), firstRep_nil (fun e he => h e (by simp [he]))]
  rfl
theorem SubS.send {cf : Cfg} {k n : Nat} {z : Nat → Int} {s : TS} (h : SubS cf k n z s) (hd : cf.ds = 0) (hk : k ≤ 1000) : ∃ s', s.send 0 = ⟨pduN cf n, pduZ cf k n (nf z), k, 0, s'⟩ ∧ SendS cf (k + 1) s' := by
 have hf := h.fine.send 0
 have hr : firstRep s.P = none := firstRep_nil (fun e he => (h.P e he).1)
 have hfu : s.full = false := by
  unfold TS.full
  cases hP : s.P with
  | nil => rfl
  | cons p r =>
   have hp := h.P p (by rw [hP]; simp)
   have hn := h.next
   show decide (2048 ≤ (s.next - p.ct) % 18446744073709551616) = false
   rw [hn]
   exact decide_eq_false (by omega)
 have e : s.send 0 = ⟨pduN s.C n, pduZ s.C s.next.toNat n (nf z), s.next, 0, { s with now := max s.now 0, Q := [], next := s.next + 1, P := if s.C.ac = true then s.P ++ [⟨s.next, n, z, false⟩] else s.P }⟩ := by
  unfold TS.send
  rw [if_neg (by decide), hr, TS.tick_zero (by rw [h.C]; exact hd)]
  simp only [h.Q]
  rw [if_neg (by rw [h.next]; omega), hfu]
  rfl
 rw [e] at hf
 have h0 : max s.now 0 = 0 := by rw [h.now]; rfl
 refine ⟨{ s with now := max s.now 0, Q := [], next := s.next + 1, P := if s.C.ac = true then s.P ++ [⟨s.next, n, z, false⟩] else s.P }, ?_, h.C, h0, rfl, by show s.next + 1 = _; rw [h.next]; omega, fun p hp => ?_, ?_, hf⟩
 ·rw [e, h.C, h.next]
  rfl
 ·have hp' : p ∈ (if s.C.ac = true then s.P ++ [⟨s.next, n, z, false⟩] else s.P) := hp
  have hold : p ∈ s.P → p.rep = false ∧ 0 ≤ p.ct ∧ p.ct < ((k + 1 : Nat) : Int) := fun hq => ⟨(h.P p hq).1, (h.P p hq).2.1, by have := (h.P p hq).2.2; omega⟩
  by_cases ha : s.C.ac = true
  ·rw [if_pos ha] at hp'
   rcases List.mem_append.1 hp' with hq | hq
   ·exact hold hq
   ·rw [List.mem_singleton.1 hq]
    refine ⟨rfl, ?_, ?_⟩
    ·show 0 ≤ s.next
     rw [h.next]; omega
    ·show s.next < _
     rw [h.next]; omega
  ·rw [if_neg ha] at hp'
   exact hold hp'
 ·show (if s.C.ac = true then s.P ++ [⟨s.next, n, z, false⟩] else s.P).length ≤ k + 1
  have := h.len
  split
  ·rw [List.length_append]; simp; omega
  ·omega
section
variable {P : Program}
theorem SL.src1 {w : World} {e tx e' : TypeId} (hk : P.underlying tx = some (.slice e')) {A : Option Addr} {n c : Nat} {xs : List Value} (h : SL w e 1 A n c xs) (h1 : ∀ u, u ∈ xs → u.oneCell' = true) : Src P 1 tx (.slice A n c) n xs w := by
 have hl := h.len
 rcases h.at_ with ⟨rfl, rfl, rfl⟩ | ⟨b, o, cur, rfl, h2, h3, h4, h5, h6⟩
 ·have : xs = [] := List.eq_nil_of_length_eq_zero (by rw [hl])
  subst this
  exact Src.ofNil w hk 0
 ·refine Src.ofSlice w hk ⟨b, o, none⟩ n c xs hl (fun j u hu => ?_) h1
  have hj : j < n * 1 := by have := (List.getElem?_eq_some_iff.1 hu).1; rwa [hl] at this
  rw [Addr.add_lit]
  exact (h.cell rfl hj).trans hu
theorem sl_append0 (w : World) (t tx ty e : TypeId) (i : TypeInfo) (ht : P.underlying t = some (.slice e)) (hi : P.info? e = some i) {A : Option Addr} {n c : Nat} {xs : List Value} (h : SL w e i.size A n c xs) (x : Value) (hs : Src P i.size tx x 0 [] w) :
  (Builtin.append_ #[t, tx] ty #[.slice A n c, x]).run P w = .ok (.slice A n c) w := by
 have hroom : n + 0 ≤ c := by have := h.le; omega
 cases A with
 | some a =>
  rcases h.at_ with ⟨h1, _⟩ | ⟨b, o, cur, h1, _⟩
  ·cases h1
  ·cases h1
   exact run_append_room_src (P := P) w t tx ty e i ht hi b o n c x 0 [] hs hroom (fun j hj => (by cases hj)) (fun j hj => (by cases hj))
 | none =>
  rcases hs.kind with ⟨e', hk⟩ | hk <;> simp [Builtin.append_, run_underlying ht, run_underlying hk, sizeOf, typeInfo, hi, hs.len, show n ≤ c from hroom, hs.cells]
theorem sl_appendA (w : World) (t tx ty e : TypeId) (i : TypeInfo) (z : Value) (sz bytes : Nat) (ht : P.underlying t = some (.slice e)) (hi : P.info? e = some i) (hz : i.zero = some z) (hsize : i.size = sz) (hby : i.bytes = bytes) (hzs : z.cells.size = sz)
  {A : Option Addr} {n c : Nat} {xs : List Value} (h : SL w e sz A n c xs) (x : Value) (m : Nat) (news : List Value) (hs : Src P sz tx x m news w) (h63 : n + m ≤ maxLen) (hbytes : (n + m) * bytes ≤ 140737488355328) :
  ∃ A' c' w', (Builtin.append_ #[t, tx] ty #[.slice A n c, x]).run P w = .ok (.slice A' (n + m) c') w' ∧ SL w' e sz A' (n + m) c' (xs ++ news) ∧ KeepF (fun k => ∃ a, A = some a ∧ k = a.block) w w' ∧ (∀ a, A' = some a → (∃ a', A = some a' ∧ a.block = a'.block) ∨ w.heap.size ≤ a.block) := by
 cases m with
 | succ m => exact sl_append w t tx ty e i z sz bytes ht hi hz hsize hby hzs h x (m + 1) news hs (by omega) h63 hbytes
 | zero =>
  have : news = [] := List.eq_nil_of_length_eq_zero (by rw [hs.newsLen, Nat.zero_mul])
  subst this
  subst hsize
  refine ⟨A, c, w, sl_append0 w t tx ty e i ht hi h x hs, by rw [List.append_nil]; exact h, KeepF.refl, fun a ha => .inl ⟨a, ha, rfl⟩⟩
theorem wpList_sl_appendA {ops : Array Oper} {rest : List Oper} {o : Oper} {a : Act} {Q : Exit → Act → World → Prop} (hgd : o.guard = none) (s x : Operand) (t tx : TypeId) (ho : o.op = .call { callee := .builtin .append, args := #[s, x], argTypes := #[t, tx] })
  (w : World) (e : TypeId) (i : TypeInfo) (z : Value) (sz bytes : Nat) (ht : P.underlying t = some (.slice e)) (hi : P.info? e = some i) (hz : i.zero = some z) (hsize : i.size = sz) (hby : i.bytes = bytes) (hzs : z.cells.size = sz)
  (A : Option Addr) (n c : Nat) (xs : List Value) (hsv : a.eval s = .slice A n c) (h : SL w e sz A n c xs) (xv : Value) (hxv : a.eval x = xv) (m : Nat) (news : List Value) (hs : Src P sz tx xv m news w) (h63 : n + m ≤ maxLen) (hbytes : (n + m) * bytes ≤ 140737488355328)
  (hK : ∀ A' c' w', SL w' e sz A' (n + m) c' (xs ++ news) → KeepF (fun k => ∃ a, A = some a ∧ k = a.block) w w' → (∀ a, A' = some a → (∃ a', A = some a' ∧ a.block = a'.block) ∨ w.heap.size ≤ a.block) → wpList P ops Q rest (a.put o.dst (.slice A' (n + m) c')) w') : wpList P ops Q (o :: rest) a w :=
 wpList_plain hgd fun K hK' => by
  obtain ⟨A', c', w', hrun, h1, h2, h3⟩ := sl_appendA w t tx o.type e i z sz bytes ht hi hz hsize hby hzs h xv m news hs h63 hbytes
  unfold Oper.wp execOp
  simp only [ho, resolve, invoke, builtin, Sem.run_bind, Sem.run_pure, Result.andThen_ok, List.map_toArray, List.map_cons, List.map_nil, hsv, hxv, hrun]
  exact hK' _ _ (hK A' c' w' h1 h2 h3)
end
structure LL (V : World) (B : Nat) (A : Option Addr) (c : Nat) (vs : List SV) (R : Nat → Prop) : Prop where
 ex : ∃ lo : List SE, lo.map (·.v) = vs ∧ SL V 41 1 A vs.length c (lo.map SE.val) ∧ ∀ x, x ∈ lo → Pkt V R x.A x.v.n x.c x.v.z
 blk : ∀ a, A = some a → B ≤ a.block ∧ ¬ R a.block
section
variable {V V' : World} {B : Nat} {A A' : Option Addr} {c c' : Nat} {vs : List SV} {R R' F : Nat → Prop}
theorem LL.nil (V : World) (B : Nat) (R : Nat → Prop) : LL V B none 0 [] R := ⟨⟨[], rfl, SL.nil _ _ _, fun x hx => (by cases hx)⟩, fun a ha => (by cases ha)⟩
theorem LL.keep (h : LL V B A c vs R) (hk : KeepF F V V') (h1 : ∀ k, F k → ¬ R k) (h2 : ∀ a, A = some a → ¬ F a.block) : LL V' B A c vs R := by
 obtain ⟨⟨lo, e1, e2, e3⟩, hb⟩ := h
 exact ⟨⟨lo, e1, e2.keepF hk h2, fun x hx => (e3 x hx).keep hk h1⟩, hb⟩
theorem LL.below (h : LL V B A c vs R) (hb : Below V.heap.size V V') : LL V' B A c vs R := by
 refine h.keep (KeepF.of_below (F := fun _ => False) hb) (fun k hk => hk.elim) (fun a ha hk => hk.elim)
theorem LL.lt (h : LL V B A c vs R) {a : Addr} (ha : A = some a) : a.block < V.heap.size := by
 obtain ⟨⟨lo, e1, e2, e3⟩, hb⟩ := h
 exact e2.lt ha
theorem LL.more (h : LL V B A c vs R) (h1 : ∀ k, R k → R' k) (h2 : ∀ a, A = some a → ¬ R' a.block) : LL V B A c vs R' := by
 obtain ⟨⟨lo, e1, e2, e3⟩, hb⟩ := h
 exact ⟨⟨lo, e1, e2, fun x hx => ⟨(e3 x hx).pos, (e3 x hx).max, (e3 x hx).cap, (e3 x hx).byte, (e3 x hx).row, fun a ha => h1 _ ((e3 x hx).ro a ha)⟩⟩, fun a ha => ⟨(hb a ha).1, h2 a ha⟩⟩
theorem LL.at_ (h : LL V B A c vs R) {k : Nat} {v : SV} (hv : vs[k]? = some v) : ∃ (b o : Nat) (x : Option Addr × Nat), A = some ⟨b, o, none⟩ ∧ b < V.heap.size ∧ V.cell? ⟨b, o + k, none⟩ = some (.slice x.1 v.n x.2) ∧ Pkt V R x.1 v.n x.2 v.z := by
 obtain ⟨⟨lo, e1, e2, e3⟩, hb⟩ := h
 have hk : k < vs.length := (List.getElem?_eq_some_iff.1 hv).1
 obtain ⟨b, o, hA, hlt⟩ := e2.some_ (by omega)
 have hl : lo.length = vs.length := by rw [← e1, List.length_map]
 have hx : lo[k]? = some lo[k] := List.getElem?_eq_getElem (by omega)
 have hvv : lo[k].v = v := by
  have : (lo.map (·.v))[k]? = some lo[k].v := by rw [List.getElem?_map, hx]; rfl
  rw [e1, hv] at this
  exact (Option.some.inj this).symm
 have hc := e2.cell hA (j := k) (by omega)
 rw [List.getElem?_map, hx] at hc
 have hp := e3 lo[k] (List.getElem_mem (by omega))
 rw [hvv] at hp
 exact ⟨b, o, (lo[k].A, lo[k].c), hA, hlt, by rw [hc, ← hvv]; rfl, hp⟩
theorem LL.push (h : LL V B A c vs R) (hR : ∀ k, R k → k < V.heap.size) (hB : B ≤ V.heap.size) {lo ls : List SE} (e1 : lo.map (·.v) = vs) (e3 : ∀ x, x ∈ lo → Pkt V R x.A x.v.n x.c x.v.z) (hl : ∀ x, x ∈ ls → Pkt V R x.A x.v.n x.c x.v.z)
  (hs : SL V' 41 1 A' (vs.length + ls.length) c' (lo.map SE.val ++ ls.map SE.val)) (hk : KeepF (fun k => ∃ a, A = some a ∧ k = a.block) V V') (ha : ∀ a, A' = some a → (∃ a', A = some a' ∧ a.block = a'.block) ∨ V.heap.size ≤ a.block) : LL V' B A' c' (vs ++ ls.map (·.v)) R := by
 refine ⟨⟨lo ++ ls, by rw [List.map_append, e1], by rw [List.length_append, List.length_map, List.map_append]; exact hs, fun x hx => ?_⟩, fun a e => ?_⟩
 ·have hf : ∀ k, (∃ a, A = some a ∧ k = a.block) → ¬ R k := fun k ⟨a, e, hk⟩ => by rw [hk]; exact (h.blk a e).2
  rcases List.mem_append.1 hx with hx | hx
  ·exact (e3 x hx).keep hk hf
  ·exact (hl x hx).keep hk hf
 ·rcases ha a e with ⟨a', e', hb⟩ | hb
  ·rw [hb]; exact h.blk a' e'
  ·exact ⟨Nat.le_trans hB hb, fun hr => by have := hR _ hr; omega⟩
end
set_option maxRecDepth 100000 in
theorem rstat_full (g : Nat) (s : RS) (W R : Nat → Prop) (sb : Nat) (l : List SE) (ub eb : Nat) (w : World) (h : RxM w g s W R sb l ub eb) (hn : s.next ≤ s.deliver + 1) :
  Calls Tryz.prog 18 #[.pointer (some ⟨g, 0, none⟩)] w fun e w' => e = .returned (.tuple #[.int .u64 s.deliver, .slice none 0 0]) ∧ Below w.heap.size w w' := by
 have HMD := zh (rxmade_ok g w h.made)
 have cd := h.cdeliver
 have cx := h.cnext
 have d0 := h.ok.deliver.1
 have d1 : s.deliver ≤ 4294967296 := by have := h.ok.deliver.2; have := h.ok.next; omega
 clear h
 obtain ⟨d, hd⟩ : ∃ d, d = s.deliver := ⟨_, rfl⟩
 obtain ⟨nx, hx⟩ : ∃ nx, nx = s.next := ⟨_, rfl⟩
 rw [← hd] at cd d0 d1 hn ⊢
 rw [← hx] at cx hn
 have i1 : ¬ d + 1 < nx := by omega
 clear hd hx hn
 go_enter Tryz.func18, Tryz.ntmps18
 go_upto_region 5 with (go_at_call 43; refine (HMD.out).mono ?_; rintro e w2 ⟨rfl, hw2⟩; subst hw2)
 refine wp_loop_rounds 1 ?_
 rw [rounds_succ]
 go_wp2
 go_ret2
 exact ⟨rfl, Below.refl _ _⟩
end Go.Proofs.YtmdpiajhfohagaaGreat
namespace Go.Proofs.YtmdpiajhfohagaaGreat
open Go.RowKit
set_option linter.unusedVariables false
set_option linter.unusedSimpArgs false
theorem SoloN.subN {w0 w : World} {g : Nat} {s : TS} {N N' : Nat → Prop} (h : SoloN w0 w g s N) (hN : ∀ k, N' k → N k) : SoloN w0 w g s N' := by
 obtain ⟨W, R, h1, h2, h3, h4⟩ := h
 exact ⟨W, R, h1, h2, h3, fun k hk => h4 k (hN k hk)⟩
theorem SoloN.lt_of {w0 w : World} {g : Nat} {s : TS} {N : Nat → Prop} (h : SoloN w0 w g s N) {k : Nat} (hk : N k) : k < w.heap.size := by
 obtain ⟨W, R, h1, h2, h3, h4⟩ := h
 exact (h4 k hk).2.1
def pdV (cf : Cfg) (pn : Nat → Nat) (z : Nat → Nat → Int) (j : Nat) : SV := ⟨j, pduN cf (pn j), fun q => ((pduZ cf j (pn j) (nf (z j)) q : Nat) : Int)⟩
structure J1 (cf : Cfg) (pn : Nat → Nat) (z : Nat → Nat → Int) (w2 : World) (B gT g5 : Nat) (W4 : Nat → Prop) (X : Obj) (mS mU eb : Nat) (wr : World) (s : TS) (i : Nat) (A7 : Option Addr) (c7 : Nat) (RP : Nat → Prop) : Prop where
 so : SoloN w2 wr gT s (fun q => W4 q ∨ RP q ∨ blkOf A7 q)
 rx : RxM wr g5 (rnewS cf X) W4 (fun _ => False) mS [] mU eb
 ll : LL wr B A7 c7 ((List.range i).map (pdV cf pn z)) RP
 rp : ∀ q, RP q → B ≤ q ∧ q < wr.heap.size
 w4 : ∀ q, W4 q → q < B
 sz : B ≤ wr.heap.size
section
variable {cf : Cfg} {pn : Nat → Nat} {z : Nat → Nat → Int} {w2 : World} {B gT g5 : Nat} {W4 : Nat → Prop} {X : Obj} {mS mU eb : Nat} {wr V : World} {s s' : TS} {i : Nat} {A7 : Option Addr} {c7 : Nat} {RP : Nat → Prop}
theorem J1.below (h : J1 cf pn z w2 B gT g5 W4 X mS mU eb wr s i A7 c7 RP) (hb : Below wr.heap.size wr V) : J1 cf pn z w2 B gT g5 W4 X mS mU eb V s i A7 c7 RP :=
 ⟨h.so.below hb, h.rx.below hb, h.ll.below hb, fun q hq => ⟨(h.rp q hq).1, Nat.lt_of_lt_of_le (h.rp q hq).2 hb.size⟩, h.w4, Nat.le_trans h.sz hb.size⟩
theorem J1.call (h : J1 cf pn z w2 B gT g5 W4 X mS mU eb wr s i A7 c7 RP) (hs : SoloN w2 V gT s' (fun q => W4 q ∨ RP q ∨ blkOf A7 q)) (hk : KeepF (fun k => ¬ (W4 k ∨ RP k ∨ blkOf A7 k)) wr V) : J1 cf pn z w2 B gT g5 W4 X mS mU eb V s' i A7 c7 RP :=
 ⟨hs, h.rx.keepF hk (fun k hn => ⟨fun hw => hn (.inl hw), fun hf => hf⟩), h.ll.keep hk (fun k hn hr => hn (.inr (.inl hr))) (fun a ha hn => hn (.inr (.inr ⟨a, ha, rfl⟩))), fun q hq => ⟨(h.rp q hq).1, Nat.lt_of_lt_of_le (h.rp q hq).2 hk.size⟩, h.w4, Nat.le_trans h.sz hk.size⟩
theorem J1.submit (h : J1 cf pn z w2 B gT g5 W4 X mS mU eb V s i A7 c7 RP) (hs : SendS cf i s) (hcm : cf.cm = false) (hds : cf.ds = 0) (A : Option Addr) (n c : Nat) (zz : Nat → Int) (hr : Row V V.heap.size A n (fun j => .int .u8 (zz j))) (hz : ∀ j, j < n → 0 ≤ zz j ∧ zz j < 256) (hA : ∀ a, A = some a → a.block < w2.heap.size) (h1 : 1 ≤ n) (h60 : n ≤ 60) :
  Calls Tryz.prog 26 #[.pointer (some ⟨gT, 0, none⟩), .int .i64 0, .slice A n c] V fun e w' => e = .returned (.int .i64 0) ∧ ∃ s1, SubS cf i n zz s1 ∧ J1 cf pn z w2 B gT g5 W4 X mS mU eb w' s1 i A7 c7 RP := by
 obtain ⟨s1, e1, h2⟩ := hs.sub hds h1 (by omega) zz
 refine (solon_submit h.so hs.fine (by rw [hs.C]; exact hcm) (by rw [hs.Q]; decide) 0 (by decide) (by decide) A n c zz hr hz (fun a ha _ => .inr (hA a ha)) (by omega)).mono ?_
 rintro e w' ⟨he, hS, hk⟩
 rw [e1] at he hS
 exact ⟨he, s1, h2, h.call hS hk⟩
theorem J1.nextc (h : J1 cf pn z w2 B gT g5 W4 X mS mU eb V s i A7 c7 RP) {n : Nat} {zz : Nat → Int} (hs : SubS cf i n zz s) (hok : cf.Ok) (hcm : cf.cm = false) (hds : cf.ds = 0) (hi : i ≤ 1000) (hz : ∀ j, j < n → 0 ≤ zz j ∧ zz j < 256) (h60 : n ≤ 60) :
  Calls Tryz.prog 27 #[.pointer (some ⟨gT, 0, none⟩), .int .i64 0] V fun e w' => ∃ A c s2, e = .returned (.tuple #[.slice A (pduN cf n) c, .int .u32 (i : Int), .int .i64 0]) ∧ SendS cf (i + 1) s2 ∧ J1 cf pn z w2 B gT g5 W4 X mS mU eb w' s2 i A7 c7 (fun q => RP q ∨ blkOf A q) ∧ Pkt w' (fun q => RP q ∨ blkOf A q) A (pduN cf n) c (fun q => ((pduZ cf i n (nf zz) q : Nat) : Int)) := by
 obtain ⟨s2, e2, h2⟩ := hs.send hds hi
 have hl := (pdu_least cf n).2.2.1
 refine (solon_nextU h.so hs.fine (by rw [hs.C]; exact hcm) (by have := hs.len; omega) 0 (by decide) (by decide)).mono ?_
 rintro e w' ⟨A, c, he, hc, hr, hS, hk, hU⟩
 rw [e2] at he hc hr hS
 have hlt : ∀ a, A = some a → a.block < w'.heap.size := fun a ha => hS.lt_of (.inr ⟨a, ha, rfl⟩)
 have hJ := h.call (hS.subN (fun k hk => .inl hk)) hk
 refine ⟨A, c, s2, he, h2, ⟨hS.subN (fun k hk => ?_), hJ.rx, hJ.ll.more (fun k hk => .inl hk) (fun a ha hn => ?_), fun q hq => ?_, h.w4, hJ.sz⟩, ?_, ?_, hc, fun j hj => ?_, hr, fun a ha => .inr ⟨a, ha, rfl⟩⟩
 ·rcases hk with hk | (hk | hk) | hk
  ·exact .inl (.inl hk)
  ·exact .inl (.inr (.inl hk))
  ·exact .inr hk
  ·exact .inl (.inr (.inr hk))
 ·rcases hn with hn | ⟨b, hb, e⟩
  ·exact (hJ.ll.blk a ha).2 hn
  ·have h3 := h.ll.lt ha
   have h4 := (hU b hb).2
   omega
 ·rcases hq with hq | ⟨b, hb, e⟩
  ·exact hJ.rp q hq
  ·have h4 := (hU b hb).2
   have h5 := hlt b hb
   have h6 := h.sz
   omega
 ·unfold pduN; omega
 ·show pduN cf n ≤ 9000; omega
 ·have := pduZ_lt (cf := cf) (ct := i) (n := n) (z := nf zz) hok.keyN (fun j hj => nf_lt hz hj) j
  show 0 ≤ ((pduZ cf i n (nf zz) j : Nat) : Int) ∧ ((pduZ cf i n (nf zz) j : Nat) : Int) < 256
  omega
theorem J1.push {Va V : World} {A' A : Option Addr} {c c' : Nat} (h : J1 cf pn z w2 B gT g5 W4 X mS mU eb wr s i A7 c7 RP) (hb : Below wr.heap.size wr Va) (hp : Pkt wr RP A (pduN cf (pn i)) c (fun q => ((pduZ cf i (pn i) (nf (z i)) q : Nat) : Int)))
  {lo : List SE} (e1 : lo.map (·.v) = (List.range i).map (pdV cf pn z)) (e3 : ∀ x, x ∈ lo → Pkt Va RP x.A x.v.n x.c x.v.z) (hs : SL V 41 1 A' (i + 1) c' (lo.map SE.val ++ [.slice A (pduN cf (pn i)) c])) (hk : KeepF (fun k => ∃ a, A7 = some a ∧ k = a.block) Va V) (ha : ∀ a, A' = some a → (∃ a', A7 = some a' ∧ a.block = a'.block) ∨ Va.heap.size ≤ a.block) :
  J1 cf pn z w2 B gT g5 W4 X mS mU eb V s (i + 1) A' c' RP := by
 have hl := (h.ll.below hb).push (fun k hk => Nat.lt_of_lt_of_le (h.rp k hk).2 hb.size) (Nat.le_trans h.sz hb.size) (ls := [⟨pdV cf pn z i, A, c⟩]) e1 e3 (fun x hx => by
  rw [List.mem_singleton.1 hx]
  exact hp.keep (KeepF.of_below (F := fun _ => False) hb) (fun k hk => hk.elim)) (by rw [List.length_map, List.length_range]; exact hs) hk ha
 have hsz : wr.heap.size ≤ V.heap.size := Nat.le_trans hb.size hk.size
 refine ⟨h.so.other ((KeepF.of_below hb).trans hk (fun b _ hk => .inr (.inr hk))) (fun k hk => ?_), (h.rx.below hb).keepF hk (fun k hk => ⟨fun hw => ?_, fun hf => hf⟩), by rw [List.range_succ, List.map_append]; exact hl, fun q hq => ⟨(h.rp q hq).1, Nat.lt_of_lt_of_le (h.rp q hq).2 hsz⟩, h.w4, Nat.le_trans h.sz hsz⟩
 ·rcases hk with hk | hk | ⟨a, e, hk⟩
  ·exact ⟨.inl (.inl hk), Nat.lt_of_lt_of_le (h.so.lt_of (.inl hk)) hsz⟩
  ·exact ⟨.inl (.inr (.inl hk)), Nat.lt_of_lt_of_le (h.so.lt_of (.inr (.inl hk))) hsz⟩
  ·have h5 := hs.lt e
   rcases ha a e with ⟨a', e', hb'⟩ | hb'
   ·exact ⟨.inl (.inr (.inr ⟨a', e', by omega⟩)), by omega⟩
   ·have := hb.size
    exact ⟨.inr (by omega), by omega⟩
 ·obtain ⟨a, e, hk⟩ := hk
  have h5 := (h.ll.blk a e).1
  have h6 := h.w4 k hw
  omega
end
structure J2 (cf : Cfg) (m : Nat) (pn : Nat → Nat) (z : Nat → Nat → Int) (B B2 g5 : Nat) (W4 RP : Nat → Prop) (mS mU eb : Nat) (A7 : Option Addr) (c7 : Nat) (w V : World) (q d0 : Nat) (A9 : Option Addr) (c9 : Nat) (S : Nat → Bool) (d : Nat) (s : RS) (l : List SE) (R5 : Nat → Prop) : Prop where
 bs : BS cf (fun k => svP cf k (pn k) (nf (z k))) m S d s
 dup : s.dup ≤ q
 rx : RxM V g5 s W4 R5 mS l mU eb
 pd : LL V B A7 c7 ((List.range m).map (pdV cf pn z)) RP
 out : LL V B2 A9 c9 ((List.range d0).map (fun k => svP cf k (pn k) (nf (z k)))) R5
 r5 : ∀ k, R5 k → B2 ≤ k ∧ k < V.heap.size
 rp : ∀ k, RP k → B ≤ k ∧ k < B2
 w4 : ∀ k, W4 k → k < B
 a7 : ∀ a, A7 = some a → a.block < B2
 bb : B ≤ B2
 sz : B2 ≤ V.heap.size
 low : Below w.heap.size w V
 ww : w.heap.size ≤ B ∧ ∀ k, W4 k → w.heap.size ≤ k
section
variable {cf : Cfg} {m : Nat} {pn : Nat → Nat} {z : Nat → Nat → Int} {B B2 g5 : Nat} {W4 RP : Nat → Prop} {mS mU eb : Nat} {A7 : Option Addr} {c7 : Nat} {w V V' : World} {q d0 : Nat} {A9 : Option Addr} {c9 : Nat} {S : Nat → Bool} {d : Nat} {s : RS} {l : List SE} {R5 : Nat → Prop}
theorem J2.below (h : J2 cf m pn z B B2 g5 W4 RP mS mU eb A7 c7 w V q d0 A9 c9 S d s l R5) (hb : Below V.heap.size V V') : J2 cf m pn z B B2 g5 W4 RP mS mU eb A7 c7 w V' q d0 A9 c9 S d s l R5 :=
 ⟨h.bs, h.dup, h.rx.below hb, h.pd.below hb, h.out.below hb, fun k hk => ⟨(h.r5 k hk).1, Nat.lt_of_lt_of_le (h.r5 k hk).2 hb.size⟩, h.rp, h.w4, h.a7, h.bb, Nat.le_trans h.sz hb.size, h.low.trans (hb.mono h.low.size), h.ww⟩
theorem J2.more (h : J2 cf m pn z B B2 g5 W4 RP mS mU eb A7 c7 w V q d0 A9 c9 S d s l R5) : J2 cf m pn z B B2 g5 W4 RP mS mU eb A7 c7 w V (q + 1) d0 A9 c9 S d s l R5 :=
 ⟨h.bs, by have := h.dup; omega, h.rx, h.pd, h.out, h.r5, h.rp, h.w4, h.a7, h.bb, h.sz, h.low, h.ww⟩
theorem J2.len (h : J2 cf m pn z B B2 g5 W4 RP mS mU eb A7 c7 w V q d0 A9 c9 S d s l R5) : l.length ≤ m := by
 have h1 := congrArg List.length h.rx.lv
 rw [List.length_map, h.bs.L] at h1
 have h2 : (lst (fun k => svP cf k (pn k) (nf (z k))) S d (m - d)).length ≤ m - d := by
  unfold lst
  rw [List.length_map]
  exact Nat.le_trans (List.length_filter_le _ _) (by rw [List.length_range']; exact Nat.le_refl _)
 omega
theorem J2.pdu (h : J2 cf m pn z B B2 g5 W4 RP mS mU eb A7 c7 w V q d0 A9 c9 S d s l R5) {k : Nat} (hk : k < m) : ∃ (b o : Nat) (x : Option Addr × Nat), A7 = some ⟨b, o, none⟩ ∧ b < V.heap.size ∧ V.cell? ⟨b, o + k, none⟩ = some (.slice x.1 (pduN cf (pn k)) x.2) ∧ Pkt V RP x.1 (pduN cf (pn k)) x.2 (fun q => ((pduZ cf k (pn k) (nf (z k)) q : Nat) : Int)) :=
 h.pd.at_ (v := pdV cf pn z k) (by rw [List.getElem?_map, List.getElem?_range hk]; rfl)
theorem J2.recv (h : J2 cf m pn z B B2 g5 W4 RP mS mU eb A7 c7 w V q d0 A9 c9 S d s l R5) (hok : cf.Ok) (hv : cf.Valid) (hcm : cf.cm = false) (hro : cf.ro = 0) (hm : m ≤ 24) (hq : q ≤ 1000) (hn : ∀ k, k < m → 1 ≤ pn k ∧ pn k ≤ 60) (hz : ∀ k, k < m → ∀ j, j < pn k → 0 ≤ z k j ∧ z k j < 256) {k : Nat} (hk : k < m) (A : Option Addr) (c : Nat) (hp : Pkt V RP A (pduN cf (pn k)) c (fun q => ((pduZ cf k (pn k) (nf (z k)) q : Nat) : Int))) :
  Calls Tryz.prog 11 #[.pointer (some ⟨g5, 0, none⟩), .int .i64 0, .slice A (pduN cf (pn k)) c] V fun e w' => ∃ A' c' lo d' s' l' R', e = .returned (.tuple #[.slice A' lo.length c', .int .i64 0]) ∧ d ≤ d' ∧ OutM w' V.heap.size A' c' lo ∧ lo.map (·.v) = (List.range' d (d' - d)).map (fun k => svP cf k (pn k) (nf (z k))) ∧ (∀ x, x ∈ lo → Pkt w' R' x.A x.v.n x.c x.v.z) ∧ J2 cf m pn z B B2 g5 W4 RP mS mU eb A7 c7 w w' (q + 1) d0 A9 c9 (fun j => S j || decide (j = k)) d' s' l' R' := by
 have hzz : ∀ k, k < m → ∀ j, j < pn k → nf (z k) j < 256 := fun k hk j hj => nf_lt (hz k hk) hj
 obtain ⟨d', s', hdd, hrecv, hbs, hdup⟩ := bs_step hok hro (N := m) (by omega) (pn := pn) (z := fun k => nf (z k)) (fun k hk => ⟨(hn k hk).1, by have := (hn k hk).2; omega⟩) hzz h.bs k hk
 obtain ⟨_, hle, hm6, hig⟩ := pdu_least cf (pn k)
 have hnk := hn k hk
 have hsC := h.bs.C
 have hpz : ∀ j, j < pduN cf (pn k) → pduZ cf k (pn k) (nf (z k)) j < 256 := fun j _ => pduZ_lt hok.keyN (hzz k hk) j
 have hl := h.len
 refine (receive_run g5 s W4 R5 mS l mU eb V h.rx (by rw [hsC]; exact hok) (by rw [hsC]; exact hcm) (by rw [hsC, hro]; decide) (by omega) h.bs.run (by have := h.dup; omega) 0 A (pduN cf (pn k)) c (pduZ cf k (pn k) (nf (z k))) (by omega) hp.cap hpz hp.row (fun a ha hw => ?_) (by rw [hsC]; exact dataAll_any g5 cf W4 R5 mS mU eb A _ c _ hok hv (fun h => by rw [hig h]; omega) hp.cap hpz)).mono ?_
 ·have h1 := (h.rp _ (hp.ro a ha)).1
  have h2 := h.w4 _ hw
  omega
 ·rintro e w' ⟨R', l', A', c', lo, he, hO, hm', hp', hT, hR1, hR2, hK⟩
  rw [hrecv] at he hm' hT
  have hw4 : ∀ a, A9 = some a → ¬ W4 a.block := fun a ha hw => by
   have h1 := (h.out.blk a ha).1
   have h2 := h.w4 _ hw
   have h3 := h.bb
   omega
  refine ⟨A', c', lo, d', s', l', R', he, hdd, hO, hm', hp', hbs, by have := h.dup; omega, hT, h.pd.keep hK (fun k hw hr => ?_) (fun a ha hw => ?_), (h.out.keep hK (fun k hw hr => ?_) (fun a ha hw => hw4 a ha hw)).more hR2 (fun a ha hr => ?_), fun k hk => ⟨?_, hT.rin k hk⟩, h.rp, h.w4, h.a7, h.bb, Nat.le_trans h.sz hK.size, KeepF.below h.low hK h.ww.2 h.low.size, h.ww⟩
  ·have h1 := (h.rp _ hr).1
   have h2 := h.w4 _ hw
   omega
  ·have h1 := (h.pd.blk a ha).1
   have h2 := h.w4 _ hw
   omega
  ·have h1 := (h.r5 _ hr).1
   have h2 := h.w4 _ hw
   have h3 := h.bb
   omega
  ·rcases hR1 _ hr with hr | hr
   ·exact (h.out.blk a ha).2 hr
   ·have := h.out.lt ha
    omega
  ·rcases hR1 _ hk with hr | hr
   ·exact (h.r5 k hr).1
   ·have := h.sz
    omega
theorem J2.push {A' : Option Addr} {c' : Nat} (h : J2 cf m pn z B B2 g5 W4 RP mS mU eb A7 c7 w V q d0 A9 c9 S d s l R5) {lo ls : List SE} (hd : d0 ≤ d) (e1 : lo.map (·.v) = (List.range d0).map (fun k => svP cf k (pn k) (nf (z k)))) (e3 : ∀ x, x ∈ lo → Pkt V R5 x.A x.v.n x.c x.v.z) (e2 : ls.map (·.v) = (List.range' d0 (d - d0)).map (fun k => svP cf k (pn k) (nf (z k)))) (hl : ∀ x, x ∈ ls → Pkt V R5 x.A x.v.n x.c x.v.z)
  (hs : SL V' 41 1 A' (d0 + ls.length) c' (lo.map SE.val ++ ls.map SE.val)) (hk : KeepF (fun k => ∃ a, A9 = some a ∧ k = a.block) V V') (ha : ∀ a, A' = some a → (∃ a', A9 = some a' ∧ a.block = a'.block) ∨ V.heap.size ≤ a.block) :
  J2 cf m pn z B B2 g5 W4 RP mS mU eb A7 c7 w V' q d A' c' S d s l R5 := by
 have hsz := hk.size
 have h9 : ∀ k, (∃ a, A9 = some a ∧ k = a.block) → B2 ≤ k ∧ ¬ R5 k := fun k ⟨a, e, hk⟩ => by rw [hk]; exact h.out.blk a e
 refine ⟨h.bs, h.dup, h.rx.keepF hk (fun k hk => ⟨fun hw => ?_, (h9 k hk).2⟩), h.pd.keep hk (fun k hk hr => ?_) (fun a ha hk => ?_), ?_, fun k hk => ⟨(h.r5 k hk).1, Nat.lt_of_lt_of_le (h.r5 k hk).2 hsz⟩, h.rp, h.w4, h.a7, h.bb, Nat.le_trans h.sz hsz, KeepF.below h.low hk (fun k hk => ?_) h.low.size, h.ww⟩
 ·have h1 := (h9 k hk).1
  have h2 := h.w4 k hw
  have h3 := h.bb
  omega
 ·have h1 := (h9 k hk).1
  have h2 := (h.rp k hr).2
  omega
 ·have h1 := (h9 _ hk).1
  have h2 := h.a7 a ha
  omega
 ·have := h.out.push (fun k hk => (h.r5 k hk).2) h.sz e1 e3 hl (by rw [List.length_map, List.length_range]; exact hs) hk ha
  rw [e2, ← List.map_append] at this
  have he : List.range d0 ++ List.range' d0 (d - d0) = List.range d := by
   rw [List.range_eq_range', List.range_eq_range']
   have := List.range'_append_1 (s := 0) (m := d0) (n := d - d0)
   rw [Nat.zero_add] at this
   rw [this]
   congr 1
   omega
  rwa [he] at this
 ·have h1 := (h9 k hk).1
  have h2 := h.ww.1
  have h3 := h.bb
  omega
theorem J2.same {A : Option Addr} {PA : Nat → Option Addr} {pc : Nat → Nat} (h : J2 cf m pn z B B2 g5 W4 RP mS mU eb A7 c7 w V q m A9 c9 S d s l R5) (hz : ∀ k, k < m → ∀ j, j < pn k → 0 ≤ z k j ∧ z k j < 256) (hr : Rows2 w A m PA pn pc z) : SameB V A9 A m := fun k hk => by
 obtain ⟨b, o, x, hA, hb, hc, hp⟩ := h.out.at_ (k := k) (v := svP cf k (pn k) (nf (z k))) (by rw [List.getElem?_map, List.getElem?_range hk]; rfl)
 have hr' := hr.below h.low
 obtain ⟨lb, lo, e, hlb, hcl⟩ := hr'.at_ (by omega)
 refine ⟨pn k, fun j => ((plainZ cf k (pn k) (nf (z k)) j : Nat) : Int), z k, ⟨b, o, x.1, x.2, hA, hb, hc, hp.row⟩, ⟨lb, lo, PA k, pc k, e, hlb, hcl k hk, hr'.row k hk⟩, fun j hj => ?_⟩
 show ((plainZ cf k (pn k) (nf (z k)) j : Nat) : Int) = z k j
 rw [plainZ_at cf k (pn k) (nf (z k)) j hj, nf_cast (hz k hk) hj]
end
end Go.Proofs.YtmdpiajhfohagaaGreat
namespace Go.Proofs.YtmdpiajhfohagaaGreat
open Go.RowKit
set_option linter.unusedVariables false
set_option linter.unusedSimpArgs false
attribute [local go_sem ↓] Go.wp_at_zero Go.wp_at_succ
set_option maxRecDepth 100000 in
set_option maxHeartbeats 12800000 in
theorem back_walk (c : Cfg) (hck : c.Ok) (A : Option Addr) (m cp : Nat) (PA : Nat → Option Addr) (pn pc : Nat → Nat) (z : Nat → Nat → Int) (hm : m ≤ maxLen) (A2 : Option Addr) (oc cp2 : Nat) (y : Nat → Int) (hoc : oc ≤ maxLen) (w : World) (hr : Rows2 w A m PA pn pc z) (hr2 : Row w w.heap.size A2 oc (fun j => .int .i64 (y j))) :
  Calls Tryz.prog 6 #[.agg c.arr, .slice A m cp, .slice A2 oc cp2] w fun e w' => e = .returned (.bool true) ∧ Below w.heap.size w w' := by
 have HKN := zh (fun V => known_true V)
 have HPL := zh (fun V => plain46_ok c V)
 obtain ⟨cf, hcf⟩ : ∃ cf : Cfg, cf = { c.noK with ro := 0, ds := 0 } := ⟨_, rfl⟩
 have hok : cf.Ok := by rw [hcf]; exact ⟨hck.key, hck.code⟩
 have hcm : cf.cm = false := by rw [hcf]; rfl
 have hro : cf.ro = 0 := by rw [hcf]
 have hds : cf.ds = 0 := by rw [hcf]
 have HVL := zh (fun V => rvalid45_ok cf V)
 have HCF := zh (And.intro hok (And.intro hcm (And.intro hro hds)))
 have HS0 : Hid ((Tryz.prog.info? 26).map (·.size) = some c.arr.size) := zh (by rw [c.arr_size]; exact infoPd)
 have HS1 : Hid ((Tryz.prog.info? 26).map (·.size) = some c.noK.arr.size) := zh (by rw [c.noK.arr_size]; exact infoPd)
 have HS2 : Hid ((Tryz.prog.info? 26).map (·.size) = some cf.arr.size) := zh (by rw [cf.arr_size]; exact infoPd)
 have HSS : Hid (c.arr.size = c.noK.arr.size) := zh (by rw [c.arr_size, c.noK.arr_size])
 have HO1 := zh c.noK.arr_one
 have HSET : Hid ((c.noK.arr.setIfInBounds 38 (.int .i64 0)).setIfInBounds 37 (.int .i64 0) = cf.arr) := zh (by rw [Cfg.setRo_arr, Cfg.setDs_arr, hcf])
 have HY38 := zh (show c.noK.arr[38]? = some (.int .i64 c.ro) from c.noK.arr_at (by decide))
 have HY37 := zh (show c.noK.arr[37]? = some (.int .i64 c.ds) from c.noK.arr_at (by decide))
 have HNT := zh (fun (hv : cf.Valid) V => tNew_ok cf hv V)
 have HNR := zh (fun (hv : cf.Valid) V => rnew_ok cf V hv)
 obtain ⟨Z, hZ⟩ : ∃ Z, Z = c.arr := ⟨_, rfl⟩
 obtain ⟨Y, hY⟩ : ∃ Y, Y = c.noK.arr := ⟨_, rfl⟩
 obtain ⟨CA, hCA⟩ : ∃ CA, CA = cf.arr := ⟨_, rfl⟩
 rw [← hZ] at HPL HS0 HSS ⊢
 rw [← hY] at HPL HS1 HSS HO1 HSET HY38 HY37
 rw [← hCA] at HVL HS2 HSET HNT HNR
 have HU := zh Tryz.underlying26
 have HR := zh hr
 have HR2 := zh hr2
 obtain ⟨i0, hi0, hz0, hz1, hz2⟩ := infoBs
 have m0 : (0 : Int) ≤ (m : Int) := by omega
 have m9 : (m : Int) ≤ 9223372036854775807 := by unfold maxLen at hm; omega
 have o0 : (0 : Int) ≤ (oc : Int) := by omega
 have o9 : (oc : Int) ≤ 9223372036854775807 := by unfold maxLen at hoc; omega
 have HM := zh hm
 clear hZ hY hCA hok hcm hro hds hcf hck hr hr2 hm hoc
 go_enter Tryz.func6, Tryz.ntmps6
 go_upto_region 1 with (fail)
 obtain ⟨g, hg⟩ : ∃ g, g = w.heap.size := ⟨_, rfl⟩
 refine wp_let (fun W => Blk W g 26 Z ∧ Below w.heap.size w W) ⟨by rw [hg]; exact Blk.new _ _ _, (Below.refl _ w).alloc (Nat.le_refl _) _⟩ ?_
 rintro W1 ⟨b1, b2⟩
 have B1 := zh b1
 have B2 := zh b2
 have HG := zh hg
 rw [← hg]
 clear b1 b2 hg
 go_upto_region 2 with (first
  | (refine wpList_load_row rfl _ _ rfl g rfl 26 Z (0, 0) _ B1.out HU.out rfl HS0.out ?_)
  | (go_at_call 7; refine (HPL.out _).mono ?_; rintro e w2 ⟨rfl, hB⟩; have C1 := zh (B1.out.below hB B1.out.lt); have C2 := zh (B2.out.trans (hB.mono B2.out.size)); clear hB)
  | (refine wpList_store_row rfl _ _ _ rfl g Y rfl rfl 26 _ C1.out HS1.out HSS.out HO1.out ?_))
 try simp only [Act.put]
 refine wp_let (fun W => Blk W g 26 Y ∧ Below w.heap.size w W) ⟨setRow_heap _ _ _ Y 26 (0, 0) C1.out, belowRow C2.out (by rw [HG.out]; exact Nat.le_refl _) _⟩ ?_
 rintro W2 ⟨b1, b2⟩
 have D1 := zh b1
 have D2 := zh b2
 have y38 := (b1.cell 38).trans HY38.out
 have f38 := b1.frozen 38
 have y37 := (b1.cell 37).trans HY37.out
 have f37 := b1.frozen 37
 clear b1 b2 B1 B2 C1 C2
 go_upto_region 3 with (fail)
 refine wp_let (fun W => Blk W g 26 CA ∧ Below w.heap.size w W) ⟨by rw [← HSET.out]; exact (D1.out.set_ 38 _).set_ 37 _, (D2.out.setCell (p := ⟨g, 38, none⟩) (by rw [HG.out]; exact Nat.le_refl _) _).setCell (p := ⟨g, 37, none⟩) (by rw [HG.out]; exact Nat.le_refl _) _⟩ ?_
 rintro W3 ⟨b1, b2⟩
 have E1 := zh b1
 have E2 := zh b2
 clear b1 b2 D1 D2 y38 f38 y37 f37
 by_cases hv : cf.Valid
 rotate_left
 ·rw [decide_eq_false hv] at HVL
  go_wp2_with (first
   | (refine wpList_load_row rfl _ _ rfl g rfl 26 CA (0, 0) _ E1.out HU.out rfl HS2.out ?_)
   | (go_at_call 8; refine (HVL.out _).mono ?_; rintro e w2 ⟨rfl, hB⟩; have F1 := zh (E1.out.below hB E1.out.lt); have F2 := zh (E2.out.trans (hB.mono E2.out.size)); clear hB)
   | (go_at_call 9; refine (HKN.out _).mono ?_; rintro e w3 ⟨rfl, hB⟩; have F3 := zh (F2.out.trans (hB.mono F2.out.size)); clear hB))
  go_ret
  exact ⟨rfl, F3.out⟩
 rw [decide_eq_true hv] at HVL
 have HVV := zh hv
 clear hv
 by_cases hn1 : 24 < m
 ·have t1 : decide ((24 : Int) < (m : Int)) = true := decide_eq_true (by omega)
  go_wp2_with (first
   | (refine wpList_load_row rfl _ _ rfl g rfl 26 CA (0, 0) _ E1.out HU.out rfl HS2.out ?_)
   | (go_at_call 8; refine (HVL.out _).mono ?_; rintro e w2 ⟨rfl, hB⟩; have F1 := zh (E1.out.below hB E1.out.lt); have F2 := zh (E2.out.trans (hB.mono E2.out.size)); clear hB)
   | (go_at_call 9; refine (HKN.out _).mono ?_; rintro e w3 ⟨rfl, hB⟩; have F3 := zh (F2.out.trans (hB.mono F2.out.size)); clear hB))
  go_ret
  exact ⟨rfl, F3.out⟩
 by_cases hn6 : 60 < oc
 ·have t1 : decide ((24 : Int) < (m : Int)) = false := decide_eq_false (by omega)
  have t2 : decide ((60 : Int) < (oc : Int)) = true := decide_eq_true (by omega)
  go_wp2_with (first
   | (refine wpList_load_row rfl _ _ rfl g rfl 26 CA (0, 0) _ E1.out HU.out rfl HS2.out ?_)
   | (go_at_call 8; refine (HVL.out _).mono ?_; rintro e w2 ⟨rfl, hB⟩; have F1 := zh (E1.out.below hB E1.out.lt); have F2 := zh (E2.out.trans (hB.mono E2.out.size)); clear hB)
   | (go_at_call 9; refine (HKN.out _).mono ?_; rintro e w3 ⟨rfl, hB⟩; have F3 := zh (F2.out.trans (hB.mono F2.out.size)); clear hB))
  go_ret
  exact ⟨rfl, F3.out⟩
 have t1 : decide ((24 : Int) < (m : Int)) = false := decide_eq_false (by omega)
 have t2 : decide ((60 : Int) < (oc : Int)) = false := decide_eq_false (by omega)
 have HN := zh (show m ≤ 24 ∧ oc ≤ 60 by omega)
 clear hn1 hn6
 go_upto_region 5 with (first
   | (refine wpList_load_row rfl _ _ rfl g rfl 26 CA (0, 0) _ E1.out HU.out rfl HS2.out ?_)
   | (go_at_call 8; refine (HVL.out _).mono ?_; rintro e w2 ⟨rfl, hB⟩; have F1 := zh (E1.out.below hB E1.out.lt); have F2 := zh (E2.out.trans (hB.mono E2.out.size)); clear hB))
 clear t1 t2 m9 o9
 have HNT1 := zh (HNT.out HVV.out)
 have HNR1 := zh (HNR.out HVV.out)
 go_upto_region 9 with (first
  | (refine wpList_load_row rfl _ _ rfl g rfl 26 CA (0, 0) _ F1.out HU.out rfl HS2.out ?_)
  | (go_at_call 24; refine (HNT1.out _).mono ?_; rintro e w3 ⟨gT, rfl, hO⟩; have S1 := zh (SoloN.of (Solo.of_new (Below.refl _ _) hO)); have F1 := zh (F1.out.below S1.out.low F1.out.lt); clear hO)
  | (go_at_call 25; refine (HNR1.out _).mono ?_; rintro e w4 ⟨v, rfl, g5, mS, mU, eb, X, rfl, hT, h1, h2, h3, h4, hB⟩; have HT := zh hT; have HB := zh hB; have HF := zh (And.intro h1 (And.intro h2 (And.intro h3 h4))); clear hT h1 h2 h3 h4 hB))
 obtain ⟨W4, hW4⟩ : ∃ W4 : Nat → Prop, W4 = fun k => k = g5 ∨ k = mS ∨ k = mU ∨ k = eb := ⟨_, rfl⟩
 obtain ⟨B, hBd⟩ : ∃ B, B = w4.heap.size := ⟨_, rfl⟩
 have hwl : ∀ q, W4 q → w3.heap.size ≤ q := by
  rw [hW4]
  intro q hq
  have h := HF.out
  rcases hq with h5 | h5 | h5 | h5 <;> omega
 have hT4 : RxM w4 g5 (rnewS cf X) W4 (fun _ => False) mS [] mU eb := by rw [hW4]; exact HT.out
 have hJ0 : J1 cf pn z w2 B gT g5 W4 X mS mU eb w4 (newS cf) 0 none 0 (fun _ => False) :=
  ⟨S1.out.other (KeepF.of_below HB.out) (fun q hq => by
   rcases hq with hq | hq | ⟨a, e, _⟩
   ·exact ⟨.inr (hwl q hq), hT4.win q hq⟩
   ·exact hq.elim
   ·cases e), hT4, LL.nil _ _ _, fun q hq => hq.elim, fun q hq => by rw [hBd]; exact hT4.win q hq, by rw [hBd]; exact Nat.le_refl _⟩
 have HJ0 := zh hJ0
 have HWW := zh (show w.heap.size ≤ B ∧ ∀ k, W4 k → w.heap.size ≤ k by
  have h1 := F2.out.size
  have h2 := S1.out.low.size
  have h3 := HB.out.size
  exact ⟨by omega, fun k hk => by have := hwl k hk; omega⟩)
 clear hW4 hBd hwl hT4 hJ0 HT HF HB S1 F1 HNT HNR HNT1 HNR1
 have m24 : (m : Int) ≤ 24 := by have := HN.out; omega
 have o60 : (oc : Int) ≤ 60 := by have := HN.out; omega
 go_wp2
 go_loopw [11, 12] (fun v11 v12 wr => ∃ (i : Nat) (s : TS) (A7 : Option Addr) (c7 : Nat) (RP : Nat → Prop), i ≤ m ∧ v12 = .int .i64 i ∧ v11 = .slice A7 i c7 ∧ SendS cf i s ∧ J1 cf pn z w2 B gT g5 W4 X mS mU eb wr s i A7 c7 RP ∧ ∀ j, j < i → 1 ≤ pn j ∧ pn j ≤ 60) (fun _ v12 _ => m - (intOf v12).toNat)
 case atStart => exact ⟨0, newS cf, none, 0, fun _ => False, by omega, rfl, rfl, sendS_new HCF.out.1 HVV.out, HJ0.out, fun j hj => by omega⟩
 case round =>
  clear HJ0
  obtain ⟨i, s, A7, c7, RP, hi, rfl, rfl, hse, hJ, hpl⟩ := hrel
  have HSE := zh hse
  have HJ := zh hJ
  have HPL60 := zh hpl
  have G4 := zh (F2.out.trans (hJ.so.low.mono F2.out.size))
  have i0' : (0 : Int) ≤ (i : Int) := by omega
  clear hse hJ hpl
  by_cases hlt : i < m
  ·have i1 : (i : Int) < (m : Int) := by omega
   obtain ⟨lb, lo, hAA, hlb, hcl⟩ := HR.out.at_ (by omega)
   have hcl := hcl i hlt
   subst hAA
   have cz : wr.cell? ⟨lb, lo + i, none⟩ = some (.slice (PA i) (pn i) (pc i)) := (G4.out.cell (p := ⟨lb, lo + i, none⟩) hlb).trans hcl
   obtain ⟨ni, hni⟩ : ∃ ni, ni = pn i := ⟨_, rfl⟩
   have HROW := zh (HR.out.row i hlt)
   have HBYT := zh (HR.out.byte i hlt)
   rw [← hni] at cz HROW HBYT
   have HNI := zh hni
   have n0 : (0 : Int) ≤ (ni : Int) := by omega
   clear hcl hlb hni
   by_cases hn1 : ni < 1
   ·have t1 : decide ((ni : Int) < 1) = true := decide_eq_true (by omega)
    go_wp2_with (go_at_call 9; refine (HKN.out _).mono ?_; rintro e w9 ⟨rfl, hB⟩; have F9 := zh hB; clear hB)
    go_ret
    first
     | exact ⟨rfl, G4.out.trans (F9.out.mono G4.out.size)⟩
     | exact ⟨rfl, (G4.out.drew).trans (F9.out.mono G4.out.drew.size)⟩
   by_cases hn6 : 60 < ni
   ·have t1 : decide ((ni : Int) < 1) = false := decide_eq_false (by omega)
    have t2 : decide ((60 : Int) < (ni : Int)) = true := decide_eq_true (by omega)
    go_wp2_with (go_at_call 9; refine (HKN.out _).mono ?_; rintro e w9 ⟨rfl, hB⟩; have F9 := zh hB; clear hB)
    go_ret
    first
     | exact ⟨rfl, G4.out.trans (F9.out.mono G4.out.size)⟩
     | exact ⟨rfl, (G4.out.drew).trans (F9.out.mono G4.out.drew.size)⟩
   have t1 : decide ((ni : Int) < 1) = false := decide_eq_false (by omega)
   have t2 : decide ((60 : Int) < (ni : Int)) = false := decide_eq_false (by omega)
   have HNR := zh (show 1 ≤ ni ∧ ni ≤ 60 by omega)
   clear hn1 hn6
   have HSB := zh (fun V (hb : Below wr.heap.size wr V) => (HJ.out.below hb).submit HSE.out HCF.out.2.1 HCF.out.2.2.2 (PA i) ni (pc i) (z i) (HROW.out.next (G4.out.trans (hb.mono G4.out.size))) HBYT.out (fun a ha => by
    obtain ⟨b, o, e, hb', _⟩ := HROW.out (by have := HNR.out; omega)
    rw [e] at ha
    cases ha
    exact Nat.lt_of_lt_of_le hb' F2.out.size) HNR.out.1 HNR.out.2)
   go_upto_region 17 with (first
    | (go_at_call 26; refine (HSB.out _ (by first | exact Below.refl _ _ | exact (Below.refl _ _).drew)).mono ?_; rintro e w5 ⟨rfl, s1, hs1, hJ1⟩; have HNX := zh (fun V (hb : Below w5.heap.size w5 V) => (hJ1.below hb).nextc hs1 HCF.out.1 HCF.out.2.1 HCF.out.2.2.2 (by have := HN.out; omega) HBYT.out HNR.out.2); clear hs1 hJ1)
    | (go_at_call 27; refine (HNX.out _ (by first | exact Below.refl _ _ | exact (Below.refl _ _).drew)).mono ?_; rintro e w6 ⟨A4, c4, s2, rfl, hs2, hJ2, hp4⟩; have HS2 := zh hs2; have HJ2 := zh hJ2; have HP4 := zh hp4; clear hs2 hJ2 hp4))
   obtain ⟨lo9, f1, f2, f3⟩ := HJ2.out.ll.ex
   have hlen9 : ((List.range i).map (pdV cf pn z)).length = i := by rw [List.length_map, List.length_range]
   rw [hlen9] at f2
   have HF1 := zh f1
   have HF2 := zh f2
   have HF3 := zh f3
   obtain ⟨pl, hpl⟩ : ∃ pl, pl = pduN cf ni := ⟨_, rfl⟩
   rw [← hpl]
   have HPLN := zh hpl
   clear f1 f2 f3 hlen9 hpl cz t1 t2
   go_upto_region 19 with (fail)
   go_wp2_with (refine wpList_sl_append rfl _ _ 38 38 rfl _ 41 i0 (.slice none 0 0) 1 24 Tryz.underlying38 hi0 hz0 hz1 hz2 rfl A7 i c7 (lo9.map SE.val) rfl (HF2.out.next ((Below.refl _ _).alloc (Nat.le_refl _) _)) (.slice (some ⟨w6.heap.size, 0, none⟩) 1 1) rfl 1 [.slice A4 pl c4] (src_new w6 _ rfl) (by omega) (by have := HN.out; unfold maxLen; omega) (by have := HN.out; omega) ?_; intro A8 c8 V8 hs8 hk8 ha8; have HS8 := zh hs8; have HK8 := zh hk8; have HA8 := zh ha8; clear hs8 hk8 ha8)
   go_roundw
   case rel =>
    have hb8 : Below w6.heap.size w6 (w6.alloc (.cells #[.slice A4 pl c4] 41)) := (Below.refl _ _).alloc (Nat.le_refl _) _
    have hP4 := HP4.out
    have hS8 := HS8.out
    rw [HPLN.out] at hS8
    rw [HNI.out] at hP4 hS8
    exact ⟨i + 1, s2, A8, c8, _, by omega, by go_num, rfl, HS2.out, HJ2.out.push hb8 hP4 HF1.out (fun x hx => (HF3.out x hx).keep (KeepF.of_below (F := fun _ => False) hb8) (fun _ h => h.elim)) hS8 HK8.out HA8.out, fun j hj => by
     rcases (by omega : j < i ∨ j = i) with h | rfl
     ·exact HPL60.out j h
     ·rw [← HNI.out]; exact HNR.out⟩
   case measure => simp [intOf]; omega
  ·obtain rfl : m = i := by omega
   have i1 : ¬ (m : Int) < (m : Int) := by omega
   clear hlt hi
   obtain ⟨B2, hB2⟩ : ∃ B2, B2 = wr.heap.size := ⟨_, rfl⟩
   have hJ0 : J2 cf m pn z B B2 g5 W4 RP mS mU eb A7 c7 w wr 0 0 none 0 (fun _ => false) 0 (rnewS cf X) [] (fun _ => False) :=
    ⟨bs_new cf X _ m, Int.le_refl _, HJ.out.rx, HJ.out.ll, LL.nil _ _ _, fun k hk => hk.elim, fun k hk => by rw [hB2]; exact HJ.out.rp k hk, HJ.out.w4, fun a ha => by rw [hB2]; exact HJ.out.ll.lt ha, by rw [hB2]; exact HJ.out.sz, by rw [hB2]; exact Nat.le_refl _, G4.out, HWW.out⟩
   have HJ0 := zh hJ0
   have HBY := zh HR.out.byte
   clear hB2 hJ0 HJ HSE G4 HWW
   go_wp2
   go_loopw [17, 18] (fun v17 v18 wr => ∃ (q : Nat) (A9 : Option Addr) (c9 : Nat) (S : Nat → Bool) (d : Nat) (s : RS) (l : List SE) (R5 : Nat → Prop), q ≤ oc + m ∧ v18 = .int .i64 q ∧ v17 = .slice A9 d c9 ∧ J2 cf m pn z B B2 g5 W4 RP mS mU eb A7 c7 w wr q d A9 c9 S d s l R5 ∧ ∀ k, k < m → oc + k < q → S k = true) (fun _ v18 _ => oc + m - (intOf v18).toNat)
   case atStart => exact ⟨0, none, 0, fun _ => false, 0, rnewS cf X, [], fun _ => False, by omega, rfl, rfl, HJ0.out, fun k _ h => by omega⟩
   case round =>
    clear HJ0
    obtain ⟨q, A9, c9, S, d, s, l, R5, hq, rfl, rfl, hJ, hall⟩ := hrel
    have HJ := zh hJ
    have HALL := zh hall
    have HQ := zh hq
    have q0 : (0 : Int) ≤ (q : Int) := by omega
    clear hJ hall
    by_cases hlt : q < oc + m
    ·have q1 : (q : Int) < (oc : Int) + (m : Int) := by omega
     have q84 : (q : Int) ≤ 84 := by omega
     by_cases hqo : q < oc
     ·have q2 : (q : Int) < (oc : Int) := by omega
      obtain ⟨ob, oo, hA2, hob, hoc⟩ := HR2.out (by omega)
      have hocq := hoc q hqo
      subst hA2
      have cy : wr.cell? ⟨ob, oo + q, none⟩ = some (.int .i64 (y q)) := (HJ.out.low.cell (p := ⟨ob, oo + q, none⟩) hob).trans hocq
      obtain ⟨yq, hyq⟩ : ∃ yq, yq = y q := ⟨_, rfl⟩
      rw [← hyq] at cy
      clear hoc hocq hob hyq
      by_cases y0 : yq < 0
      ·have t1 : decide (yq < 0) = true := decide_eq_true y0
       go_wp2
       go_roundw
       case rel => exact ⟨q + 1, A9, c9, S, d, s, l, R5, by omega, by go_num, rfl, HJ.out.more, fun j hj h => HALL.out j hj (by omega)⟩
       case measure => simp [intOf]; omega
      by_cases y1 : (m : Int) ≤ yq
      ·have t1 : decide (yq < 0) = false := decide_eq_false y0
       have t2 : decide ((m : Int) ≤ yq) = true := decide_eq_true y1
       go_wp2
       go_roundw
       case rel => exact ⟨q + 1, A9, c9, S, d, s, l, R5, by omega, by go_num, rfl, HJ.out.more, fun j hj h => HALL.out j hj (by omega)⟩
       case measure => simp [intOf]; omega
      obtain ⟨k, rfl⟩ : ∃ k : Nat, yq = (k : Int) := ⟨yq.toNat, by omega⟩
      have hkm : k < m := by omega
      clear y0 y1
      go_upto_region 27 with (fail)
      have k0 : ¬ (k : Int) < 0 := by omega
      have k1 : ¬ (m : Int) ≤ (k : Int) := by omega
      have k2 : (k : Int) < (m : Int) := by omega
      have kp : (0 : Int) ≤ (k : Int) := by omega
      obtain ⟨pb, po, px, hA7, hpb, hpc, hpp⟩ := HJ.out.pdu hkm
      subst hA7
      obtain ⟨pA, pq⟩ := px
      have HRV := zh (fun V (hb : Below wr.heap.size wr V) => (HJ.out.below hb).recv HCF.out.1 HVV.out HCF.out.2.1 HCF.out.2.2.1 HN.out.1 (by have := HN.out; have := HQ.out; omega) HPL60.out HBY.out hkm pA pq (hpp.keep (KeepF.of_below (F := fun _ => False) hb) (fun _ h => h.elim)))
      obtain ⟨pl, hpl⟩ : ∃ pl, pl = pduN cf (pn k) := ⟨_, rfl⟩
      rw [← hpl] at hpc HRV
      have HKM := zh (And.intro hkm hpp)
      have HPLN := zh hpl
      clear hkm hpp hpl
      go_upto_region 29 with (go_at_call 11; refine (HRV.out _ (by first | exact Below.refl _ _ | exact (Below.refl _ _).drew)).mono ?_; rintro e w5 ⟨A5, c5, lo5, d5, s5, l5, R5', rfl, hdd, hO5, hm5, hp5, hJ5⟩; have HO5 := zh hO5; have HM5 := zh (And.intro hdd (And.intro hm5 hp5)); have HJ5 := zh hJ5; clear hdd hO5 hm5 hp5 hJ5)
      obtain ⟨lo9, f1, f2, f3⟩ := HJ5.out.out.ex
      have hf1 := f1
      have hlen9 : ((List.range d).map (fun k => svP cf k (pn k) (nf (z k)))).length = d := by rw [List.length_map, List.length_range]
      rw [hlen9] at f2
      have HF1 := zh f1
      have HF2 := zh f2
      have HF3 := zh f3
      have hdl : d5 ≤ m := HJ5.out.bs.le
      have hl5 : lo5.length = d5 - d := by
       have h := congrArg List.length HM5.out.2.1
       rwa [List.length_map, List.length_map, List.length_range'] at h
      have hdd5 := HM5.out.1
      have HL5 := zh (show d + lo5.length ≤ 24 ∧ d + lo5.length = d5 by have := HN.out; omega)
      have HSRC := zh (show Src Tryz.prog 1 38 (.slice A5 lo5.length c5) lo5.length (lo5.map SE.val) w5 from SL.src1 Tryz.underlying38 HO5.out.1 (fun u hu => by
       obtain ⟨x, _, rfl⟩ := List.mem_map.1 hu
       rfl))
      obtain ⟨nl, hnl⟩ : ∃ nl, nl = lo5.length := ⟨_, rfl⟩
      rw [← hnl] at HL5 HSRC ⊢
      have HNL := zh hnl
      clear f1 f2 f3 hf1 hlen9 hdl hl5 hdd5 hnl hpc
      go_upto_region 31 with (fail)
      go_wp2_with (refine wpList_sl_appendA rfl _ _ 38 38 rfl _ 41 i0 (.slice none 0 0) 1 24 Tryz.underlying38 hi0 hz0 hz1 hz2 rfl A9 d c9 (lo9.map SE.val) rfl HF2.out (.slice A5 nl c5) rfl nl (lo5.map SE.val) HSRC.out (by have := HL5.out; unfold maxLen; omega) (by have := HL5.out; omega) ?_; intro A8 c8 V8 hs8 hk8 ha8; have HS8 := zh hs8; have HK8 := zh hk8; have HA8 := zh ha8; clear hs8 hk8 ha8)
      go_roundw
      case rel =>
       have hJ8 := HJ5.out.push HM5.out.1 HF1.out HF3.out HM5.out.2.1 HM5.out.2.2 (by rw [← HNL.out]; exact HS8.out) HK8.out HA8.out
       exact ⟨q + 1, A8, c8, _, d5, s5, l5, R5', by omega, by go_num, by rw [HL5.out.2], hJ8, fun j hj h => by have := HALL.out j hj (by omega); simp [this]⟩
      case measure => simp [intOf]; omega
     ·have q2 : ¬ (q : Int) < (oc : Int) := by omega
      obtain ⟨k, rfl⟩ : ∃ k : Nat, q = oc + k := ⟨q - oc, by omega⟩
      have hkm : k < m := by omega
      have ek : ((oc : Int) + (k : Int) - (oc : Int)) = (k : Int) := by omega
      go_upto_region 27 with (fail)
      try rw [ek]
      have k0 : ¬ (k : Int) < 0 := by omega
      have k1 : ¬ (m : Int) ≤ (k : Int) := by omega
      have k2 : (k : Int) < (m : Int) := by omega
      have kp : (0 : Int) ≤ (k : Int) := by omega
      obtain ⟨pb, po, px, hA7, hpb, hpc, hpp⟩ := HJ.out.pdu hkm
      subst hA7
      obtain ⟨pA, pq⟩ := px
      have HRV := zh (fun V (hb : Below wr.heap.size wr V) => (HJ.out.below hb).recv HCF.out.1 HVV.out HCF.out.2.1 HCF.out.2.2.1 HN.out.1 (by have := HN.out; have := HQ.out; omega) HPL60.out HBY.out hkm pA pq (hpp.keep (KeepF.of_below (F := fun _ => False) hb) (fun _ h => h.elim)))
      obtain ⟨pl, hpl⟩ : ∃ pl, pl = pduN cf (pn k) := ⟨_, rfl⟩
      rw [← hpl] at hpc HRV
      have HKM := zh (And.intro hkm hpp)
      have HPLN := zh hpl
      clear hkm hpp hpl
      go_upto_region 29 with (go_at_call 11; refine (HRV.out _ (by first | exact Below.refl _ _ | exact (Below.refl _ _).drew)).mono ?_; rintro e w5 ⟨A5, c5, lo5, d5, s5, l5, R5', rfl, hdd, hO5, hm5, hp5, hJ5⟩; have HO5 := zh hO5; have HM5 := zh (And.intro hdd (And.intro hm5 hp5)); have HJ5 := zh hJ5; clear hdd hO5 hm5 hp5 hJ5)
      obtain ⟨lo9, f1, f2, f3⟩ := HJ5.out.out.ex
      have hf1 := f1
      have hlen9 : ((List.range d).map (fun k => svP cf k (pn k) (nf (z k)))).length = d := by rw [List.length_map, List.length_range]
      rw [hlen9] at f2
      have HF1 := zh f1
      have HF2 := zh f2
      have HF3 := zh f3
      have hdl : d5 ≤ m := HJ5.out.bs.le
      have hl5 : lo5.length = d5 - d := by
       have h := congrArg List.length HM5.out.2.1
       rwa [List.length_map, List.length_map, List.length_range'] at h
      have hdd5 := HM5.out.1
      have HL5 := zh (show d + lo5.length ≤ 24 ∧ d + lo5.length = d5 by have := HN.out; omega)
      have HSRC := zh (show Src Tryz.prog 1 38 (.slice A5 lo5.length c5) lo5.length (lo5.map SE.val) w5 from SL.src1 Tryz.underlying38 HO5.out.1 (fun u hu => by
       obtain ⟨x, _, rfl⟩ := List.mem_map.1 hu
       rfl))
      obtain ⟨nl, hnl⟩ : ∃ nl, nl = lo5.length := ⟨_, rfl⟩
      rw [← hnl] at HL5 HSRC ⊢
      have HNL := zh hnl
      clear f1 f2 f3 hf1 hlen9 hdl hl5 hdd5 hnl hpc
      go_upto_region 31 with (fail)
      go_wp2_with (refine wpList_sl_appendA rfl _ _ 38 38 rfl _ 41 i0 (.slice none 0 0) 1 24 Tryz.underlying38 hi0 hz0 hz1 hz2 rfl A9 d c9 (lo9.map SE.val) rfl HF2.out (.slice A5 nl c5) rfl nl (lo5.map SE.val) HSRC.out (by have := HL5.out; unfold maxLen; omega) (by have := HL5.out; omega) ?_; intro A8 c8 V8 hs8 hk8 ha8; have HS8 := zh hs8; have HK8 := zh hk8; have HA8 := zh ha8; clear hs8 hk8 ha8)
      go_roundw
      case rel =>
       have hJ8 := HJ5.out.push HM5.out.1 HF1.out HF3.out HM5.out.2.1 HM5.out.2.2 (by rw [← HNL.out]; exact HS8.out) HK8.out HA8.out
       exact ⟨oc + k + 1, A8, c8, _, d5, s5, l5, R5', by omega, by go_num, by rw [HL5.out.2], hJ8, fun j hj h => by
        rcases (by omega : oc + j < oc + k ∨ j = k) with h' | rfl
        ·have := HALL.out j hj h'; simp [this]
        ·simp⟩
      case measure => simp [intOf]; omega
    ·obtain rfl : q = oc + m := by omega
     have q1 : ¬ ((oc + m : Nat) : Int) < (oc : Int) + (m : Int) := by omega
     have hdm := bs_all HJ.out.bs (fun k hk => HALL.out k hk (by omega))
     subst hdm
     have HSM := zh (HJ.out.same HBY.out HR.out)
     have HST := zh (fun V (hb : Below wr.heap.size wr V) => rstat_full g5 s W4 R5 mS l mU eb V (HJ.out.rx.below hb) (by rw [HJ.out.bs.deliver]; have := HJ.out.bs.next; omega))
     have HDL := zh HJ.out.bs.deliver
     have HLW := zh HJ.out.low
     clear hlt hq HALL
     go_wp2_with (first
      | (go_at_call 18; refine (HST.out _ (by first | exact Below.refl _ _ | exact (Below.refl _ _).drew)).mono ?_; rintro e w5 ⟨rfl, hB⟩; rw [HDL.out]; have HB5 := zh hB; clear hB)
      | (go_at_call 15; refine (samel_true _ _ _ _ _ _ (by have := HN.out; unfold maxLen; omega) (HSM.out.below HB5.out)).mono ?_; rintro e w6 ⟨rfl, hB⟩; have HB6 := zh hB; clear hB)
      | (go_at_call 9; refine (HKN.out _).mono ?_; rintro e w7 ⟨rfl, hB⟩; have HB7 := zh hB; clear hB))
     go_ret
     have h1 := HLW.out.trans (HB5.out.mono HLW.out.size)
     have h2 := h1.trans (HB6.out.mono h1.size)
     exact ⟨rfl, h2.trans (HB7.out.mono h2.size)⟩
end Go.Proofs.YtmdpiajhfohagaaGreat
