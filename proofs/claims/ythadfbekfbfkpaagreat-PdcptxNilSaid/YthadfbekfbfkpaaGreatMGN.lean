/- SameForward of the reference is true of states that read alike. the reference's Valid; equality of configurations. One new transmitter among a law's calls; PdcptxWindow: the walk. pdcptx: the calls of a nil or a zero transmitter. Printed by gen/xzt.py. PdcptxNil: the walk. an array by value among a law's arguments. -/
import Derived.Test.YthadfbekfbfkpaaGreatMGI
import Derived.Laws.StructEq
import Derived.ChangeKeysEq
import Derived.ProofKit
import Derived.OpenShut
import Derived.ChangeOld
namespace Go.Proofs.YthadfbekfbfkpaaGreat
open Go.RowKit
set_option linter.unusedVariables false
attribute [local go_sem ↓] Go.wp_at_zero Go.wp_at_succ

/-- element k of a slice of counted packets; of a slice of packets -/
def CE2 (w : World) (A : Option Addr) (k : Nat) (ct : Int) (n : Nat) (z : Nat → Int) : Prop :=
  ∃ lb lo PA pc, A = some ⟨lb, lo, none⟩ ∧ lb < w.heap.size ∧ w.cell? ⟨lb, lo + k * 2, none⟩ = some (.int .u32 ct) ∧ w.cell? ⟨lb, lo + k * 2 + 1, none⟩ = some (.slice PA n pc) ∧ Row w w.heap.size PA n (fun j => .int .u8 (z j))
def BE2 (w : World) (A : Option Addr) (k : Nat) (n : Nat) (z : Nat → Int) : Prop :=
  ∃ lb lo PA pc, A = some ⟨lb, lo, none⟩ ∧ lb < w.heap.size ∧ w.cell? ⟨lb, lo + k, none⟩ = some (.slice PA n pc) ∧ Row w w.heap.size PA n (fun j => .int .u8 (z j))
theorem CE2.below {w w' : World} {A : Option Addr} {k : Nat} {ct : Int} {n : Nat} {z : Nat → Int} (h : CE2 w A k ct n z) (hb : Below w.heap.size w w') : CE2 w' A k ct n z := by
  obtain ⟨lb, lo, PA, pc, h1, h2, h3, h4, h5⟩ := h
  exact ⟨lb, lo, PA, pc, h1, Nat.lt_of_lt_of_le h2 hb.size, (hb.cell (p := ⟨lb, lo + k * 2, none⟩) h2).trans h3, (hb.cell (p := ⟨lb, lo + k * 2 + 1, none⟩) h2).trans h4, h5.next hb⟩
theorem BE2.below {w w' : World} {A : Option Addr} {k : Nat} {n : Nat} {z : Nat → Int} (h : BE2 w A k n z) (hb : Below w.heap.size w w') : BE2 w' A k n z := by
  obtain ⟨lb, lo, PA, pc, h1, h2, h3, h5⟩ := h
  exact ⟨lb, lo, PA, pc, h1, Nat.lt_of_lt_of_le h2 hb.size, (hb.cell (p := ⟨lb, lo + k, none⟩) h2).trans h3, h5.next hb⟩
def SameC (w : World) (A A' : Option Addr) (m : Nat) : Prop := ∀ k, k < m → ∃ ct n z z', CE2 w A k ct n z ∧ CE2 w A' k ct n z' ∧ ∀ j, j < n → z j = z' j
def SameB (w : World) (A A' : Option Addr) (m : Nat) : Prop := ∀ k, k < m → ∃ n z z', BE2 w A k n z ∧ BE2 w A' k n z' ∧ ∀ j, j < n → z j = z' j
theorem SameC.below {w w' : World} {A A' : Option Addr} {m : Nat} (h : SameC w A A' m) (hb : Below w.heap.size w w') : SameC w' A A' m := fun k hk => by
  obtain ⟨ct, n, z, z', h1, h2, h3⟩ := h k hk
  exact ⟨ct, n, z, z', h1.below hb, h2.below hb, h3⟩
theorem SameB.below {w w' : World} {A A' : Option Addr} {m : Nat} (h : SameB w A A' m) (hb : Below w.heap.size w w') : SameB w' A A' m := fun k hk => by
  obtain ⟨n, z, z', h1, h2, h3⟩ := h k hk
  exact ⟨n, z, z', h1.below hb, h2.below hb, h3⟩
set_option maxRecDepth 100000 in
set_option maxHeartbeats 1600000 in
theorem samec_true (A A' : Option Addr) (m c c' : Nat) (w : World) (hm : m ≤ maxLen) (h : SameC w A A' m) :
    Calls Tryz.prog 93 #[.slice A m c, .slice A' m c'] w fun e w' => e = .returned (.bool true) ∧ Below w.heap.size w w' := by
  unfold maxLen at hm
  have HS := Lib.hid h
  have hm' : (m : Int) ≤ 9223372036854775807 := by omega
  clear h
  go_enter Tryz.func93, Tryz.ntmps93
  go_wp2
  go_loopw [5] (fun v wr => ∃ k : Nat, k ≤ m ∧ v = .int .i64 k ∧ Below w.heap.size w wr) (fun v _ => m - (intOf v).toNat)
  case atStart => exact ⟨0, by omega, rfl, Below.refl _ _⟩
  case round =>
    obtain ⟨k, hk, rfl, hb⟩ := hrel
    by_cases hlt : k < m
    · obtain ⟨ct, n, z, z', ⟨lb, lo, PA, pc, rfl, h2, h3, h4, h5⟩, ⟨lb', lo', PA', pc', rfl, k2, k3, k4, k5⟩, he⟩ := (HS.out.below hb) k hlt
      have s1 := fun q => row_string (P := Tryz.prog) (w := wr.drewN q) 46 9 5 Tryz.underlying46 Tryz.underlying5 Tryz.underlying9 (show Row (wr.drewN q) wr.heap.size PA n (fun j => .int .u8 (z j)) from h5) pc
      have s2 := fun q => row_string (P := Tryz.prog) (w := wr.drewN q) 46 9 5 Tryz.underlying46 Tryz.underlying5 Tryz.underlying9 (show Row (wr.drewN q) wr.heap.size PA' n (fun j => .int .u8 (z' j)) from k5) pc'
      rw [← bytesOf_congr he] at s2
      have BB := Lib.hid hb
      have k0 : (0 : Int) ≤ (k : Int) := by omega
      have k1 : (k : Int) < (m : Int) := by omega
      clear h5 k5 he hb
      go_upto_region 6 with (fail)
      have hg : (ct != ct) = false := by simp
      go_quiet (fail)
      go_wp2
      go_roundw
      case rel => exact ⟨k + 1, by omega, by go_num, below_drewN BB.out _⟩
      case measure => simp [intOf]; omega
    · obtain rfl : k = m := by omega
      have BB := Lib.hid hb
      clear hb
      go_wp2
      go_ret
      exact ⟨rfl, BB.out⟩
set_option maxRecDepth 100000 in
set_option maxHeartbeats 1600000 in
theorem samel_true (A A' : Option Addr) (m c c' : Nat) (w : World) (hm : m ≤ maxLen) (h : SameB w A A' m) :
    Calls Tryz.prog 52 #[.slice A m c, .slice A' m c'] w fun e w' => e = .returned (.bool true) ∧ Below w.heap.size w w' := by
  unfold maxLen at hm
  have HS := Lib.hid h
  have hm' : (m : Int) ≤ 9223372036854775807 := by omega
  clear h
  go_enter Tryz.func52, Tryz.ntmps52
  go_wp2
  go_loopw [5] (fun v wr => ∃ k : Nat, k ≤ m ∧ v = .int .i64 k ∧ Below w.heap.size w wr) (fun v _ => m - (intOf v).toNat)
  case atStart => exact ⟨0, by omega, rfl, Below.refl _ _⟩
  case round =>
    obtain ⟨k, hk, rfl, hb⟩ := hrel
    by_cases hlt : k < m
    · obtain ⟨n, z, z', ⟨lb, lo, PA, pc, rfl, h2, h3, h5⟩, ⟨lb', lo', PA', pc', rfl, k2, k3, k5⟩, he⟩ := (HS.out.below hb) k hlt
      have s1 := fun q => row_string (P := Tryz.prog) (w := wr.drewN q) 46 9 5 Tryz.underlying46 Tryz.underlying5 Tryz.underlying9 (show Row (wr.drewN q) wr.heap.size PA n (fun j => .int .u8 (z j)) from h5) pc
      have s2 := fun q => row_string (P := Tryz.prog) (w := wr.drewN q) 46 9 5 Tryz.underlying46 Tryz.underlying5 Tryz.underlying9 (show Row (wr.drewN q) wr.heap.size PA' n (fun j => .int .u8 (z' j)) from k5) pc'
      rw [← bytesOf_congr he] at s2
      have BB := Lib.hid hb
      have k0 : (0 : Int) ≤ (k : Int) := by omega
      have k1 : (k : Int) < (m : Int) := by omega
      clear h5 k5 he hb
      go_upto_region 6 with (fail)
      go_quiet (fail)
      go_wp2
      go_roundw
      case rel => exact ⟨k + 1, by omega, by go_num, below_drewN BB.out _⟩
      case measure => simp [intOf]; omega
    · obtain rfl : k = m := by omega
      have BB := Lib.hid hb
      clear hb
      go_wp2
      go_ret
      exact ⟨rfl, BB.out⟩
set_option maxRecDepth 100000 in
set_option maxHeartbeats 1600000 in
theorem samef_true (nx : Int) (us : Bool) (A A' C C' : Option Addr) (m c c' mq d d' : Nat) (w : World) (hm : m ≤ maxLen) (hmq : mq ≤ maxLen) (h : SameC w A A' m) (h2 : SameB w C C' mq) :
    Calls Tryz.prog 31 #[.agg #[.int .u32 nx, .bool us, .slice A m c, .slice C mq d], .agg #[.int .u32 nx, .bool us, .slice A' m c', .slice C' mq d']] w fun e w' => e = .returned (.bool true) ∧ Below w.heap.size w w' := by
  have HC := Lib.hid (fun (V : World) (hb : Below w.heap.size w V) => samec_true A A' m c c' V hm (h.below hb))
  have HL := Lib.hid (fun (V : World) (hb : Below w.heap.size w V) => samel_true C C' mq d d' V hmq (h2.below hb))
  clear h h2 hm hmq
  go_enter Tryz.func31, Tryz.ntmps31
  go_upto_region 1 with (fail)
  refine wp_let (fun V => Blk V w.heap.size 30 #[.int .u32 nx, .bool us, .slice A m c, .slice C mq d] ∧ Blk V (w.heap.size + 1) 30 #[.int .u32 nx, .bool us, .slice A' m c', .slice C' mq d'] ∧ Below w.heap.size w V) ⟨(Blk.new _ _ _).alloc _, blk_atZ _ _ _ _ (by simp), ((Below.refl _ w).alloc (Nat.le_refl _) _).alloc (by simp) _⟩ ?_
  rintro W1 ⟨b1, b2, b3⟩
  obtain ⟨fa, hfa⟩ : ∃ fa, fa = w.heap.size := ⟨_, rfl⟩
  have B1 := Lib.hid b1
  have B2 := Lib.hid b2
  have B3 := Lib.hid b3
  have x0 := b1.cell 0
  have x1 := b1.cell 1
  have x2 := b1.cell 2
  have x3 := b1.cell 3
  have y0 := b2.cell 0
  have y1 := b2.cell 1
  have y2 := b2.cell 2
  have y3 := b2.cell 3
  simp at x0 x1 x2 x3 y0 y1 y2 y3
  clear b1 b2 b3 hfa
  go_wp2_with (first
    | (go_at_call 93; refine (HC.out _ B3.out).mono ?_; rintro e w2 ⟨rfl, hb⟩; have B4 := Lib.hid (B3.out.trans (hb.mono B3.out.size)); have P1 := B1.out.below hb B1.out.lt; have P2 := B2.out.below hb B2.out.lt; have u3 := P1.cell 3; have v3 := P2.cell 3; simp at u3 v3; clear hb P1 P2)
    | (go_at_call 52; refine (HL.out _ B4.out).mono ?_; rintro e w3 ⟨rfl, hb⟩; have B5 := Lib.hid (B4.out.trans (hb.mono B4.out.size)); clear hb))
  go_ret
  exact ⟨rfl, B5.out⟩
end Go.Proofs.YthadfbekfbfkpaaGreat
namespace Go.Proofs.YthadfbekfbfkpaaGreat
open Go.RowKit
set_option linter.unusedVariables false
attribute [local go_sem ↓] Go.wp_at_zero Go.wp_at_succ

set_option maxRecDepth 100000 in
set_option maxHeartbeats 1600000 in
theorem rvalid45_ok (c : Cfg) (w : World) : Calls Tryz.prog 23 #[.agg c.arr] w fun e w' => e = .returned (.bool (decide c.Valid)) ∧ Below w.heap.size w w' := by
  have h0 : c.arr[0]? = some (.int .i64 c.b) := c.arr_at (by decide)
  have h1 : c.arr[1]? = some (.int .i64 c.d) := c.arr_at (by decide)
  have h2 : c.arr[37]? = some (.int .i64 c.ds) := c.arr_at (by decide)
  have h3 : c.arr[38]? = some (.int .i64 c.ro) := c.arr_at (by decide)
  have HV := Lib.hid (show c.Valid ↔ (0 ≤ c.b ∧ c.b ≤ 31 ∧ (c.d = 0 ∨ c.d = 1) ∧ 0 ≤ c.ds ∧ c.ds ≤ 1073741824 ∧ 0 ≤ c.ro ∧ c.ro ≤ 1073741824) from Iff.rfl)
  obtain ⟨V, hV⟩ : ∃ V, V = decide c.Valid := ⟨_, rfl⟩
  have HD := Lib.hid (show V = true ↔ c.Valid from by rw [hV]; exact decide_eq_true_iff)
  obtain ⟨Z, hZ⟩ : ∃ Z, Z = c.arr := ⟨_, rfl⟩
  rw [← hV]
  rw [← hZ] at h0 h1 h2 h3 ⊢
  obtain ⟨b, hb⟩ : ∃ b, b = c.b := ⟨_, rfl⟩
  obtain ⟨d, hd⟩ : ∃ d, d = c.d := ⟨_, rfl⟩
  obtain ⟨ds, hds⟩ : ∃ ds, ds = c.ds := ⟨_, rfl⟩
  obtain ⟨ro, hro⟩ : ∃ ro, ro = c.ro := ⟨_, rfl⟩
  rw [← hb] at h0 HV
  rw [← hd] at h1 HV
  rw [← hds] at h2 HV
  rw [← hro] at h3 HV
  clear hZ hV hb hd hds hro
  go_enter Tryz.func23, Tryz.ntmps23
  go_upto_region 1 with (fail)
  refine wp_let (fun W => Blk W w.heap.size 25 Z ∧ Below w.heap.size w W) ⟨Blk.new _ _ _, (Below.refl _ w).alloc (Nat.le_refl _) _⟩ ?_
  rintro W1 ⟨b1, b2⟩
  have x0 := (b1.cell 0).trans h0
  have x1 := (b1.cell 1).trans h1
  have x2 := (b1.cell 37).trans h2
  have x3 := (b1.cell 38).trans h3
  have HB := Lib.hid b2
  clear b1 b2 h0 h1 h2 h3
  have hout : ∀ r : Bool, (r = true ↔ (0 ≤ b ∧ b ≤ 31 ∧ (d = 0 ∨ d = 1) ∧ 0 ≤ ds ∧ ds ≤ 1073741824 ∧ 0 ≤ ro ∧ ro ≤ 1073741824)) → r = V := fun r hr => by
    rw [Bool.eq_iff_iff, hr, HD.out, HV.out]
  have HO := Lib.hid hout
  clear hout
  by_cases c0 : 0 ≤ b
  rotate_left
  · go_wp2
    go_ret
    exact ⟨ret_bool (HO.out _ ⟨fun h => (by cases h), fun h => (by omega)⟩), HB.out⟩
  by_cases c1 : b ≤ 31
  rotate_left
  · go_wp2
    go_ret
    exact ⟨ret_bool (HO.out _ ⟨fun h => (by cases h), fun h => (by omega)⟩), HB.out⟩
  by_cases c2 : d = 0 ∨ d = 1
  rotate_left
  · have d0 : (d == 0) = false := by simp; exact fun h => c2 (.inl h)
    have d1 : (d == 1) = false := by simp; exact fun h => c2 (.inr h)
    have HC2 := Lib.hid c2
    clear c2
    go_wp2
    go_ret
    exact ⟨ret_bool (HO.out _ ⟨fun h => (by cases h), fun h => (absurd h.2.2.1 HC2.out)⟩), HB.out⟩
  by_cases c3 : 0 ≤ ds
  rotate_left
  · rcases c2 with rfl | rfl
    · go_wp2
      go_ret
      exact ⟨ret_bool (HO.out _ ⟨fun h => (by cases h), fun h => (by omega)⟩), HB.out⟩
    · go_wp2
      go_ret
      exact ⟨ret_bool (HO.out _ ⟨fun h => (by cases h), fun h => (by omega)⟩), HB.out⟩
  by_cases c4 : ds ≤ 1073741824
  rotate_left
  · rcases c2 with rfl | rfl
    · go_wp2
      go_ret
      exact ⟨ret_bool (HO.out _ ⟨fun h => (by cases h), fun h => (by omega)⟩), HB.out⟩
    · go_wp2
      go_ret
      exact ⟨ret_bool (HO.out _ ⟨fun h => (by cases h), fun h => (by omega)⟩), HB.out⟩
  by_cases c5 : 0 ≤ ro
  rotate_left
  · rcases c2 with rfl | rfl
    · go_wp2
      go_ret
      exact ⟨ret_bool (HO.out _ ⟨fun h => (by cases h), fun h => (by omega)⟩), HB.out⟩
    · go_wp2
      go_ret
      exact ⟨ret_bool (HO.out _ ⟨fun h => (by cases h), fun h => (by omega)⟩), HB.out⟩
  by_cases c6 : ro ≤ 1073741824
  · rcases c2 with rfl | rfl
    · go_wp2
      go_ret
      exact ⟨ret_bool (HO.out _ ⟨fun h => ⟨by omega, by omega, by simp, by omega, by omega, by omega, by omega⟩, fun h => rfl⟩), HB.out⟩
    · go_wp2
      go_ret
      exact ⟨ret_bool (HO.out _ ⟨fun h => ⟨by omega, by omega, by simp, by omega, by omega, by omega, by omega⟩, fun h => rfl⟩), HB.out⟩
  · rcases c2 with rfl | rfl
    · go_wp2
      go_ret
      exact ⟨ret_bool (HO.out _ ⟨fun h => (by cases h), fun h => (by omega)⟩), HB.out⟩
    · go_wp2
      go_ret
      exact ⟨ret_bool (HO.out _ ⟨fun h => (by cases h), fun h => (by omega)⟩), HB.out⟩
theorem cells5 : Tryz.prog.cellsOf 5 = 1 := by kernel_rfl
theorem k_part (f : Nat → Int) (i : Nat) (hi : i < 16) (w : World) : (part 5 (kArr f) (i * 1)).run Tryz.prog w = .ok (.int .u8 (f i)) w := by
  obtain ⟨q, hq, _, hqs, _⟩ := info_parts Tryz.infoByte
  have h := kArr_at f i hi
  simp [part, Sem.run_bind, sizeOf, typeInfo, hq, hqs, h]
theorem k_items (f : Nat → Int) (d : Nat) : ∀ (is : List Nat) (_ : ∀ i, i ∈ is → i < 16) (w : World), (Op.eqItems (d + 1) 5 1 (kArr f) (kArr f) is).run Tryz.prog w = .ok true w
  | [], _, w => by simp [Op.eqItems]
  | i :: is, h, w => by
    simp only [Op.eqItems, Sem.run_bind, k_part f i (h i (by simp)) w, Result.andThen_ok]
    have hr := k_items f d is (fun j hj => h j (by simp [hj])) w
    simp [go_sem, hr]
theorem k_self (f : Nat → Int) (d : Nat) (w : World) : (Op.equalIn (d + 2) 23 (.agg (kArr f)) (.agg (kArr f))).run Tryz.prog w = .ok true w := by
  obtain ⟨q, hq, _⟩ := info_parts Tryz.infoByte
  rw [run_equalIn_array w (d + 1) (kArr f) (kArr f) Tryz.underlying23 hq, cells5, k_items f d (List.range 16) (fun i hi => by simpa using hi) w]
set_option maxRecDepth 100000 in
set_option maxHeartbeats 4000000 in
theorem cfg_self (c : Cfg) (w : World) : (binOp .eql 25 (.agg c.arr) (.agg c.arr)).run Tryz.prog w = .ok (.bool true) w := by
  have h1 := fun w => k_self c.key 9997 w
  have h2 := fun w => k_self c.code 9997 w
  rw [cfgLit_eq]
  unfold cfgLit
  simp only [kArr] at h1 h2
  simp [go_sem, h1, h2]
end Go.Proofs.YthadfbekfbfkpaaGreat
namespace Go.Proofs.YthadfbekfbfkpaaGreat
open Go.RowKit
set_option linter.unusedVariables false
attribute [local go_sem ↓] Go.wp_at_zero Go.wp_at_succ

/-- a transmitter of blocks that w0 had not -/
def Solo (w0 w : World) (g : Nat) (s : TS) : Prop := ∃ W R, TxI w g s W R ∧ (∀ k, W k → w0.heap.size ≤ k) ∧ Below w0.heap.size w0 w
section
variable {w0 w w' : World} {g : Nat} {s : TS}
theorem Solo.of_new {w1 : World} (hb : Below w0.heap.size w0 w1) (h : TxNewO w1 w g s) : Solo w0 w g s := by
  obtain ⟨W, R, h1, h2, h3, h4⟩ := h
  exact ⟨W, R, h1, fun k hk => Nat.le_trans hb.size (h2 k hk), hb.trans (h4.mono hb.size)⟩
theorem Solo.low (h : Solo w0 w g s) : Below w0.heap.size w0 w := by
  obtain ⟨W, R, h1, h2, h3⟩ := h
  exact h3
theorem Solo.below (h : Solo w0 w g s) (hb : Below w.heap.size w w') : Solo w0 w' g s := by
  obtain ⟨W, R, h1, h2, h3⟩ := h
  exact ⟨W, R, h1.below hb, h2, h3.trans (hb.mono h3.size)⟩
theorem Solo.call (h : Solo w0 w g s) : ∃ W R, TxI w g s W R ∧ (∀ k, W k → w0.heap.size ≤ k) ∧ ∀ w' s', TxO W R w w' g s' → Solo w0 w' g s' := by
  obtain ⟨W, R, h1, h2, h3⟩ := h
  refine ⟨W, R, h1, h2, fun w' s' hO => ?_⟩
  obtain ⟨W', R', hI, hW, hR, hK⟩ := hO
  have hs := h3.size
  exact ⟨W', R', hI, fun k hk => by
    rcases hW k hk with h | h
    · exact h2 k h
    · omega, KeepF.below h3 hK (fun k hk => h2 k hk) hs⟩
/-- Next of such a transmitter -/
theorem solo_next (h : Solo w0 w g s) (hf : s.Fine) (hig : s.C.ig = false) (hcm : s.C.cm = false) (hpl : s.P.length ≤ 1000000) (t : Int) (ht1 : -9223372036854775808 ≤ t) (ht2 : t ≤ 9223372036854775807) :
    Calls Tryz.prog 34 #[.pointer (some ⟨g, 0, none⟩), .int .i64 t] w fun e w' => ∃ A c, e = .returned (.tuple #[.slice A (s.send t).n c, .int .u32 (s.send t).ct, .int .i64 (s.send t).e]) ∧ (s.send t).n ≤ c ∧ Row w' w'.heap.size A (s.send t).n (fun j => .int .u8 (((s.send t).z j : Nat) : Int)) ∧ Solo w0 w' g (s.send t).s := by
  obtain ⟨W, R, hI, hW, hc⟩ := h.call
  refine (tNext_ok g s W R w hI hf t ht1 ht2 (builds_plain g s.C hf.ok hf.val hig hcm) hpl).mono ?_
  rintro e w' ⟨A, c, W', R', h1, h2, h3, h4, h5, h6, h7, h8⟩
  exact ⟨A, c, h1, h2, h3, hc w' _ ⟨W', R', h4, h5, h6, h7⟩⟩
theorem solo_confirm (h : Solo w0 w g s) (x : Int) (i : Nat) (e0 : PV) (he : s.P[i]? = some e0) (hx : e0.ct = x) (hno : ∀ j, j < i → ∀ e, s.P[j]? = some e → e.ct ≠ x) :
    Calls Tryz.prog 37 #[.pointer (some ⟨g, 0, none⟩), .int .u32 x] w fun e w' => e = .returned (.int .i64 0) ∧ Solo w0 w' g { s with P := s.P.eraseIdx i } := by
  obtain ⟨W, R, hI, hW, hc⟩ := h.call
  exact (tconfirm_ok g s W R w hI x i e0 he hx hno).mono fun e w' ⟨h1, h2⟩ => ⟨h1, hc w' _ h2⟩
theorem solo_confirm_no (h : Solo w0 w g s) (x : Int) (hno : ∀ e, e ∈ s.P → e.ct ≠ x) :
    Calls Tryz.prog 37 #[.pointer (some ⟨g, 0, none⟩), .int .u32 x] w fun e w' => e = .returned (.int .i64 10) ∧ Solo w0 w' g s := by
  obtain ⟨W, R, hI, hW, hc⟩ := h.call
  exact (tconfirm_no g s W R w hI x hno).mono fun e w' ⟨h1, h2⟩ => ⟨h1, h.below h2⟩
end
def cf1 : Cfg := { Cfg.zero with ac := true }
theorem cf1_lit : cf1.arr = #[.int .i64 0, .int .i64 0, .int .u8 0, .int .u8 0, .int .u8 0, .int .u8 0, .int .u8 0, .int .u8 0, .int .u8 0, .int .u8 0, .int .u8 0, .int .u8 0, .int .u8 0, .int .u8 0, .int .u8 0, .int .u8 0, .int .u8 0, .int .u8 0, .int .u8 0, .int .u8 0, .int .u8 0, .int .u8 0, .int .u8 0, .int .u8 0, .int .u8 0, .int .u8 0, .int .u8 0, .int .u8 0, .int .u8 0, .int .u8 0, .int .u8 0, .int .u8 0, .int .u8 0, .int .u8 0, .bool false, .bool false, .bool true, .int .i64 0, .int .i64 0] := by kernel_rfl
theorem cf1_ok : cf1.Ok := ⟨fun _ _ => ⟨Int.le_refl 0, by show (0 : Int) < 256; decide⟩, fun _ _ => ⟨Int.le_refl 0, by show (0 : Int) < 256; decide⟩⟩
theorem cf1_valid : cf1.Valid := by unfold cf1 Cfg.zero Cfg.Valid; decide
/-- the states of PdcptxWindow -/
def wS0 (nx fi : Int) (z y0 y1 : Nat → Int) : TS := ⟨cf1, 0, nx, [⟨1, y0, 0⟩, ⟨1, y1, 0⟩], [⟨fi, 1, z, true⟩], [kArr cf1.key], cNew⟩
def wS1 (nx fi : Int) (z y0 y1 : Nat → Int) : TS := { wS0 nx fi z y0 y1 with P := [⟨fi, 1, z, false⟩] }
def wS2 (nx fi : Int) (z y0 y1 : Nat → Int) : TS := { wS0 nx fi z y0 y1 with Q := [⟨1, y1, 0⟩], next := nx + 1, P := [⟨fi, 1, z, false⟩, ⟨nx, 1, y0, false⟩] }
theorem fine_of {s : TS} (h : s.C = cf1) (hq : ∀ q, q ∈ s.Q → q.at_ = 0) (hn : 0 ≤ s.now) : s.Fine := ⟨by rw [h]; exact cf1_ok, by rw [h]; exact cf1_valid, fun q h2 => by rw [hq q h2]; exact ⟨Int.le_refl _, hn⟩⟩
theorem tick0 {s : TS} (h : s.C.ds = 0) (hn : s.now = 0) : s.tick 0 = s := by
  rw [TS.tick_zero h, hn]
  have : max (0 : Int) 0 = s.now := by rw [hn]; rfl
  rw [this]
section
variable {nx fi : Int} {z y0 y1 : Nat → Int}
theorem w_send0 : (wS0 nx fi z y0 y1).send 0 = ⟨pduN cf1 1, pduZ cf1 fi.toNat 1 (nf z), fi, 0, wS1 nx fi z y0 y1⟩ := by
  unfold TS.send
  rw [if_neg (by decide), tick0 rfl rfl]
  rfl
theorem w_send1_full (h1 : nx ≠ 4294967296) (h : 2048 ≤ (nx - fi) % 18446744073709551616) : (wS1 nx fi z y0 y1).send 0 = ⟨0, zB, 0, 7, wS1 nx fi z y0 y1⟩ := by
  unfold TS.send
  rw [if_neg (by decide), tick0 rfl rfl]
  show (if nx = 4294967296 then _ else if decide (2048 ≤ (nx - fi) % 18446744073709551616) = true then _ else _) = _
  rw [if_neg h1, if_pos (decide_eq_true h)]
theorem w_send1 (h1 : nx ≠ 4294967296) (h : ¬ 2048 ≤ (nx - fi) % 18446744073709551616) : (wS1 nx fi z y0 y1).send 0 = ⟨pduN cf1 1, pduZ cf1 nx.toNat 1 (nf y0), nx, 0, wS2 nx fi z y0 y1⟩ := by
  unfold TS.send
  rw [if_neg (by decide), tick0 rfl rfl]
  show (if nx = 4294967296 then _ else if decide (2048 ≤ (nx - fi) % 18446744073709551616) = true then _ else _) = _
  rw [if_neg h1, if_neg (by rw [decide_eq_false h]; decide)]
  rfl
theorem w_send2_full (h1 : nx ≠ 4294967296) : (({ wS1 nx fi z y0 y1 with P := [] } : TS).send 0).e = 0 := by
  unfold TS.send
  rw [if_neg (by decide), tick0 rfl rfl]
  show (if nx = 4294967296 then _ else _ : NX).e = 0
  rw [if_neg h1]
  rfl
theorem w_send2 (h1 : nx + 1 ≠ 4294967296) : (({ wS2 nx fi z y0 y1 with P := [⟨nx, 1, y0, false⟩] } : TS).send 0).e = 0 := by
  unfold TS.send
  rw [if_neg (by decide), tick0 rfl rfl]
  show (if nx + 1 = 4294967296 then _ else if decide (2048 ≤ (nx + 1 - nx) % 18446744073709551616) = true then _ else _ : NX).e = 0
  rw [if_neg h1, show nx + 1 - nx = 1 by omega]
  rfl
end
end Go.Proofs.YthadfbekfbfkpaaGreat
namespace Go.Proofs.YthadfbekfbfkpaaGreat
open Go.RowKit
set_option linter.unusedVariables false
attribute [local go_sem ↓] Go.wp_at_zero Go.wp_at_succ

def zT : Array Value := #[.int .i64 0, .int .i64 0, .int .u8 0, .int .u8 0, .int .u8 0, .int .u8 0, .int .u8 0, .int .u8 0, .int .u8 0, .int .u8 0, .int .u8 0, .int .u8 0, .int .u8 0, .int .u8 0, .int .u8 0, .int .u8 0, .int .u8 0, .int .u8 0, .int .u8 0, .int .u8 0, .int .u8 0, .int .u8 0, .int .u8 0, .int .u8 0, .int .u8 0, .int .u8 0, .int .u8 0, .int .u8 0, .int .u8 0, .int .u8 0, .int .u8 0, .int .u8 0, .int .u8 0, .int .u8 0, .bool false, .bool false, .bool false, .int .i64 0, .int .i64 0, .bool false, .int .i64 0, .int .u64 0, .slice none 0 0, .slice none 0 0, .map none, .pointer none]
/-- a transmitter that is nil or has only zero cells -/
def TZ (p : Value) (w : World) : Prop := p = .pointer none ∨ ∃ g, p = .pointer (some ⟨g, 0, none⟩) ∧ Blk w g 65 zT
theorem TZ.none {p : Value} {w : World} (h : TZ p w) : TNone p w := by
  rcases h with rfl | ⟨g, rfl, h⟩
  · exact .inl rfl
  · exact .inr ⟨g, rfl, h.lt, h.cell 39⟩
theorem TZ.below {p : Value} {w w' : World} (h : TZ p w) (hb : Below w.heap.size w w') : TZ p w' := by
  rcases h with rfl | ⟨g, rfl, h⟩
  · exact .inl rfl
  · exact .inr ⟨g, rfl, h.below hb h.lt⟩
theorem tick_none (p : Value) (t : Int) (w : World) (h : TNone p w) : Calls Tryz.prog 94 #[p, .int .i64 t] w fun e w' => e = .returned (.int .i64 1) ∧ Below w.heap.size w w' := by
  have HN := Lib.hid (fun (V : World) (hb : Below w.heap.size w V) => tnone_ok p V (h.below hb))
  rcases h with rfl | ⟨g, rfl, _, _⟩
  all_goals
    go_enter Tryz.func94, Tryz.ntmps94
    go_wp2_with (go_at_call 88; refine (HN.out _ ((Below.refl _ w).alloc (Nat.le_refl _) _)).mono ?_; rintro e w2 ⟨rfl, rfl⟩)
    go_ret
    exact ⟨rfl, (Below.refl _ w).alloc (Nat.le_refl _) _⟩
theorem next_none (p : Value) (t : Int) (w : World) (h : TNone p w) : Calls Tryz.prog 34 #[p, .int .i64 t] w fun e w' => e = .returned (.tuple #[.slice none 0 0, .int .u32 0, .int .i64 1]) ∧ Below w.heap.size w w' := by
  have HT := Lib.hid (tick_none p t w h)
  clear h
  go_enter Tryz.func34, Tryz.ntmps34
  go_wp2_with (go_at_call 94; refine (HT.out).mono ?_; rintro e w2 ⟨rfl, hB⟩; have HB := Lib.hid hB; clear hB)
  go_ret3
  exact ⟨rfl, HB.out⟩
theorem sub_none (p x : Value) (t : Int) (w : World) (h : TNone p w) : Calls Tryz.prog 36 #[p, .int .i64 t, x] w fun e w' => e = .returned (.int .i64 1) ∧ Below w.heap.size w w' := by
  have HT := Lib.hid (tick_none p t w h)
  clear h
  go_enter Tryz.func36, Tryz.ntmps36
  go_wp2_with (go_at_call 94; refine (HT.out).mono ?_; rintro e w2 ⟨rfl, hB⟩; have HB := Lib.hid hB; clear hB)
  go_ret
  exact ⟨rfl, HB.out⟩
theorem conf_none (p : Value) (x : Int) (w : World) (h : TNone p w) : Calls Tryz.prog 37 #[p, .int .u32 x] w fun e w' => e = .returned (.int .i64 1) ∧ Below w.heap.size w w' := by
  have HN := Lib.hid (fun (V : World) (hb : Below w.heap.size w V) => tnone_ok p V (h.below hb))
  clear h
  go_enter Tryz.func37, Tryz.ntmps37
  go_wp2_with (go_at_call 88; refine (HN.out _ ((Below.refl _ w).alloc (Nat.le_refl _) _)).mono ?_; rintro e w2 ⟨rfl, rfl⟩)
  go_ret
  exact ⟨rfl, (Below.refl _ w).alloc (Nat.le_refl _) _⟩
theorem rekey_none (p : Value) (K C : Array Value) (w : World) (h : TNone p w) : Calls Tryz.prog 38 #[p, .agg K, .agg C] w fun e w' => e = .returned (.int .i64 1) ∧ Below w.heap.size w w' := by
  have HN := Lib.hid (fun (V : World) (hb : Below w.heap.size w V) => tnone_ok p V (h.below hb))
  clear h
  go_enter Tryz.func38, Tryz.ntmps38
  go_wp2_with (go_at_call 88; refine (HN.out _ (((Below.refl _ w).alloc (Nat.le_refl _) _).alloc (by simp) _)).mono ?_; rintro e w2 ⟨rfl, rfl⟩)
  go_ret
  exact ⟨rfl, ((Below.refl _ w).alloc (Nat.le_refl _) _).alloc (by simp) _⟩
theorem feed_none (p x : Value) (w : World) (h : TNone p w) : Calls Tryz.prog 39 #[p, x] w fun e w' => e = .returned (.int .i64 1) ∧ Below w.heap.size w w' := by
  have HN := Lib.hid (tnone_ok p w h)
  clear h
  go_enter Tryz.func39, Tryz.ntmps39
  go_wp2_with (go_at_call 88; refine (HN.out).mono ?_; rintro e w2 ⟨rfl, rfl⟩)
  go_ret
  exact ⟨rfl, Below.refl _ _⟩
theorem freshT_none (p : Value) (K : Array Value) (w : World) (h : TNone p w) : Calls Tryz.prog 40 #[p, .agg K] w fun e w' => e = .returned (.bool false) ∧ Below w.heap.size w w' := by
  have HN := Lib.hid (fun (V : World) (hb : Below w.heap.size w V) => tnone_ok p V (h.below hb))
  clear h
  go_enter Tryz.func40, Tryz.ntmps40
  go_upto_region 1 with (fail)
  refine wp_let (fun V => Below w.heap.size w V) ((Below.refl _ w).alloc (Nat.le_refl _) _) ?_
  intro V hV
  have HV := Lib.hid hV
  clear hV
  go_quiet ((go_at_call 88; exact Calls.quiet_of_same ((HN.out _ (below_drewN HV.out _)).mono (fun _ _ h => ⟨h.1, h.2.symm⟩))))
  go_wp2
  go_ret
  exact ⟨rfl, HV.out.trans (below_drewN (Below.refl _ _) _)⟩
theorem copy_none (p : Value) (w : World) (h : TNone p w) : Calls Tryz.prog 30 #[p] w fun e w' => e = .returned (.pointer none) ∧ Below w.heap.size w w' := by
  have HN := Lib.hid (tnone_ok p w h)
  clear h
  go_enter Tryz.func30, Tryz.ntmps30
  go_wp2_with (go_at_call 88; refine (HN.out).mono ?_; rintro e w2 ⟨rfl, rfl⟩)
  go_ret
  exact ⟨rfl, Below.refl _ _⟩
theorem queued_zero (p : Value) (w : World) (h : TZ p w) : Calls Tryz.prog 41 #[p] w fun e w' => e = .returned (.int .i64 0) ∧ w = w' := by
  rcases h with rfl | ⟨g, rfl, hB⟩
  · go_enter Tryz.func41, Tryz.ntmps41
    go_wp2
    go_ret
    exact ⟨rfl, rfl⟩
  · have c := (hB.cell 42).trans (show zT[42]? = some (.slice none 0 0) from rfl)
    clear hB
    go_enter Tryz.func41, Tryz.ntmps41
    go_wp2
    go_ret
    exact ⟨rfl, rfl⟩
theorem repeats_zero (p : Value) (w : World) (h : TZ p w) : Calls Tryz.prog 33 #[p] w fun e w' => e = .returned (.int .i64 0) ∧ w = w' := by
  rcases h with rfl | ⟨g, rfl, hB⟩
  · go_enter Tryz.func33, Tryz.ntmps33
    go_wp2
    go_ret
    exact ⟨rfl, rfl⟩
  · have c := (hB.cell 43).trans (show zT[43]? = some (.slice none 0 0) from rfl)
    clear hB
    go_enter Tryz.func33, Tryz.ntmps33
    go_wp2
    go_loop [3, 13] (fun v3 v => v3 = .int .i64 0 ∧ v = .int .i64 0) (fun _ _ => 0)
    case atStart => exact ⟨rfl, rfl⟩
    case round =>
      obtain ⟨rfl, rfl⟩ := hrel
      go_wp2
      go_ret
      exact ⟨rfl, rfl⟩
theorem export_none (p : Value) (w : World) (h : TNone p w) : Calls Tryz.prog 32 #[p] w fun e w' => e = .returned (.agg #[.int .u32 0, .bool false, .slice none 0 0, .slice none 0 0]) ∧ Below w.heap.size w w' := by
  have HN := Lib.hid (fun (V : World) (hb : Below w.heap.size w V) => tnone_ok p V (h.below hb))
  clear h
  go_enter Tryz.func32, Tryz.ntmps32
  go_upto_region 1 with (fail)
  refine wp_let (fun V => Blk V w.heap.size 30 #[.int .u32 0, .bool false, .slice none 0 0, .slice none 0 0] ∧ Below w.heap.size w V) ⟨Blk.new _ _ _, (Below.refl _ w).alloc (Nat.le_refl _) _⟩ ?_
  rintro V ⟨v1, v2⟩
  have x0 := v1.cell 0
  have x1 := v1.cell 1
  have x2 := v1.cell 2
  have x3 := v1.cell 3
  simp only [List.getElem?_toArray, List.getElem?_cons_zero, List.getElem?_cons_succ] at x0 x1 x2 x3
  have f0 := v1.frozen 0
  have f1 := v1.frozen 1
  have f2 := v1.frozen 2
  have f3 := v1.frozen 3
  have HB := Lib.hid v1
  have HV := Lib.hid v2
  obtain ⟨fb, hfb⟩ : ∃ fb, fb = w.heap.size := ⟨_, rfl⟩
  have HFB := Lib.hid hfb
  rw [← hfb] at x0 x1 x2 x3 f0 f1 f2 f3 HB ⊢
  clear v1 v2 hfb
  go_wp2_with (go_at_call 88; refine (HN.out _ HV.out).mono ?_; rintro e w2 ⟨rfl, rfl⟩)
  have hB := ((((HB.out.set_ 0 (.int .u32 0)).set_ 1 (.bool false)).set_ 2 (.slice none 0 0)).set_ 3 (.slice none 0 0))
  have hB' : Blk ((((V.setCell ⟨fb, 0, none⟩ (.int .u32 0)).setCell ⟨fb, 1, none⟩ (.bool false)).setCell ⟨fb, 2, none⟩ (.slice none 0 0)).setCell ⟨fb, 3, none⟩ (.slice none 0 0)) fb 30 #[.int .u32 0, .bool false, .slice none 0 0, .slice none 0 0] := by simpa using hB
  refine bodyPost_ret (v := .agg #[.int .u32 0, .bool false, .slice none 0 0, .slice none 0 0]) ?_ ?_ ?_
  case refine_1 => exact results_cell_row (g := fb) (t := 30) (fr := (0, 0)) Tryz.results32 _ _ _ _ rfl hB' Tryz.underlying30 rfl (by kernel_rfl)
  case refine_2 => rfl
  have hw : w.heap.size ≤ fb := Nat.le_of_eq HFB.out.symm
  exact ⟨rfl, (((HV.out.setCell (p := ⟨fb, 0, none⟩) hw _).setCell (p := ⟨fb, 1, none⟩) hw _).setCell (p := ⟨fb, 2, none⟩) hw _).setCell (p := ⟨fb, 3, none⟩) hw _⟩
/-- Feedback without compression -/
theorem feed_state {w0 w : World} {g : Nat} {s : TS} (h : Solo w0 w g s) (hcm : s.C.cm = false) (x : Value) : Calls Tryz.prog 39 #[.pointer (some ⟨g, 0, none⟩), x] w fun e w' => e = .returned (.int .i64 8) ∧ w = w' := by
  obtain ⟨W, R, hI, _⟩ := h
  have HM := Lib.hid (tmade_ok g s W R w hI)
  obtain ⟨qA, qc, lq, pA, pc, lp, ub, cb, hT⟩ := hI
  have c35 : w.cell? ⟨g, 35, none⟩ = some (.bool false) := (hT.cC (j := 35) (by decide)).trans (by rw [show s.C.cell 35 = .bool s.C.cm from rfl, hcm])
  clear hT
  go_enter Tryz.func39, Tryz.ntmps39
  go_wp2_with (go_at_call 88; refine (HM.out).mono ?_; rintro e w2 ⟨rfl, rfl⟩)
  go_ret
  exact ⟨rfl, rfl⟩
end Go.Proofs.YthadfbekfbfkpaaGreat
namespace Go.Proofs.YthadfbekfbfkpaaGreat
open Go.RowKit
set_option linter.unusedVariables false
attribute [local go_sem ↓] Go.wp_at_zero Go.wp_at_succ

theorem with_ns {ops : Array Oper} {G : Prop} (h : Region.noSelect ops = true) (k : Region.noSelect ops = true → G) : G := k h
theorem held_ns {P : Program} {md : Region.Mode} {ops : Array Oper} {Q : Exit → Act → World → Prop} {S : World → Prop} {fuel : Nat} {listed : Array Bool} {a : Act} {w : World} (h : Region.noSelect ops = true) (k : Region.noSelect ops = true → wpAnyH P md ops Q S fuel listed a w) : wpAnyH P md ops Q S fuel listed a w := k h
theorem take_one {P : Program} {md : Region.Mode} {ops : Array Oper} {Q : Exit → Act → World → Prop} {S : World → Prop} {i : Nat} {oi : Oper} {v : Value} {fuel : Nat} {listed : Array Bool} {a : Act} {w : World} (hi : ops[i]? = some oi) (hr : Region.ready md ops listed = [i]) (hy : YieldsIf P ops S oi v a) (hS : S w)
    (h : wpAnyH P md ops Q S fuel (listed.setIfInBounds i true) (a.put oi.dst v) w) : wpAnyH P md ops Q S (fuel + 1) listed a w :=
  wpAnyH_all hr (by simp) (fun j hj => by
    obtain rfl : j = i := by simpa using hj
    exact hy.wpOp hi hS ⟨hS, h⟩)
theorem list_let {P : Program} {ops : Array Oper} {Q : Exit → Act → World → Prop} {rest : List Oper} {a : Act} {w : World} (R : World → Prop) (h : R w) (k : ∀ w', R w' → wpList P ops Q rest a w') : wpList P ops Q rest a w := k w h
theorem step_alloc {B : Nat} {a w w' : World} {o : Obj} (h : Below B a w) (hB : B ≤ w.heap.size) (k : Below (w.alloc o).heap.size (w.alloc o) w') : Below B a w' := (h.alloc hB o).trans (k.mono (Nat.le_trans hB (by simp)))
set_option maxRecDepth 100000 in
set_option maxHeartbeats 64000000 in
theorem nil_walk45 (now : Int) (KY : Array Value) (hK : KY.size = 16) (w : World) : Calls Tryz.prog 5 #[.int .i64 now, .agg KY] w fun e w' => e = .returned (.bool true) ∧ Below w.heap.size w w' := by
  have HKN := Lib.hid (fun V => known45_true V)
  have HN0 := Lib.hid (fun V => tNew_ok Cfg.zero cf0_valid V)
  rw [cf0_lit] at HN0
  have HSK : Hid ((Tryz.prog.info? 23).map (·.size) = some KY.size) := Lib.hid (by rw [hK]; kernel_rfl)
  have HUK := Lib.hid Tryz.underlying23
  have HS39 : Hid ((Tryz.prog.info? 25).map (·.size) = some z39.size) := Lib.hid sizePd
  clear hK
  go_enter Tryz.func5, Tryz.ntmps5
  go_upto_region 4 with (fail)
  obtain ⟨kb, hkb⟩ : ∃ kb, kb = w.heap.size := ⟨_, rfl⟩
  refine wp_let (fun V => Blk V kb 23 KY ∧ Blk V (kb + 1) 65 zT ∧ Blk V (kb + 1 + 1) 36 #[.pointer none, .pointer (some ⟨kb + 1, 0, none⟩)] ∧ Below w.heap.size w V) (by
    rw [hkb]
    exact ⟨((Blk.new _ _ _).alloc _).alloc _, (blk_atZ _ _ _ _ (by simp)).alloc _, blk_atZ _ _ _ _ (by simp), (((Below.refl _ w).alloc (Nat.le_refl _) _).alloc (by simp only [World.size_alloc]; omega) _).alloc (by simp only [World.size_alloc]; omega) _⟩) ?_
  rintro V ⟨v1, v2, v3, v4⟩
  have V1 := Lib.hid v1
  have V2 := Lib.hid v2
  have V3 := Lib.hid v3
  have V4 := Lib.hid v4
  rw [← hkb]
  clear v1 v2 v3 v4 hkb
  go_wp2
  go_loopw [8] (fun v wr => ∃ i : Nat, i ≤ 2 ∧ v = .int .i64 i ∧ Below V.heap.size V wr) (fun v _ => 2 - (intOf v).toNat)
  case atStart => exact ⟨0, by omega, rfl, Below.refl _ _⟩
  case round =>
    obtain ⟨i, hi, rfl, hS⟩ := hrel
    have VB := Lib.hid hS
    clear hS
    by_cases hlt : i < 2
    · have i0 : (0 : Int) ≤ (i : Int) := by omega
      have i1 : (i : Int) < 2 := by omega
      obtain ⟨p, hp, hz⟩ : ∃ p, V.cell? ⟨kb + 1 + 1, i, none⟩ = some p ∧ TZ p V := by
        rcases (by omega : i = 0 ∨ i = 1) with rfl | rfl
        · exact ⟨_, V3.out.cell 0, .inl rfl⟩
        · exact ⟨_, V3.out.cell 1, .inr ⟨_, rfl, V2.out⟩⟩
      have HT := Lib.hid (fun (W' : World) (hb : Below wr.heap.size wr W') => hz.below (VB.out.trans (hb.mono VB.out.size)))
      have HC := Lib.hid (fun (W' : World) (hb : Below wr.heap.size wr W') => ((VB.out.trans (hb.mono VB.out.size)).cell (p := ⟨kb + 1 + 1, i, none⟩) V3.out.lt).trans hp)
      have HKB := Lib.hid (fun (W' : World) (hb : Below wr.heap.size wr W') => V1.out.below (VB.out.trans (hb.mono VB.out.size)) V1.out.lt)
      have E0 := Lib.hid (Below.refl wr.heap.size wr)
      have c0 := HC.out wr E0.out
      clear hp hz
      go_upto_region 9 with (first
        | (go_at_call 34; refine (next_none p now _ (HT.out _ E0.out).none).mono ?_; rintro e w1 ⟨rfl, hB⟩; have E1 := Lib.hid (E0.out.trans (hB.mono E0.out.size)); have c1 := HC.out _ E1.out; clear hB)
        | (go_at_call 35; refine (tconf_none p _ (HT.out _ E1.out).none).mono ?_; rintro e w2 ⟨rfl, hB⟩; have E2 := Lib.hid (E1.out.trans (hB.mono E1.out.size)); have c2 := HC.out _ E2.out; clear hB)
        | (refine wpList_store_row rfl _ _ _ rfl w2.heap.size z39 rfl rfl 25 _ (Blk.new w2 _ _) HS39.out rfl z39_one ?_; refine list_let (fun X => Below wr.heap.size wr X) (belowRow (E2.out.alloc E2.out.size _) E2.out.size _) ?_; intro w3 hB; have E3 := Lib.hid hB; clear hB))
      have HSKL : Hid ((Tryz.prog.info? 23).map (·.size) = some KY.toList.length) := Lib.hid (by rw [Array.length_toList]; exact HSK.out)
      have HKR := Lib.hid (fun (W' : World) (hb : Below wr.heap.size wr W') => Blk.range (HKB.out W' hb) KY.toList (by rw [Array.toArray_toList]))
      obtain ⟨db, hdb⟩ : ∃ db, db = w2.heap.size := ⟨_, rfl⟩
      rw [← hdb]
      clear hdb c0 c1 c2
      obtain ⟨w0, hw0⟩ : ∃ w0, w0 = w3.drew := ⟨_, rfl⟩
      refine wp_region_held_drew (S := fun w' => Below wr.heap.size wr w') (by kernel_rfl) (E3.out.drew) (fun hHeld => ?_)
      rw [← hw0]
      rw [← hw0] at hHeld
      clear hw0
      refine held_ns (by kernel_rfl) (fun hns => ?_)
      refine take_one (i := 0) (oi := ⟨some 42, _, _, _, _, _⟩) (v := .slice none 0 0) rfl (by kernel_rfl) (Or.inl ⟨by rfl, fun W hW => (by rfl)⟩) (by assumption) ?_
      try simp only [Act.put, List.setIfInBounds_toArray, List.set_cons_zero, List.set_cons_succ]
      refine take_one (i := 1) (oi := ⟨some 43, _, _, _, _, _⟩) (v := .int .i64 0) rfl (by kernel_rfl) (Or.inl ⟨by rfl, fun W hW => (by go_simp)⟩) (by assumption) ?_
      try simp only [Act.put, List.setIfInBounds_toArray, List.set_cons_zero, List.set_cons_succ]
      refine take_one (i := 2) (oi := ⟨some 44, _, _, _, _, _⟩) (v := .bool false) rfl (by kernel_rfl) (Or.inl ⟨by rfl, fun W hW => (by go_simp)⟩) (by assumption) ?_
      try simp only [Act.put, List.setIfInBounds_toArray, List.set_cons_zero, List.set_cons_succ]
      refine take_one (i := 3) (oi := ⟨some 45, _, _, _, _, _⟩) (v := .bool false) rfl (by kernel_rfl) (Or.inl ⟨by rfl, fun W hW => (by rfl)⟩) (by assumption) ?_
      try simp only [Act.put, List.setIfInBounds_toArray, List.set_cons_zero, List.set_cons_succ]
      refine take_one (i := 4) (oi := ⟨some 46, _, _, _, _, _⟩) (v := .int .u32 0) rfl (by kernel_rfl) (Or.inl ⟨by rfl, fun W hW => (by rfl)⟩) (by assumption) ?_
      try simp only [Act.put, List.setIfInBounds_toArray, List.set_cons_zero, List.set_cons_succ]
      refine take_one (i := 5) (oi := ⟨some 47, _, _, _, _, _⟩) (v := .bool false) rfl (by kernel_rfl) (Or.inl ⟨by rfl, fun W hW => (by go_simp)⟩) (by assumption) ?_
      try simp only [Act.put, List.setIfInBounds_toArray, List.set_cons_zero, List.set_cons_succ]
      refine take_one (i := 6) (oi := ⟨some 48, _, _, _, _, _⟩) (v := .bool false) rfl (by kernel_rfl) (Or.inl ⟨by rfl, fun W hW => (by rfl)⟩) (by assumption) ?_
      try simp only [Act.put, List.setIfInBounds_toArray, List.set_cons_zero, List.set_cons_succ]
      refine take_one (i := 7) (oi := ⟨some 49, _, _, _, _, _⟩) (v := .bool false) rfl (by kernel_rfl) (Or.inl ⟨by rfl, fun W hW => (by rfl)⟩) (by assumption) ?_
      try simp only [Act.put, List.setIfInBounds_toArray, List.set_cons_zero, List.set_cons_succ]
      as_aux_lemma =>
        refine take_one (i := 8) (oi := ⟨some 50, _, _, _, _, _⟩) (v := .int .i64 1) rfl (by kernel_rfl) (Or.inl ⟨by rfl, fun W hW => (by rfl)⟩) (by assumption) ?_
        try simp only [Act.put, List.setIfInBounds_toArray, List.set_cons_zero, List.set_cons_succ]
        refine take_one (i := 9) (oi := ⟨some 51, _, _, _, _, _⟩) (v := .bool false) rfl (by kernel_rfl) (Or.inl ⟨by rfl, fun W hW => (by go_simp)⟩) (by assumption) ?_
        try simp only [Act.put, List.setIfInBounds_toArray, List.set_cons_zero, List.set_cons_succ]
        refine take_one (i := 10) (oi := ⟨some 52, _, _, _, _, _⟩) (v := .bool false) rfl (by kernel_rfl) (Or.inl ⟨by rfl, fun W hW => (by rfl)⟩) (by assumption) ?_
        try simp only [Act.put, List.setIfInBounds_toArray, List.set_cons_zero, List.set_cons_succ]
        refine take_one (i := 11) (oi := ⟨some 53, _, _, _, _, _⟩) (v := .bool false) rfl (by kernel_rfl) (Or.inl ⟨by rfl, fun W hW => (by rfl)⟩) (by assumption) ?_
        try simp only [Act.put, List.setIfInBounds_toArray, List.set_cons_zero, List.set_cons_succ]
        refine take_one (i := 12) (oi := ⟨some 54, _, _, _, _, _⟩) (v := .int .i64 1) rfl (by kernel_rfl) (Or.inl ⟨by rfl, fun W hW => (by rfl)⟩) (by assumption) ?_
        try simp only [Act.put, List.setIfInBounds_toArray, List.set_cons_zero, List.set_cons_succ]
        refine take_one (i := 13) (oi := ⟨some 55, _, _, _, _, _⟩) (v := .bool false) rfl (by kernel_rfl) (Or.inl ⟨by rfl, fun W hW => (by go_simp)⟩) (by assumption) ?_
        try simp only [Act.put, List.setIfInBounds_toArray, List.set_cons_zero, List.set_cons_succ]
        refine take_one (i := 14) (oi := ⟨some 56, _, _, _, _, _⟩) (v := .bool false) rfl (by kernel_rfl) (Or.inl ⟨by rfl, fun W hW => (by rfl)⟩) (by assumption) ?_
        try simp only [Act.put, List.setIfInBounds_toArray, List.set_cons_zero, List.set_cons_succ]
        refine take_one (i := 15) (oi := ⟨some 57, _, _, _, _, _⟩) (v := .bool false) rfl (by kernel_rfl) (Or.inl ⟨by rfl, fun W hW => (by rfl)⟩) (by assumption) ?_
        try simp only [Act.put, List.setIfInBounds_toArray, List.set_cons_zero, List.set_cons_succ]
        as_aux_lemma =>
          refine wpAnyH_take (i := 20) (oi := ⟨some 62, _, _, _, _, _⟩) (v := .int .i64 now) rfl hns (by kernel_rfl) (by kernel_rfl) (fun _ _ _ h => h) (Or.inl ⟨by rfl, fun W hW => (by rfl)⟩) (by assumption) ?_
          try simp only [Act.put, List.setIfInBounds_toArray, List.set_cons_zero, List.set_cons_succ]
          refine wpAnyH_take (i := 16) (oi := ⟨some 58, _, _, _, _, _⟩) (v := .slice (some ⟨kb + 1 + 1, 0, none⟩) 2 2) rfl hns (by kernel_rfl) (by kernel_rfl) (fun _ _ _ h => h) (Or.inl ⟨by rfl, fun W hW => (by rfl)⟩) (by assumption) ?_
          try simp only [Act.put, List.setIfInBounds_toArray, List.set_cons_zero, List.set_cons_succ]
          refine wpAnyH_take (i := 17) (oi := ⟨some 59, _, _, _, _, _⟩) (v := .int .i64 i) rfl hns (by kernel_rfl) (by kernel_rfl) (fun _ _ _ h => h) (Or.inl ⟨by rfl, fun W hW => (by rfl)⟩) (by assumption) ?_
          try simp only [Act.put, List.setIfInBounds_toArray, List.set_cons_zero, List.set_cons_succ]
          refine wpAnyH_take (i := 18) (oi := ⟨some 60, _, _, _, _, _⟩) (v := .pointer (some ⟨kb + 1 + 1, i, none⟩)) rfl hns (by kernel_rfl) (by kernel_rfl) (fun _ _ _ h => h) (Or.inl ⟨by rfl, fun W hW => (by go_simp)⟩) (by assumption) ?_
          try simp only [Act.put, List.setIfInBounds_toArray, List.set_cons_zero, List.set_cons_succ]
          refine wpAnyH_take (i := 19) (oi := ⟨some 61, _, _, _, _, _⟩) (v := p) rfl hns (by kernel_rfl) (by kernel_rfl) (fun _ _ _ h => h) (Or.inl ⟨by rfl, fun W hW => (by have := HC.out W hW; go_simp)⟩) (by assumption) ?_
          try simp only [Act.put, List.setIfInBounds_toArray, List.set_cons_zero, List.set_cons_succ]
          refine wpAnyH_ready (rs := [21]) (by kernel_rfl) (by simp) ?_
          refine AllReadyH.cons (o := ⟨some 63, _, _, _, _, _⟩) rfl (fun K hK => ?_) AllReadyH.nil
          rw [if_pos (by rfl)]
          go_simp
          obtain ⟨u1, hv⟩ : ∃ X, X = w0.alloc (.cells #[.int .u8 1] 5) := ⟨_, rfl⟩
          obtain ⟨b1, hnb⟩ : ∃ nb, nb = w0.heap.size := ⟨_, rfl⟩
          have hE : Below wr.heap.size wr u1 := by rw [hv]; exact hHeld.alloc hHeld.size _
          rw [← hv, ← hnb]
          refine hK.out _ _ hE (fun hHeld => ?_)
          clear hK K hE hv hnb
          try simp only [Act.put, List.setIfInBounds_toArray, List.set_cons_zero, List.set_cons_succ]
          refine wpAnyH_ready (rs := [22]) (by kernel_rfl) (by simp) ?_
          refine AllReadyH.cons (o := ⟨some 64, _, _, _, _, _⟩) rfl (fun K hK => ?_) AllReadyH.nil
          rw [if_pos (by rfl)]
          go_simp
          refine (sub_none p _ now u1 (HT.out _ hHeld).none).mono ?_
          rintro e u2 ⟨rfl, hB⟩
          dsimp only
          have hE : Below wr.heap.size wr u2 := hHeld.trans (hB.mono hHeld.size)
          refine hK.out _ _ hE (fun hHeld => ?_)
          clear hK K hE hB
          try simp only [Act.put, List.setIfInBounds_toArray, List.set_cons_zero, List.set_cons_succ]
          refine take_one (i := 23) (oi := ⟨some 65, _, _, _, _, _⟩) (v := .bool false) rfl (by kernel_rfl) (Or.inl ⟨by rfl, fun W hW => (by go_simp)⟩) (by assumption) ?_
          try simp only [Act.put, List.setIfInBounds_toArray, List.set_cons_zero, List.set_cons_succ]
          as_aux_lemma =>
            refine take_one (i := 24) (oi := ⟨some 66, _, _, _, _, _⟩) (v := .bool false) rfl (by kernel_rfl) (Or.inl ⟨by rfl, fun W hW => (by rfl)⟩) (by assumption) ?_
            try simp only [Act.put, List.setIfInBounds_toArray, List.set_cons_zero, List.set_cons_succ]
            refine take_one (i := 25) (oi := ⟨some 67, _, _, _, _, _⟩) (v := .bool false) rfl (by kernel_rfl) (Or.inl ⟨by rfl, fun W hW => (by rfl)⟩) (by assumption) ?_
            try simp only [Act.put, List.setIfInBounds_toArray, List.set_cons_zero, List.set_cons_succ]
            refine wpAnyH_take (i := 26) (oi := ⟨some 68, _, _, _, _, _⟩) (v := .slice (some ⟨kb + 1 + 1, 0, none⟩) 2 2) rfl hns (by kernel_rfl) (by kernel_rfl) (fun _ _ _ h => h) (Or.inl ⟨by rfl, fun W hW => (by rfl)⟩) (by assumption) ?_
            try simp only [Act.put, List.setIfInBounds_toArray, List.set_cons_zero, List.set_cons_succ]
            refine take_one (i := 27) (oi := ⟨some 69, _, _, _, _, _⟩) (v := .int .i64 i) rfl (by kernel_rfl) (Or.inl ⟨by rfl, fun W hW => (by rfl)⟩) (by assumption) ?_
            try simp only [Act.put, List.setIfInBounds_toArray, List.set_cons_zero, List.set_cons_succ]
            refine take_one (i := 28) (oi := ⟨some 70, _, _, _, _, _⟩) (v := .pointer (some ⟨kb + 1 + 1, i, none⟩)) rfl (by kernel_rfl) (Or.inl ⟨by rfl, fun W hW => (by go_simp)⟩) (by assumption) ?_
            try simp only [Act.put, List.setIfInBounds_toArray, List.set_cons_zero, List.set_cons_succ]
            refine take_one (i := 29) (oi := ⟨some 71, _, _, _, _, _⟩) (v := p) rfl (by kernel_rfl) (Or.inl ⟨by rfl, fun W hW => (by have := HC.out W hW; go_simp)⟩) (by assumption) ?_
            try simp only [Act.put, List.setIfInBounds_toArray, List.set_cons_zero, List.set_cons_succ]
            refine wpAnyH_ready (rs := [30]) (by kernel_rfl) (by simp) ?_
            refine AllReadyH.cons (o := ⟨some 72, _, _, _, _, _⟩) rfl (fun K hK => ?_) AllReadyH.nil
            rw [if_pos (by rfl)]
            go_simp
            refine (conf_none p 0 u2 (HT.out _ hHeld).none).mono ?_
            rintro e u3 ⟨rfl, hB⟩
            dsimp only
            have hE : Below wr.heap.size wr u3 := hHeld.trans (hB.mono hHeld.size)
            refine hK.out _ _ hE (fun hHeld => ?_)
            clear hK K hE hB
            try simp only [Act.put, List.setIfInBounds_toArray, List.set_cons_zero, List.set_cons_succ]
            refine take_one (i := 31) (oi := ⟨some 73, _, _, _, _, _⟩) (v := .bool false) rfl (by kernel_rfl) (Or.inl ⟨by rfl, fun W hW => (by go_simp)⟩) (by assumption) ?_
            try simp only [Act.put, List.setIfInBounds_toArray, List.set_cons_zero, List.set_cons_succ]
            as_aux_lemma =>
              refine take_one (i := 32) (oi := ⟨some 74, _, _, _, _, _⟩) (v := .bool false) rfl (by kernel_rfl) (Or.inl ⟨by rfl, fun W hW => (by rfl)⟩) (by assumption) ?_
              try simp only [Act.put, List.setIfInBounds_toArray, List.set_cons_zero, List.set_cons_succ]
              refine take_one (i := 33) (oi := ⟨some 75, _, _, _, _, _⟩) (v := .bool false) rfl (by kernel_rfl) (Or.inl ⟨by rfl, fun W hW => (by rfl)⟩) (by assumption) ?_
              try simp only [Act.put, List.setIfInBounds_toArray, List.set_cons_zero, List.set_cons_succ]
              refine' wpAnyH_take (i := 38) (oi := ⟨some 80, _, _, _, _, _⟩) (v := _) rfl hns (by kernel_rfl) (by kernel_rfl) (fun _ _ _ h => h) (yieldsIf_load_mid (by rfl) _ _ rfl kb 0 rfl KY.toList _ (fun w h => HKR.out w h) HUK.out rfl HSKL.out) (by assumption) ?_
              try simp only [Act.put, List.setIfInBounds_toArray, List.set_cons_zero, List.set_cons_succ]
              refine' wpAnyH_take (i := 39) (oi := ⟨some 81, _, _, _, _, _⟩) (v := _) rfl hns (by kernel_rfl) (by kernel_rfl) (fun _ _ _ h => h) (yieldsIf_load_mid (by rfl) _ _ rfl kb 0 rfl KY.toList _ (fun w h => HKR.out w h) HUK.out rfl HSKL.out) (by assumption) ?_
              try simp only [Act.put, List.setIfInBounds_toArray, List.set_cons_zero, List.set_cons_succ]
              refine wpAnyH_take (i := 34) (oi := ⟨some 76, _, _, _, _, _⟩) (v := .slice (some ⟨kb + 1 + 1, 0, none⟩) 2 2) rfl hns (by kernel_rfl) (by kernel_rfl) (fun _ _ _ h => h) (Or.inl ⟨by rfl, fun W hW => (by rfl)⟩) (by assumption) ?_
              try simp only [Act.put, List.setIfInBounds_toArray, List.set_cons_zero, List.set_cons_succ]
              refine take_one (i := 35) (oi := ⟨some 77, _, _, _, _, _⟩) (v := .int .i64 i) rfl (by kernel_rfl) (Or.inl ⟨by rfl, fun W hW => (by rfl)⟩) (by assumption) ?_
              try simp only [Act.put, List.setIfInBounds_toArray, List.set_cons_zero, List.set_cons_succ]
              refine take_one (i := 36) (oi := ⟨some 78, _, _, _, _, _⟩) (v := .pointer (some ⟨kb + 1 + 1, i, none⟩)) rfl (by kernel_rfl) (Or.inl ⟨by rfl, fun W hW => (by go_simp)⟩) (by assumption) ?_
              try simp only [Act.put, List.setIfInBounds_toArray, List.set_cons_zero, List.set_cons_succ]
              refine take_one (i := 37) (oi := ⟨some 79, _, _, _, _, _⟩) (v := p) rfl (by kernel_rfl) (Or.inl ⟨by rfl, fun W hW => (by have := HC.out W hW; go_simp)⟩) (by assumption) ?_
              try simp only [Act.put, List.setIfInBounds_toArray, List.set_cons_zero, List.set_cons_succ]
              as_aux_lemma =>
                refine wpAnyH_ready (rs := [40]) (by kernel_rfl) (by simp) ?_
                refine AllReadyH.cons (o := ⟨some 82, _, _, _, _, _⟩) rfl (fun K hK => ?_) AllReadyH.nil
                rw [if_pos (by rfl)]
                go_simp
                refine (rekey_none p KY.toList.toArray KY.toList.toArray u3 (HT.out _ hHeld).none).mono ?_
                rintro e u4 ⟨rfl, hB⟩
                dsimp only
                have hE : Below wr.heap.size wr u4 := hHeld.trans (hB.mono hHeld.size)
                refine hK.out _ _ hE (fun hHeld => ?_)
                clear hK K hE hB
                try simp only [Act.put, List.setIfInBounds_toArray, List.set_cons_zero, List.set_cons_succ]
                refine take_one (i := 41) (oi := ⟨some 83, _, _, _, _, _⟩) (v := .bool false) rfl (by kernel_rfl) (Or.inl ⟨by rfl, fun W hW => (by go_simp)⟩) (by assumption) ?_
                try simp only [Act.put, List.setIfInBounds_toArray, List.set_cons_zero, List.set_cons_succ]
                refine take_one (i := 42) (oi := ⟨some 84, _, _, _, _, _⟩) (v := .bool false) rfl (by kernel_rfl) (Or.inl ⟨by rfl, fun W hW => (by rfl)⟩) (by assumption) ?_
                try simp only [Act.put, List.setIfInBounds_toArray, List.set_cons_zero, List.set_cons_succ]
                refine take_one (i := 43) (oi := ⟨some 85, _, _, _, _, _⟩) (v := .bool false) rfl (by kernel_rfl) (Or.inl ⟨by rfl, fun W hW => (by rfl)⟩) (by assumption) ?_
                try simp only [Act.put, List.setIfInBounds_toArray, List.set_cons_zero, List.set_cons_succ]
                refine wpAnyH_take (i := 44) (oi := ⟨some 86, _, _, _, _, _⟩) (v := .slice (some ⟨kb + 1 + 1, 0, none⟩) 2 2) rfl hns (by kernel_rfl) (by kernel_rfl) (fun _ _ _ h => h) (Or.inl ⟨by rfl, fun W hW => (by rfl)⟩) (by assumption) ?_
                try simp only [Act.put, List.setIfInBounds_toArray, List.set_cons_zero, List.set_cons_succ]
                refine wpAnyH_take (i := 45) (oi := ⟨some 87, _, _, _, _, _⟩) (v := .int .i64 i) rfl hns (by kernel_rfl) (by kernel_rfl) (fun _ _ _ h => h) (Or.inl ⟨by rfl, fun W hW => (by rfl)⟩) (by assumption) ?_
                try simp only [Act.put, List.setIfInBounds_toArray, List.set_cons_zero, List.set_cons_succ]
                refine wpAnyH_take (i := 46) (oi := ⟨some 88, _, _, _, _, _⟩) (v := .pointer (some ⟨kb + 1 + 1, i, none⟩)) rfl hns (by kernel_rfl) (by kernel_rfl) (fun _ _ _ h => h) (Or.inl ⟨by rfl, fun W hW => (by go_simp)⟩) (by assumption) ?_
                try simp only [Act.put, List.setIfInBounds_toArray, List.set_cons_zero, List.set_cons_succ]
                refine wpAnyH_take (i := 47) (oi := ⟨some 89, _, _, _, _, _⟩) (v := p) rfl hns (by kernel_rfl) (by kernel_rfl) (fun _ _ _ h => h) (Or.inl ⟨by rfl, fun W hW => (by have := HC.out W hW; go_simp)⟩) (by assumption) ?_
                try simp only [Act.put, List.setIfInBounds_toArray, List.set_cons_zero, List.set_cons_succ]
                as_aux_lemma =>
                  refine wpAnyH_ready (rs := [48]) (by kernel_rfl) (by simp) ?_
                  refine AllReadyH.cons (o := ⟨some 90, _, _, _, _, _⟩) rfl (fun K hK => ?_) AllReadyH.nil
                  rw [if_pos (by rfl)]
                  go_simp
                  obtain ⟨u5, hv⟩ : ∃ X, X = u4.alloc (.cells #[.int .u8 1] 5) := ⟨_, rfl⟩
                  obtain ⟨b5, hnb⟩ : ∃ nb, nb = u4.heap.size := ⟨_, rfl⟩
                  have hE : Below wr.heap.size wr u5 := by rw [hv]; exact hHeld.alloc hHeld.size _
                  rw [← hv, ← hnb]
                  refine hK.out _ _ hE (fun hHeld => ?_)
                  clear hK K hE hv hnb
                  try simp only [Act.put, List.setIfInBounds_toArray, List.set_cons_zero, List.set_cons_succ]
                  refine wpAnyH_ready (rs := [49]) (by kernel_rfl) (by simp) ?_
                  refine AllReadyH.cons (o := ⟨some 91, _, _, _, _, _⟩) rfl (fun K hK => ?_) AllReadyH.nil
                  rw [if_pos (by rfl)]
                  go_simp
                  refine (feed_none p _ u5 (HT.out _ hHeld).none).mono ?_
                  rintro e u6 ⟨rfl, hB⟩
                  dsimp only
                  have hE : Below wr.heap.size wr u6 := hHeld.trans (hB.mono hHeld.size)
                  refine hK.out _ _ hE (fun hHeld => ?_)
                  clear hK K hE hB
                  try simp only [Act.put, List.setIfInBounds_toArray, List.set_cons_zero, List.set_cons_succ]
                  refine take_one (i := 50) (oi := ⟨some 92, _, _, _, _, _⟩) (v := .bool false) rfl (by kernel_rfl) (Or.inl ⟨by rfl, fun W hW => (by go_simp)⟩) (by assumption) ?_
                  try simp only [Act.put, List.setIfInBounds_toArray, List.set_cons_zero, List.set_cons_succ]
                  refine take_one (i := 51) (oi := ⟨some 93, _, _, _, _, _⟩) (v := .bool false) rfl (by kernel_rfl) (Or.inl ⟨by rfl, fun W hW => (by rfl)⟩) (by assumption) ?_
                  try simp only [Act.put, List.setIfInBounds_toArray, List.set_cons_zero, List.set_cons_succ]
                  refine take_one (i := 52) (oi := ⟨some 94, _, _, _, _, _⟩) (v := .bool false) rfl (by kernel_rfl) (Or.inl ⟨by rfl, fun W hW => (by rfl)⟩) (by assumption) ?_
                  try simp only [Act.put, List.setIfInBounds_toArray, List.set_cons_zero, List.set_cons_succ]
                  refine' wpAnyH_take (i := 57) (oi := ⟨some 99, _, _, _, _, _⟩) (v := _) rfl hns (by kernel_rfl) (by kernel_rfl) (fun _ _ _ h => h) (yieldsIf_load_mid (by rfl) _ _ rfl kb 0 rfl KY.toList _ (fun w h => HKR.out w h) HUK.out rfl HSKL.out) (by assumption) ?_
                  try simp only [Act.put, List.setIfInBounds_toArray, List.set_cons_zero, List.set_cons_succ]
                  refine wpAnyH_take (i := 53) (oi := ⟨some 95, _, _, _, _, _⟩) (v := .slice (some ⟨kb + 1 + 1, 0, none⟩) 2 2) rfl hns (by kernel_rfl) (by kernel_rfl) (fun _ _ _ h => h) (Or.inl ⟨by rfl, fun W hW => (by rfl)⟩) (by assumption) ?_
                  try simp only [Act.put, List.setIfInBounds_toArray, List.set_cons_zero, List.set_cons_succ]
                  refine take_one (i := 54) (oi := ⟨some 96, _, _, _, _, _⟩) (v := .int .i64 i) rfl (by kernel_rfl) (Or.inl ⟨by rfl, fun W hW => (by rfl)⟩) (by assumption) ?_
                  try simp only [Act.put, List.setIfInBounds_toArray, List.set_cons_zero, List.set_cons_succ]
                  as_aux_lemma =>
                    refine take_one (i := 55) (oi := ⟨some 97, _, _, _, _, _⟩) (v := .pointer (some ⟨kb + 1 + 1, i, none⟩)) rfl (by kernel_rfl) (Or.inl ⟨by rfl, fun W hW => (by go_simp)⟩) (by assumption) ?_
                    try simp only [Act.put, List.setIfInBounds_toArray, List.set_cons_zero, List.set_cons_succ]
                    refine take_one (i := 56) (oi := ⟨some 98, _, _, _, _, _⟩) (v := p) rfl (by kernel_rfl) (Or.inl ⟨by rfl, fun W hW => (by have := HC.out W hW; go_simp)⟩) (by assumption) ?_
                    try simp only [Act.put, List.setIfInBounds_toArray, List.set_cons_zero, List.set_cons_succ]
                    refine wpAnyH_ready (rs := [58]) (by kernel_rfl) (by simp) ?_
                    refine AllReadyH.cons (o := ⟨some 100, _, _, _, _, _⟩) rfl (fun K hK => ?_) AllReadyH.nil
                    rw [if_pos (by rfl)]
                    go_simp
                    refine (freshT_none p KY.toList.toArray u6 (HT.out _ hHeld).none).mono ?_
                    rintro e u7 ⟨rfl, hB⟩
                    dsimp only
                    have hE : Below wr.heap.size wr u7 := hHeld.trans (hB.mono hHeld.size)
                    refine hK.out _ _ hE (fun hHeld => ?_)
                    clear hK K hE hB
                    try simp only [Act.put, List.setIfInBounds_toArray, List.set_cons_zero, List.set_cons_succ]
                    refine take_one (i := 59) (oi := ⟨some 101, _, _, _, _, _⟩) (v := .bool false) rfl (by kernel_rfl) (Or.inl ⟨by rfl, fun W hW => (by rfl)⟩) (by assumption) ?_
                    try simp only [Act.put, List.setIfInBounds_toArray, List.set_cons_zero, List.set_cons_succ]
                    refine take_one (i := 60) (oi := ⟨some 102, _, _, _, _, _⟩) (v := .bool false) rfl (by kernel_rfl) (Or.inl ⟨by rfl, fun W hW => (by rfl)⟩) (by assumption) ?_
                    try simp only [Act.put, List.setIfInBounds_toArray, List.set_cons_zero, List.set_cons_succ]
                    refine wpAnyH_take (i := 61) (oi := ⟨some 103, _, _, _, _, _⟩) (v := .slice (some ⟨kb + 1 + 1, 0, none⟩) 2 2) rfl hns (by kernel_rfl) (by kernel_rfl) (fun _ _ _ h => h) (Or.inl ⟨by rfl, fun W hW => (by rfl)⟩) (by assumption) ?_
                    try simp only [Act.put, List.setIfInBounds_toArray, List.set_cons_zero, List.set_cons_succ]
                    refine take_one (i := 62) (oi := ⟨some 104, _, _, _, _, _⟩) (v := .int .i64 i) rfl (by kernel_rfl) (Or.inl ⟨by rfl, fun W hW => (by rfl)⟩) (by assumption) ?_
                    try simp only [Act.put, List.setIfInBounds_toArray, List.set_cons_zero, List.set_cons_succ]
                    refine take_one (i := 63) (oi := ⟨some 105, _, _, _, _, _⟩) (v := .pointer (some ⟨kb + 1 + 1, i, none⟩)) rfl (by kernel_rfl) (Or.inl ⟨by rfl, fun W hW => (by go_simp)⟩) (by assumption) ?_
                    try simp only [Act.put, List.setIfInBounds_toArray, List.set_cons_zero, List.set_cons_succ]
                    as_aux_lemma =>
                      refine take_one (i := 64) (oi := ⟨some 106, _, _, _, _, _⟩) (v := p) rfl (by kernel_rfl) (Or.inl ⟨by rfl, fun W hW => (by have := HC.out W hW; go_simp)⟩) (by assumption) ?_
                      try simp only [Act.put, List.setIfInBounds_toArray, List.set_cons_zero, List.set_cons_succ]
                      refine wpAnyH_ready (rs := [65]) (by kernel_rfl) (by simp) ?_
                      refine AllReadyH.cons (o := ⟨some 107, _, _, _, _, _⟩) rfl (fun K hK => ?_) AllReadyH.nil
                      rw [if_pos (by rfl)]
                      go_simp
                      refine (copy_none p u7 (HT.out _ hHeld).none).mono ?_
                      rintro e u8 ⟨rfl, hB⟩
                      dsimp only
                      have hE : Below wr.heap.size wr u8 := hHeld.trans (hB.mono hHeld.size)
                      refine hK.out _ _ hE (fun hHeld => ?_)
                      clear hK K hE hB
                      try simp only [Act.put, List.setIfInBounds_toArray, List.set_cons_zero, List.set_cons_succ]
                      refine take_one (i := 66) (oi := ⟨some 108, _, _, _, _, _⟩) (v := .bool false) rfl (by kernel_rfl) (Or.inl ⟨by rfl, fun W hW => (by go_simp)⟩) (by assumption) ?_
                      try simp only [Act.put, List.setIfInBounds_toArray, List.set_cons_zero, List.set_cons_succ]
                      refine take_one (i := 67) (oi := ⟨some 109, _, _, _, _, _⟩) (v := .bool false) rfl (by kernel_rfl) (Or.inl ⟨by rfl, fun W hW => (by rfl)⟩) (by assumption) ?_
                      try simp only [Act.put, List.setIfInBounds_toArray, List.set_cons_zero, List.set_cons_succ]
                      refine take_one (i := 68) (oi := ⟨some 110, _, _, _, _, _⟩) (v := .bool false) rfl (by kernel_rfl) (Or.inl ⟨by rfl, fun W hW => (by rfl)⟩) (by assumption) ?_
                      try simp only [Act.put, List.setIfInBounds_toArray, List.set_cons_zero, List.set_cons_succ]
                      refine wpAnyH_take (i := 69) (oi := ⟨some 111, _, _, _, _, _⟩) (v := .slice (some ⟨kb + 1 + 1, 0, none⟩) 2 2) rfl hns (by kernel_rfl) (by kernel_rfl) (fun _ _ _ h => h) (Or.inl ⟨by rfl, fun W hW => (by rfl)⟩) (by assumption) ?_
                      try simp only [Act.put, List.setIfInBounds_toArray, List.set_cons_zero, List.set_cons_succ]
                      refine take_one (i := 70) (oi := ⟨some 112, _, _, _, _, _⟩) (v := .int .i64 i) rfl (by kernel_rfl) (Or.inl ⟨by rfl, fun W hW => (by rfl)⟩) (by assumption) ?_
                      try simp only [Act.put, List.setIfInBounds_toArray, List.set_cons_zero, List.set_cons_succ]
                      refine take_one (i := 71) (oi := ⟨some 113, _, _, _, _, _⟩) (v := .pointer (some ⟨kb + 1 + 1, i, none⟩)) rfl (by kernel_rfl) (Or.inl ⟨by rfl, fun W hW => (by go_simp)⟩) (by assumption) ?_
                      try simp only [Act.put, List.setIfInBounds_toArray, List.set_cons_zero, List.set_cons_succ]
                      as_aux_lemma =>
                        refine take_one (i := 72) (oi := ⟨some 114, _, _, _, _, _⟩) (v := p) rfl (by kernel_rfl) (Or.inl ⟨by rfl, fun W hW => (by have := HC.out W hW; go_simp)⟩) (by assumption) ?_
                        try simp only [Act.put, List.setIfInBounds_toArray, List.set_cons_zero, List.set_cons_succ]
                        refine wpAnyH_ready (rs := [73]) (by kernel_rfl) (by simp) ?_
                        refine AllReadyH.cons (o := ⟨some 115, _, _, _, _, _⟩) rfl (fun K hK => ?_) AllReadyH.nil
                        rw [if_pos (by rfl)]
                        go_simp
                        refine (queued_zero p u8 (HT.out _ hHeld)).mono ?_
                        rintro e _ ⟨rfl, rfl⟩
                        dsimp only
                        refine hK.out _ _ hHeld (fun hHeld => ?_)
                        clear hK K
                        try simp only [Act.put, List.setIfInBounds_toArray, List.set_cons_zero, List.set_cons_succ]
                        refine take_one (i := 74) (oi := ⟨some 116, _, _, _, _, _⟩) (v := .bool false) rfl (by kernel_rfl) (Or.inl ⟨by rfl, fun W hW => (by go_simp)⟩) (by assumption) ?_
                        try simp only [Act.put, List.setIfInBounds_toArray, List.set_cons_zero, List.set_cons_succ]
                        refine take_one (i := 75) (oi := ⟨some 117, _, _, _, _, _⟩) (v := .bool false) rfl (by kernel_rfl) (Or.inl ⟨by rfl, fun W hW => (by rfl)⟩) (by assumption) ?_
                        try simp only [Act.put, List.setIfInBounds_toArray, List.set_cons_zero, List.set_cons_succ]
                        refine take_one (i := 76) (oi := ⟨some 118, _, _, _, _, _⟩) (v := .bool false) rfl (by kernel_rfl) (Or.inl ⟨by rfl, fun W hW => (by rfl)⟩) (by assumption) ?_
                        try simp only [Act.put, List.setIfInBounds_toArray, List.set_cons_zero, List.set_cons_succ]
                        refine wpAnyH_take (i := 77) (oi := ⟨some 119, _, _, _, _, _⟩) (v := .slice (some ⟨kb + 1 + 1, 0, none⟩) 2 2) rfl hns (by kernel_rfl) (by kernel_rfl) (fun _ _ _ h => h) (Or.inl ⟨by rfl, fun W hW => (by rfl)⟩) (by assumption) ?_
                        try simp only [Act.put, List.setIfInBounds_toArray, List.set_cons_zero, List.set_cons_succ]
                        refine take_one (i := 78) (oi := ⟨some 120, _, _, _, _, _⟩) (v := .int .i64 i) rfl (by kernel_rfl) (Or.inl ⟨by rfl, fun W hW => (by rfl)⟩) (by assumption) ?_
                        try simp only [Act.put, List.setIfInBounds_toArray, List.set_cons_zero, List.set_cons_succ]
                        refine take_one (i := 79) (oi := ⟨some 121, _, _, _, _, _⟩) (v := .pointer (some ⟨kb + 1 + 1, i, none⟩)) rfl (by kernel_rfl) (Or.inl ⟨by rfl, fun W hW => (by go_simp)⟩) (by assumption) ?_
                        try simp only [Act.put, List.setIfInBounds_toArray, List.set_cons_zero, List.set_cons_succ]
                        as_aux_lemma =>
                          refine take_one (i := 80) (oi := ⟨some 122, _, _, _, _, _⟩) (v := p) rfl (by kernel_rfl) (Or.inl ⟨by rfl, fun W hW => (by have := HC.out W hW; go_simp)⟩) (by assumption) ?_
                          try simp only [Act.put, List.setIfInBounds_toArray, List.set_cons_zero, List.set_cons_succ]
                          refine wpAnyH_ready (rs := [81]) (by kernel_rfl) (by simp) ?_
                          refine AllReadyH.cons (o := ⟨some 123, _, _, _, _, _⟩) rfl (fun K hK => ?_) AllReadyH.nil
                          rw [if_pos (by rfl)]
                          go_simp
                          refine (repeats_zero p u8 (HT.out _ hHeld)).mono ?_
                          rintro e _ ⟨rfl, rfl⟩
                          dsimp only
                          refine hK.out _ _ hHeld (fun hHeld => ?_)
                          clear hK K
                          try simp only [Act.put, List.setIfInBounds_toArray, List.set_cons_zero, List.set_cons_succ]
                          refine take_one (i := 82) (oi := ⟨some 124, _, _, _, _, _⟩) (v := .bool false) rfl (by kernel_rfl) (Or.inl ⟨by rfl, fun W hW => (by go_simp)⟩) (by assumption) ?_
                          try simp only [Act.put, List.setIfInBounds_toArray, List.set_cons_zero, List.set_cons_succ]
                          refine take_one (i := 83) (oi := ⟨some 125, _, _, _, _, _⟩) (v := .bool false) rfl (by kernel_rfl) (Or.inl ⟨by rfl, fun W hW => (by rfl)⟩) (by assumption) ?_
                          try simp only [Act.put, List.setIfInBounds_toArray, List.set_cons_zero, List.set_cons_succ]
                          refine take_one (i := 84) (oi := ⟨some 126, _, _, _, _, _⟩) (v := .bool false) rfl (by kernel_rfl) (Or.inl ⟨by rfl, fun W hW => (by rfl)⟩) (by assumption) ?_
                          try simp only [Act.put, List.setIfInBounds_toArray, List.set_cons_zero, List.set_cons_succ]
                          refine wpAnyH_take (i := 90) (oi := ⟨some 132, _, _, _, _, _⟩) (v := .agg #[.int .u32 0, .bool false, .slice none 0 0, .slice none 0 0]) rfl hns (by kernel_rfl) (by kernel_rfl) (fun _ _ _ h => h) (Or.inl ⟨by rfl, fun W hW => (by go_simp)⟩) (by assumption) ?_
                          try simp only [Act.put, List.setIfInBounds_toArray, List.set_cons_zero, List.set_cons_succ]
                          refine wpAnyH_take (i := 85) (oi := ⟨some 127, _, _, _, _, _⟩) (v := .slice (some ⟨kb + 1 + 1, 0, none⟩) 2 2) rfl hns (by kernel_rfl) (by kernel_rfl) (fun _ _ _ h => h) (Or.inl ⟨by rfl, fun W hW => (by rfl)⟩) (by assumption) ?_
                          try simp only [Act.put, List.setIfInBounds_toArray, List.set_cons_zero, List.set_cons_succ]
                          refine take_one (i := 86) (oi := ⟨some 128, _, _, _, _, _⟩) (v := .int .i64 i) rfl (by kernel_rfl) (Or.inl ⟨by rfl, fun W hW => (by rfl)⟩) (by assumption) ?_
                          try simp only [Act.put, List.setIfInBounds_toArray, List.set_cons_zero, List.set_cons_succ]
                          as_aux_lemma =>
                            refine take_one (i := 87) (oi := ⟨some 129, _, _, _, _, _⟩) (v := .pointer (some ⟨kb + 1 + 1, i, none⟩)) rfl (by kernel_rfl) (Or.inl ⟨by rfl, fun W hW => (by go_simp)⟩) (by assumption) ?_
                            try simp only [Act.put, List.setIfInBounds_toArray, List.set_cons_zero, List.set_cons_succ]
                            refine take_one (i := 88) (oi := ⟨some 130, _, _, _, _, _⟩) (v := p) rfl (by kernel_rfl) (Or.inl ⟨by rfl, fun W hW => (by have := HC.out W hW; go_simp)⟩) (by assumption) ?_
                            try simp only [Act.put, List.setIfInBounds_toArray, List.set_cons_zero, List.set_cons_succ]
                            refine wpAnyH_ready (rs := [89]) (by kernel_rfl) (by simp) ?_
                            refine AllReadyH.cons (o := ⟨some 131, _, _, _, _, _⟩) rfl (fun K hK => ?_) AllReadyH.nil
                            rw [if_pos (by rfl)]
                            go_simp
                            refine (export_none p u8 (HT.out _ hHeld).none).mono ?_
                            rintro e u9 ⟨rfl, hB⟩
                            dsimp only
                            have hE : Below wr.heap.size wr u9 := hHeld.trans (hB.mono hHeld.size)
                            refine hK.out _ _ hE (fun hHeld => ?_)
                            clear hK K hE hB
                            try simp only [Act.put, List.setIfInBounds_toArray, List.set_cons_zero, List.set_cons_succ]
                            refine wpAnyH_ready (rs := [91]) (by kernel_rfl) (by simp) ?_
                            refine AllReadyH.cons (o := ⟨some 133, _, _, _, _, _⟩) rfl (fun K hK => ?_) AllReadyH.nil
                            rw [if_pos (by rfl)]
                            go_simp
                            refine (samef_true 0 false none none none none 0 0 0 0 0 0 u9 (Nat.zero_le _) (Nat.zero_le _) (fun k hk => absurd hk (Nat.not_lt_zero k)) (fun k hk => absurd hk (Nat.not_lt_zero k))).mono ?_
                            rintro e u10 ⟨rfl, hB⟩
                            dsimp only
                            have hE : Below wr.heap.size wr u10 := hHeld.trans (hB.mono hHeld.size)
                            refine hK.out _ _ hE (fun hHeld => ?_)
                            clear hK K hE hB
                            try simp only [Act.put, List.setIfInBounds_toArray, List.set_cons_zero, List.set_cons_succ]
                            refine take_one (i := 92) (oi := ⟨some 134, _, _, _, _, _⟩) (v := .bool false) rfl (by kernel_rfl) (Or.inl ⟨by rfl, fun W hW => (by go_simp)⟩) (by assumption) ?_
                            try simp only [Act.put, List.setIfInBounds_toArray, List.set_cons_zero, List.set_cons_succ]
                            refine take_one (i := 93) (oi := ⟨some 135, _, _, _, _, _⟩) (v := .bool false) rfl (by kernel_rfl) (Or.inl ⟨by rfl, fun W hW => (by rfl)⟩) (by assumption) ?_
                            try simp only [Act.put, List.setIfInBounds_toArray, List.set_cons_zero, List.set_cons_succ]
                            refine wpAnyH_done (by kernel_rfl) ?_ _
                            have E13 := Lib.hid hHeld
                            clear hHeld
                            go_wp2
                            go_roundw
                            case rel => first | exact ⟨i + 1, by omega, by go_num, VB.out.trans (E13.out.mono VB.out.size)⟩ | (((repeat apply Exists.intro); refine ⟨?_, rfl⟩); exact ⟨i + 1, by omega, by go_num, VB.out.trans (E13.out.mono VB.out.size)⟩)
                            case measure => simp [intOf]; omega
    · obtain rfl : i = 2 := by omega
      have HD := Lib.hid (V4.out.trans (VB.out.mono V4.out.size))
      go_wp2_with (first
        | (go_at_call 28; with_reducible refine (HN0.out _).mono ?_; rintro e w1 ⟨gt, rfl, hO⟩; have S1 := Lib.hid (Solo.of_new HD.out hO); clear hO)
        | (go_at_call 39; refine (feed_state (S1.out.below ((Below.refl _ _).alloc (Nat.le_refl _) _)) rfl _).mono ?_; rintro e w2 ⟨rfl, rfl⟩)
        | (go_at_call 21; with_reducible refine (HKN.out _).mono ?_; rintro e w19 ⟨rfl, hB⟩; have E19 := Lib.hid hB; clear hB))
      go_ret
      exact ⟨rfl, step_alloc S1.out.low S1.out.low.size E19.out⟩
end Go.Proofs.YthadfbekfbfkpaaGreat
namespace Go.Proofs.YthadfbekfbfkpaaGreat
open Go.ChangeShapes Go.WideShapes Go.ChangeAt Go.RowKit

theorem okWide_array {P : Program} {w : World} {r : Reach} {base : Nat} {t e : TypeId} {n : Nat} {v : Value} (ht : P.underlying t = some (.array n e)) (h : Value.okWide P w r base t v) : ∃ cs, v = .agg cs ∧ cs.size = P.cellsOf t := by
  simp only [Value.okWide, ht] at h
  obtain ⟨cs, h1, h2, _⟩ := h
  exact ⟨cs, h1, h2⟩
end Go.Proofs.YthadfbekfbfkpaaGreat
