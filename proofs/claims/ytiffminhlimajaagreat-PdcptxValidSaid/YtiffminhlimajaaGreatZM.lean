/- SameForward of the reference is true of states that read alike. -/
import Derived.Test.YtiffminhlimajaaGreatZL
namespace Go.Proofs.YtiffminhlimajaaGreat
open Go.RowKit
set_option linter.unusedVariables false
attribute [local go_sem ↓] Go.wp_at_zero Go.wp_at_succ

/-- element k of a slice of counted packets; of a slice of packets -/
def CE2 (w : World) (A : Option Addr) (k : Nat) (ct : Int) (n : Nat) (z : Nat → Int) : Prop :=
  ∃ lb lo PA pc, A = some ⟨lb, lo, none⟩ ∧ lb < w.heap.size ∧ w.cell? ⟨lb, lo + k * 2, none⟩ = some (.int .u32 ct) ∧ w.cell? ⟨lb, lo + k * 2 + 1, none⟩ = some (.slice PA n pc) ∧ Row w w.heap.size PA n (fun j => .int .u8 (z j))
def BE2 (w : World) (A : Option Addr) (k : Nat) (n : Nat) (z : Nat → Int) : Prop :=
  ∃ lb lo PA pc, A = some ⟨lb, lo, none⟩ ∧ lb < w.heap.size ∧ w.cell? ⟨lb, lo + k, none⟩ = some (.slice PA n pc) ∧ Row w w.heap.size PA n (fun j => .int .u8 (z j))
theorem CE2.below {w w' : World} {A : Option Addr} {k : Nat} {ct : Int} {n : Nat} {z : Nat → Int} (h : CE2 w A k ct n z) (hb : Below w.heap.size w w') : CE2 w' A k ct n z := by
  obtain ⟨lb, lo, PA, pc, h1, h2, h3, h4, h5⟩ := h
  exact ⟨lb, lo, PA, pc, h1, Nat.lt_of_lt_of_le h2 hb.size, (hb.cell (p := ⟨lb, lo + k * 2, none⟩) h2).trans h3, (hb.cell (p := ⟨lb, lo + k * 2 + 1, none⟩) h2).trans h4, h5.next hb⟩
theorem BE2.below {w w' : World} {A : Option Addr} {k : Nat} {n : Nat} {z : Nat → Int} (h : BE2 w A k n z) (hb : Below w.heap.size w w') : BE2 w' A k n z := by
  obtain ⟨lb, lo, PA, pc, h1, h2, h3, h5⟩ := h
  exact ⟨lb, lo, PA, pc, h1, Nat.lt_of_lt_of_le h2 hb.size, (hb.cell (p := ⟨lb, lo + k, none⟩) h2).trans h3, h5.next hb⟩
def SameC (w : World) (A A' : Option Addr) (m : Nat) : Prop := ∀ k, k < m → ∃ ct n z z', CE2 w A k ct n z ∧ CE2 w A' k ct n z' ∧ ∀ j, j < n → z j = z' j
def SameB (w : World) (A A' : Option Addr) (m : Nat) : Prop := ∀ k, k < m → ∃ n z z', BE2 w A k n z ∧ BE2 w A' k n z' ∧ ∀ j, j < n → z j = z' j
theorem SameC.below {w w' : World} {A A' : Option Addr} {m : Nat} (h : SameC w A A' m) (hb : Below w.heap.size w w') : SameC w' A A' m := fun k hk => by
  obtain ⟨ct, n, z, z', h1, h2, h3⟩ := h k hk
  exact ⟨ct, n, z, z', h1.below hb, h2.below hb, h3⟩
theorem SameB.below {w w' : World} {A A' : Option Addr} {m : Nat} (h : SameB w A A' m) (hb : Below w.heap.size w w') : SameB w' A A' m := fun k hk => by
  obtain ⟨n, z, z', h1, h2, h3⟩ := h k hk
  exact ⟨n, z, z', h1.below hb, h2.below hb, h3⟩
set_option maxRecDepth 100000 in
set_option maxHeartbeats 1600000 in
theorem samec_true (A A' : Option Addr) (m c c' : Nat) (w : World) (hm : m ≤ maxLen) (h : SameC w A A' m) :
    Calls Tryz.prog 58 #[.slice A m c, .slice A' m c'] w fun e w' => e = .returned (.bool true) ∧ Below w.heap.size w w' := by
  unfold maxLen at hm
  have HS := Lib.hid h
  have hm' : (m : Int) ≤ 9223372036854775807 := by omega
  clear h
  go_enter Tryz.func58, Tryz.ntmps58
  go_wp2
  go_loopw [5] (fun v wr => ∃ k : Nat, k ≤ m ∧ v = .int .i64 k ∧ Below w.heap.size w wr) (fun v _ => m - (intOf v).toNat)
  case atStart => exact ⟨0, by omega, rfl, Below.refl _ _⟩
  case round =>
    obtain ⟨k, hk, rfl, hb⟩ := hrel
    by_cases hlt : k < m
    · obtain ⟨ct, n, z, z', ⟨lb, lo, PA, pc, rfl, h2, h3, h4, h5⟩, ⟨lb', lo', PA', pc', rfl, k2, k3, k4, k5⟩, he⟩ := (HS.out.below hb) k hlt
      have s1 := fun q => row_string (P := Tryz.prog) (w := wr.drewN q) 27 9 5 Tryz.underlying27 Tryz.underlying5 Tryz.underlying9 (show Row (wr.drewN q) wr.heap.size PA n (fun j => .int .u8 (z j)) from h5) pc
      have s2 := fun q => row_string (P := Tryz.prog) (w := wr.drewN q) 27 9 5 Tryz.underlying27 Tryz.underlying5 Tryz.underlying9 (show Row (wr.drewN q) wr.heap.size PA' n (fun j => .int .u8 (z' j)) from k5) pc'
      rw [← bytesOf_congr he] at s2
      have BB := Lib.hid hb
      have k0 : (0 : Int) ≤ (k : Int) := by omega
      have k1 : (k : Int) < (m : Int) := by omega
      clear h5 k5 he hb
      go_upto_region 6 with (fail)
      have hg : (ct != ct) = false := by simp
      go_quiet (fail)
      go_wp2
      go_roundw
      case rel => exact ⟨k + 1, by omega, by go_num, below_drewN BB.out _⟩
      case measure => simp [intOf]; omega
    · obtain rfl : k = m := by omega
      have BB := Lib.hid hb
      clear hb
      go_wp2
      go_ret
      exact ⟨rfl, BB.out⟩
set_option maxRecDepth 100000 in
set_option maxHeartbeats 1600000 in
theorem samel_true (A A' : Option Addr) (m c c' : Nat) (w : World) (hm : m ≤ maxLen) (h : SameB w A A' m) :
    Calls Tryz.prog 59 #[.slice A m c, .slice A' m c'] w fun e w' => e = .returned (.bool true) ∧ Below w.heap.size w w' := by
  unfold maxLen at hm
  have HS := Lib.hid h
  have hm' : (m : Int) ≤ 9223372036854775807 := by omega
  clear h
  go_enter Tryz.func59, Tryz.ntmps59
  go_wp2
  go_loopw [5] (fun v wr => ∃ k : Nat, k ≤ m ∧ v = .int .i64 k ∧ Below w.heap.size w wr) (fun v _ => m - (intOf v).toNat)
  case atStart => exact ⟨0, by omega, rfl, Below.refl _ _⟩
  case round =>
    obtain ⟨k, hk, rfl, hb⟩ := hrel
    by_cases hlt : k < m
    · obtain ⟨n, z, z', ⟨lb, lo, PA, pc, rfl, h2, h3, h5⟩, ⟨lb', lo', PA', pc', rfl, k2, k3, k5⟩, he⟩ := (HS.out.below hb) k hlt
      have s1 := fun q => row_string (P := Tryz.prog) (w := wr.drewN q) 27 9 5 Tryz.underlying27 Tryz.underlying5 Tryz.underlying9 (show Row (wr.drewN q) wr.heap.size PA n (fun j => .int .u8 (z j)) from h5) pc
      have s2 := fun q => row_string (P := Tryz.prog) (w := wr.drewN q) 27 9 5 Tryz.underlying27 Tryz.underlying5 Tryz.underlying9 (show Row (wr.drewN q) wr.heap.size PA' n (fun j => .int .u8 (z' j)) from k5) pc'
      rw [← bytesOf_congr he] at s2
      have BB := Lib.hid hb
      have k0 : (0 : Int) ≤ (k : Int) := by omega
      have k1 : (k : Int) < (m : Int) := by omega
      clear h5 k5 he hb
      go_upto_region 6 with (fail)
      go_quiet (fail)
      go_wp2
      go_roundw
      case rel => exact ⟨k + 1, by omega, by go_num, below_drewN BB.out _⟩
      case measure => simp [intOf]; omega
    · obtain rfl : k = m := by omega
      have BB := Lib.hid hb
      clear hb
      go_wp2
      go_ret
      exact ⟨rfl, BB.out⟩
set_option maxRecDepth 100000 in
set_option maxHeartbeats 1600000 in
theorem samef_true (nx : Int) (us : Bool) (A A' C C' : Option Addr) (m c c' mq d d' : Nat) (w : World) (hm : m ≤ maxLen) (hmq : mq ≤ maxLen) (h : SameC w A A' m) (h2 : SameB w C C' mq) :
    Calls Tryz.prog 25 #[.agg #[.int .u32 nx, .bool us, .slice A m c, .slice C mq d], .agg #[.int .u32 nx, .bool us, .slice A' m c', .slice C' mq d']] w fun e w' => e = .returned (.bool true) ∧ Below w.heap.size w w' := by
  have HC := Lib.hid (fun (V : World) (hb : Below w.heap.size w V) => samec_true A A' m c c' V hm (h.below hb))
  have HL := Lib.hid (fun (V : World) (hb : Below w.heap.size w V) => samel_true C C' mq d d' V hmq (h2.below hb))
  clear h h2 hm hmq
  go_enter Tryz.func25, Tryz.ntmps25
  go_upto_region 1 with (fail)
  refine wp_let (fun V => Blk V w.heap.size 36 #[.int .u32 nx, .bool us, .slice A m c, .slice C mq d] ∧ Blk V (w.heap.size + 1) 36 #[.int .u32 nx, .bool us, .slice A' m c', .slice C' mq d'] ∧ Below w.heap.size w V) ⟨(Blk.new _ _ _).alloc _, blk_atZ _ _ _ _ (by simp), ((Below.refl _ w).alloc (Nat.le_refl _) _).alloc (by simp) _⟩ ?_
  rintro W1 ⟨b1, b2, b3⟩
  obtain ⟨fa, hfa⟩ : ∃ fa, fa = w.heap.size := ⟨_, rfl⟩
  have B1 := Lib.hid b1
  have B2 := Lib.hid b2
  have B3 := Lib.hid b3
  have x0 := b1.cell 0
  have x1 := b1.cell 1
  have x2 := b1.cell 2
  have x3 := b1.cell 3
  have y0 := b2.cell 0
  have y1 := b2.cell 1
  have y2 := b2.cell 2
  have y3 := b2.cell 3
  simp at x0 x1 x2 x3 y0 y1 y2 y3
  clear b1 b2 b3 hfa
  go_wp2_with (first
    | (go_at_call 58; refine (HC.out _ B3.out).mono ?_; rintro e w2 ⟨rfl, hb⟩; have B4 := Lib.hid (B3.out.trans (hb.mono B3.out.size)); have P1 := B1.out.below hb B1.out.lt; have P2 := B2.out.below hb B2.out.lt; have u3 := P1.cell 3; have v3 := P2.cell 3; simp at u3 v3; clear hb P1 P2)
    | (go_at_call 59; refine (HL.out _ B4.out).mono ?_; rintro e w3 ⟨rfl, hb⟩; have B5 := Lib.hid (B4.out.trans (hb.mono B4.out.size)); clear hb))
  go_ret
  exact ⟨rfl, B5.out⟩
end Go.Proofs.YtiffminhlimajaaGreat
