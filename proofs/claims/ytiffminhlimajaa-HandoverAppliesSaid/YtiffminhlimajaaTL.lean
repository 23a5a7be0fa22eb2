/- law 47: the reference's helpers of HandoverApplies. -/
import Derived.Test.YtiffminhlimajaaTK
namespace Go.Proofs.Ytiffminhlimajaa
open Go.RowKit
set_option linter.unusedVariables false
attribute [local go_sem ↓] Go.wp_at_zero Go.wp_at_succ

/-- the lengths' sum, as the program's ints run -/
def tot (pn : Nat → Nat) : Nat → Int
  | 0 => 0
  | k + 1 => wrap64 (tot pn k + (pn k : Int))
def smallB (m mq : Nat) (pn : Nat → Nat) : Bool := decide (m ≤ 40 ∧ mq ≤ 10 ∧ tot pn m ≤ 2000)
set_option maxRecDepth 100000 in
set_option maxHeartbeats 1600000 in
theorem small_det (nx : Int) (us : Bool) (A A2 : Option Addr) (m c1 mq c2 : Nat) (ct : Nat → Int) (PA : Nat → Option Addr) (pn pc : Nat → Nat) (z : Nat → Nat → Int) (w : World) (hm : m ≤ maxLen) (hmq : mq ≤ maxLen) (h : Cnts w A m ct PA pn pc z) :
    Calls Try.prog 4 #[.agg #[.int .u32 nx, .bool us, .slice A m c1, .slice A2 mq c2]] w fun e w' => e = .returned (.bool (smallB m mq pn)) ∧ Below w.heap.size w w' := by
  unfold maxLen at hm hmq
  have HC := Lib.hid h
  clear h
  have hm' : (m : Int) ≤ 9223372036854775807 := by omega
  have hmq' : (mq : Int) ≤ 9223372036854775807 := by omega
  go_enter Try.func4, Try.ntmps4
  go_upto_region 1 with (fail)
  refine wp_let (fun V => Blk V w.heap.size 26 #[.int .u32 nx, .bool us, .slice A m c1, .slice A2 mq c2] ∧ Below w.heap.size w V) ⟨Blk.new _ _ _, (Below.refl _ _).alloc (Nat.le_refl _) _⟩ ?_
  rintro w1 ⟨b1, b2⟩
  obtain ⟨fb, hfb⟩ : ∃ fb, fb = w.heap.size := ⟨_, rfl⟩
  rw [← hfb] at b1
  rw [show (Value.pointer (some ⟨w.heap.size, 0, none⟩)) = .pointer (some ⟨fb, 0, none⟩) by rw [hfb]]
  have x2 := b1.cell 2
  have x3 := b1.cell 3
  simp at x2 x3
  have B1 := Lib.hid b2
  have HC1 := Lib.hid (HC.out.below b2)
  have HFB := Lib.hid hfb
  clear b1 b2 hfb
  go_wp2
  go_loop [3, 4] (fun v u => ∃ k : Nat, k ≤ 50 ∧ k ≤ m ∧ u = .int .i64 k ∧ v = .int .i64 (tot pn k)) (fun _ u => 50 - (intOf u).toNat)
  case atStart => exact ⟨0, by omega, by omega, rfl, rfl⟩
  case round =>
    obtain ⟨k, hk50, hk, rfl, rfl⟩ := hrel
    have HTT := Lib.hid (show tot pn (k + 1) = wrap64 (tot pn k + (pn k : Int)) from rfl)
    obtain ⟨t, ht⟩ : ∃ t, t = tot pn k := ⟨_, rfl⟩
    rw [← ht]
    rw [← ht] at HTT
    have HT0 := Lib.hid ht
    clear ht
    by_cases hlt : k < m
    · by_cases h50 : k < 50
      · obtain ⟨lb, lo, rfl, hlb, hlc⟩ := HC1.out.at_ (by omega)
        obtain ⟨_, q1⟩ := hlc k hlt
        have k0 : (0 : Int) ≤ (k : Int) := by omega
        have k1 : (k : Int) < (m : Int) := by omega
        have k2 : (k : Int) < 50 := by omega
        clear hlc
        go_wp2
        go_round
        case rel => exact ⟨k + 1, by omega, by omega, by go_num, by rw [HTT.out]⟩
        case measure => simp [intOf]; omega
      · have k1 : (k : Int) < (m : Int) := by omega
        have k2 : ¬ (k : Int) < 50 := by omega
        have d1 : ¬ (m : Int) ≤ 40 := by omega
        go_wp2
        go_ret
        exact ⟨ret_bool (by unfold smallB; rw [eq_comm, decide_eq_false_iff_not]; omega), B1.out⟩
    · obtain rfl : k = m := by omega
      have ht := HT0.out
      have k1 : ¬ (k : Int) < (k : Int) := by omega
      have HT9 := Lib.hid ht
      clear ht
      by_cases g1 : (k : Int) ≤ 40
      · by_cases g2 : (mq : Int) ≤ 10
        · go_wp2
          go_ret
          exact ⟨ret_bool (by unfold smallB; rw [← HT9.out]; exact decide_eq_decide.2 ⟨fun h => ⟨by omega, by omega, h⟩, fun h => h.2.2⟩), B1.out⟩
        · go_wp2
          go_ret
          exact ⟨ret_bool (by unfold smallB; rw [eq_comm, decide_eq_false_iff_not]; omega), B1.out⟩
      · go_wp2
        go_ret
        exact ⟨ret_bool (by unfold smallB; rw [eq_comm, decide_eq_false_iff_not]; omega), B1.out⟩
set_option maxRecDepth 100000 in
theorem confirms_ok (kd D x : Int) (L c1 n2 c2 : Nat) (A1 A2 : Option Addr) (B : Nat → Bool) (w : World) (hD : 0 ≤ D ∧ D < 4294967296) (hx : 0 ≤ x ∧ x < 4294967296) (hL : L ≤ 2047) (hr : Row w w.heap.size A1 L (fun j => .bool (B j))) :
    Calls Try.prog 11 #[.agg #[.int .i64 kd, .int .u32 D, .slice A1 L c1, .slice A2 n2 c2], .int .u32 x] w fun e w' => e = .returned (.bool (confB D L B x)) ∧ Below w.heap.size w w' := by
  obtain ⟨d0, d1⟩ := hD
  obtain ⟨r0, r1⟩ := hx
  have HR := Lib.hid hr
  clear hr
  go_enter Try.func11, Try.ntmps11
  go_upto_region 1 with (fail)
  refine wp_let (fun V => Blk V w.heap.size 43 #[.int .i64 kd, .int .u32 D, .slice A1 L c1, .slice A2 n2 c2] ∧ Below w.heap.size w V) ⟨Blk.new _ _ _, (Below.refl _ _).alloc (Nat.le_refl _) _⟩ ?_
  rintro w1 ⟨b1, b2⟩
  have R1 := Lib.hid (HR.out.next b2)
  obtain ⟨fb, hfb⟩ : ∃ fb, fb = w.heap.size := ⟨_, rfl⟩
  rw [← hfb] at b1
  rw [show (Value.pointer (some ⟨w.heap.size, 0, none⟩)) = .pointer (some ⟨fb, 0, none⟩) by rw [hfb]]
  have x1 := b1.cell 1
  have x2 := b1.cell 2
  simp at x1 x2
  have B1 := Lib.hid b2
  clear b1 b2 hfb
  rcases Decidable.em (x < D) with t1 | t1
  · have HB := Lib.hid (show confB D L B x = true from by unfold confB; rw [if_pos t1])
    go_wp2
    go_ret
    exact ⟨ret_bool HB.out.symm, B1.out⟩
  · rcases Decidable.em (x = D) with t2 | t2
    · subst t2
      have HB := Lib.hid (show confB x L B x = false from by unfold confB; rw [if_neg t1, if_pos rfl])
      go_wp2
      go_ret
      exact ⟨ret_bool HB.out.symm, B1.out⟩
    · have te : (x == D) = false := by simpa using t2
      obtain ⟨I, hI⟩ : ∃ I : Nat, x - D = (I : Int) + 1 := ⟨(x - D - 1).toNat, by omega⟩
      have hI1 : ((I : Int) + 1) < 4294967296 := by omega
      have j0 : (0 : Int) ≤ (I : Int) := by omega
      have h2 : IntKind.u32.wrap ((I : Int) + 1) = (I : Int) + 1 := by
        show ((I : Int) + 1) % 4294967296 = _
        omega
      rcases Decidable.em (x - D - 1 < (L : Int)) with t3 | t3
      · have HB := Lib.hid (show confB D L B x = B I from by unfold confB; rw [if_neg t1, if_neg t2, if_pos t3]; congr 1; omega)
        obtain ⟨rb, ro, rfl, hrb, hrc⟩ := R1.out (by omega)
        have hIL : I < L := by omega
        have cb : w1.cell? ⟨rb, ro + I, none⟩ = some (.bool (B I)) := hrc I hIL
        have j1 : (I : Int) < (L : Int) := by omega
        clear hrc t3
        go_wp2
        go_ret
        exact ⟨ret_bool HB.out.symm, B1.out⟩
      · have HB := Lib.hid (show confB D L B x = false from by unfold confB; rw [if_neg t1, if_neg t2, if_neg t3])
        have j1 : ¬ (I : Int) < (L : Int) := by omega
        clear t3
        go_wp2
        go_ret
        exact ⟨ret_bool HB.out.symm, B1.out⟩
/-- element k of a slice of counted packets; of a slice of packets -/
def CE2 (w : World) (A : Option Addr) (k : Nat) (ct : Int) (n : Nat) (z : Nat → Int) : Prop :=
  ∃ lb lo PA pc, A = some ⟨lb, lo, none⟩ ∧ lb < w.heap.size ∧ w.cell? ⟨lb, lo + k * 2, none⟩ = some (.int .u32 ct) ∧ w.cell? ⟨lb, lo + k * 2 + 1, none⟩ = some (.slice PA n pc) ∧ Row w w.heap.size PA n (fun j => .int .u8 (z j))
def BE2 (w : World) (A : Option Addr) (k : Nat) (n : Nat) (z : Nat → Int) : Prop :=
  ∃ lb lo PA pc, A = some ⟨lb, lo, none⟩ ∧ lb < w.heap.size ∧ w.cell? ⟨lb, lo + k, none⟩ = some (.slice PA n pc) ∧ Row w w.heap.size PA n (fun j => .int .u8 (z j))
theorem CE2.below {w w' : World} {A : Option Addr} {k : Nat} {ct : Int} {n : Nat} {z : Nat → Int} (h : CE2 w A k ct n z) (hb : Below w.heap.size w w') : CE2 w' A k ct n z := by
  obtain ⟨lb, lo, PA, pc, h1, h2, h3, h4, h5⟩ := h
  exact ⟨lb, lo, PA, pc, h1, Nat.lt_of_lt_of_le h2 hb.size, (hb.cell (p := ⟨lb, lo + k * 2, none⟩) h2).trans h3, (hb.cell (p := ⟨lb, lo + k * 2 + 1, none⟩) h2).trans h4, h5.next hb⟩
theorem BE2.below {w w' : World} {A : Option Addr} {k : Nat} {n : Nat} {z : Nat → Int} (h : BE2 w A k n z) (hb : Below w.heap.size w w') : BE2 w' A k n z := by
  obtain ⟨lb, lo, PA, pc, h1, h2, h3, h5⟩ := h
  exact ⟨lb, lo, PA, pc, h1, Nat.lt_of_lt_of_le h2 hb.size, (hb.cell (p := ⟨lb, lo + k, none⟩) h2).trans h3, h5.next hb⟩
def SameC (w : World) (A A' : Option Addr) (m : Nat) : Prop := ∀ k, k < m → ∃ ct n z z', CE2 w A k ct n z ∧ CE2 w A' k ct n z' ∧ ∀ j, j < n → z j = z' j
def SameB (w : World) (A A' : Option Addr) (m : Nat) : Prop := ∀ k, k < m → ∃ n z z', BE2 w A k n z ∧ BE2 w A' k n z' ∧ ∀ j, j < n → z j = z' j
theorem SameC.below {w w' : World} {A A' : Option Addr} {m : Nat} (h : SameC w A A' m) (hb : Below w.heap.size w w') : SameC w' A A' m := fun k hk => by
  obtain ⟨ct, n, z, z', h1, h2, h3⟩ := h k hk
  exact ⟨ct, n, z, z', h1.below hb, h2.below hb, h3⟩
theorem SameB.below {w w' : World} {A A' : Option Addr} {m : Nat} (h : SameB w A A' m) (hb : Below w.heap.size w w') : SameB w' A A' m := fun k hk => by
  obtain ⟨n, z, z', h1, h2, h3⟩ := h k hk
  exact ⟨n, z, z', h1.below hb, h2.below hb, h3⟩
set_option maxRecDepth 100000 in
set_option maxHeartbeats 1600000 in
theorem samec_true (A A' : Option Addr) (m c c' : Nat) (w : World) (hm : m ≤ maxLen) (h : SameC w A A' m) :
    Calls Try.prog 25 #[.slice A m c, .slice A' m c'] w fun e w' => e = .returned (.bool true) ∧ Below w.heap.size w w' := by
  unfold maxLen at hm
  have HS := Lib.hid h
  have hm' : (m : Int) ≤ 9223372036854775807 := by omega
  clear h
  go_enter Try.func25, Try.ntmps25
  go_wp2
  go_loopw [5] (fun v wr => ∃ k : Nat, k ≤ m ∧ v = .int .i64 k ∧ Below w.heap.size w wr) (fun v _ => m - (intOf v).toNat)
  case atStart => exact ⟨0, by omega, rfl, Below.refl _ _⟩
  case round =>
    obtain ⟨k, hk, rfl, hb⟩ := hrel
    by_cases hlt : k < m
    · obtain ⟨ct, n, z, z', ⟨lb, lo, PA, pc, rfl, h2, h3, h4, h5⟩, ⟨lb', lo', PA', pc', rfl, k2, k3, k4, k5⟩, he⟩ := (HS.out.below hb) k hlt
      have s1 := fun q => row_string (P := Try.prog) (w := wr.drewN q) 27 9 5 Try.underlying27 Try.underlying5 Try.underlying9 (show Row (wr.drewN q) wr.heap.size PA n (fun j => .int .u8 (z j)) from h5) pc
      have s2 := fun q => row_string (P := Try.prog) (w := wr.drewN q) 27 9 5 Try.underlying27 Try.underlying5 Try.underlying9 (show Row (wr.drewN q) wr.heap.size PA' n (fun j => .int .u8 (z' j)) from k5) pc'
      rw [← bytesOf_congr he] at s2
      have BB := Lib.hid hb
      have k0 : (0 : Int) ≤ (k : Int) := by omega
      have k1 : (k : Int) < (m : Int) := by omega
      clear h5 k5 he hb
      go_upto_region 6 with (fail)
      have hg : (ct != ct) = false := by simp
      go_quiet (fail)
      go_wp2
      go_roundw
      case rel => exact ⟨k + 1, by omega, by go_num, below_drewN BB.out _⟩
      case measure => simp [intOf]; omega
    · obtain rfl : k = m := by omega
      have BB := Lib.hid hb
      clear hb
      go_wp2
      go_ret
      exact ⟨rfl, BB.out⟩
set_option maxRecDepth 100000 in
set_option maxHeartbeats 1600000 in
theorem samel_true (A A' : Option Addr) (m c c' : Nat) (w : World) (hm : m ≤ maxLen) (h : SameB w A A' m) :
    Calls Try.prog 26 #[.slice A m c, .slice A' m c'] w fun e w' => e = .returned (.bool true) ∧ Below w.heap.size w w' := by
  unfold maxLen at hm
  have HS := Lib.hid h
  have hm' : (m : Int) ≤ 9223372036854775807 := by omega
  clear h
  go_enter Try.func26, Try.ntmps26
  go_wp2
  go_loopw [5] (fun v wr => ∃ k : Nat, k ≤ m ∧ v = .int .i64 k ∧ Below w.heap.size w wr) (fun v _ => m - (intOf v).toNat)
  case atStart => exact ⟨0, by omega, rfl, Below.refl _ _⟩
  case round =>
    obtain ⟨k, hk, rfl, hb⟩ := hrel
    by_cases hlt : k < m
    · obtain ⟨n, z, z', ⟨lb, lo, PA, pc, rfl, h2, h3, h5⟩, ⟨lb', lo', PA', pc', rfl, k2, k3, k5⟩, he⟩ := (HS.out.below hb) k hlt
      have s1 := fun q => row_string (P := Try.prog) (w := wr.drewN q) 27 9 5 Try.underlying27 Try.underlying5 Try.underlying9 (show Row (wr.drewN q) wr.heap.size PA n (fun j => .int .u8 (z j)) from h5) pc
      have s2 := fun q => row_string (P := Try.prog) (w := wr.drewN q) 27 9 5 Try.underlying27 Try.underlying5 Try.underlying9 (show Row (wr.drewN q) wr.heap.size PA' n (fun j => .int .u8 (z' j)) from k5) pc'
      rw [← bytesOf_congr he] at s2
      have BB := Lib.hid hb
      have k0 : (0 : Int) ≤ (k : Int) := by omega
      have k1 : (k : Int) < (m : Int) := by omega
      clear h5 k5 he hb
      go_upto_region 6 with (fail)
      go_quiet (fail)
      go_wp2
      go_roundw
      case rel => exact ⟨k + 1, by omega, by go_num, below_drewN BB.out _⟩
      case measure => simp [intOf]; omega
    · obtain rfl : k = m := by omega
      have BB := Lib.hid hb
      clear hb
      go_wp2
      go_ret
      exact ⟨rfl, BB.out⟩
set_option maxRecDepth 100000 in
set_option maxHeartbeats 1600000 in
theorem samef_true (nx : Int) (us : Bool) (A A' C C' : Option Addr) (m c c' mq d d' : Nat) (w : World) (hm : m ≤ maxLen) (hmq : mq ≤ maxLen) (h : SameC w A A' m) (h2 : SameB w C C' mq) :
    Calls Try.prog 9 #[.agg #[.int .u32 nx, .bool us, .slice A m c, .slice C mq d], .agg #[.int .u32 nx, .bool us, .slice A' m c', .slice C' mq d']] w fun e w' => e = .returned (.bool true) ∧ Below w.heap.size w w' := by
  have HC := Lib.hid (fun (V : World) (hb : Below w.heap.size w V) => samec_true A A' m c c' V hm (h.below hb))
  have HL := Lib.hid (fun (V : World) (hb : Below w.heap.size w V) => samel_true C C' mq d d' V hmq (h2.below hb))
  clear h h2 hm hmq
  go_enter Try.func9, Try.ntmps9
  go_upto_region 1 with (fail)
  refine wp_let (fun V => Blk V w.heap.size 26 #[.int .u32 nx, .bool us, .slice A m c, .slice C mq d] ∧ Blk V (w.heap.size + 1) 26 #[.int .u32 nx, .bool us, .slice A' m c', .slice C' mq d'] ∧ Below w.heap.size w V) ⟨(Blk.new _ _ _).alloc _, blk_at _ _ _ _ (by simp), ((Below.refl _ w).alloc (Nat.le_refl _) _).alloc (by simp) _⟩ ?_
  rintro W1 ⟨b1, b2, b3⟩
  obtain ⟨fa, hfa⟩ : ∃ fa, fa = w.heap.size := ⟨_, rfl⟩
  have B1 := Lib.hid b1
  have B2 := Lib.hid b2
  have B3 := Lib.hid b3
  have x0 := b1.cell 0
  have x1 := b1.cell 1
  have x2 := b1.cell 2
  have x3 := b1.cell 3
  have y0 := b2.cell 0
  have y1 := b2.cell 1
  have y2 := b2.cell 2
  have y3 := b2.cell 3
  simp at x0 x1 x2 x3 y0 y1 y2 y3
  clear b1 b2 b3 hfa
  go_wp2_with (first
    | (go_at_call 25; refine (HC.out _ B3.out).mono ?_; rintro e w2 ⟨rfl, hb⟩; have B4 := Lib.hid (B3.out.trans (hb.mono B3.out.size)); have P1 := B1.out.below hb B1.out.lt; have P2 := B2.out.below hb B2.out.lt; have u3 := P1.cell 3; have v3 := P2.cell 3; simp at u3 v3; clear hb P1 P2)
    | (go_at_call 26; refine (HL.out _ B4.out).mono ?_; rintro e w3 ⟨rfl, hb⟩; have B5 := Lib.hid (B4.out.trans (hb.mono B4.out.size)); clear hb))
  go_ret
  exact ⟨rfl, B5.out⟩
end Go.Proofs.Ytiffminhlimajaa
