/- pdcp: lists of packets with COUNTs in memory; pdcprx.whole, pdcprx.valid of the zero configuration. -/
import Derived.Test.YtknlipjgehgihaaNB
namespace Go.Proofs.Ytknlipjgehgihaa
open Go.RowKit

attribute [local go_sem ↓] Go.wp_at_zero Go.wp_at_succ

/-- a slice of m packets with their COUNTs -/
structure Cnts (w : World) (A : Option Addr) (m : Nat) (ct : Nat → Int) (PA : Nat → Option Addr) (pn pc : Nat → Nat) (z : Nat → Nat → Int) : Prop where
  at_ : m ≠ 0 → ∃ lb lo, A = some ⟨lb, lo, none⟩ ∧ lb < w.heap.size ∧ ∀ k, k < m → w.cell? ⟨lb, lo + k * 2, none⟩ = some (.int .u32 (ct k)) ∧ w.cell? ⟨lb, lo + k * 2 + 1, none⟩ = some (.slice (PA k) (pn k) (pc k))
  rng : ∀ k, k < m → 0 ≤ ct k ∧ ct k < 4294967296
  len : ∀ k, k < m → pn k ≤ 9223372036854775807
  cap : ∀ k, k < m → pn k ≤ pc k
  byte : ∀ k, k < m → ∀ j, j < pn k → 0 ≤ z k j ∧ z k j < 256
  row : ∀ k, k < m → Row w w.heap.size (PA k) (pn k) (fun j => .int .u8 (z k j))
theorem Cnts.below {w w' : World} {A : Option Addr} {m : Nat} {ct : Nat → Int} {PA : Nat → Option Addr} {pn pc : Nat → Nat} {z : Nat → Nat → Int} (h : Cnts w A m ct PA pn pc z) (hb : Below w.heap.size w w') : Cnts w' A m ct PA pn pc z :=
  ⟨fun hm => by
    obtain ⟨lb, lo, e, hlt, hc⟩ := h.at_ hm
    exact ⟨lb, lo, e, Nat.lt_of_lt_of_le hlt hb.size, fun k hk => ⟨(hb.cell (p := ⟨lb, lo + k * 2, none⟩) hlt).trans (hc k hk).1, (hb.cell (p := ⟨lb, lo + k * 2 + 1, none⟩) hlt).trans (hc k hk).2⟩⟩, h.rng, h.len, h.cap, h.byte, fun k hk => (h.row k hk).next hb⟩

/-- the COUNT before element k -/
def lastOf (d : Int) (ct : Nat → Int) (k : Nat) : Int := if k = 0 then d else ct (k - 1)
theorem lastOf_succ (d : Int) (ct : Nat → Int) (k : Nat) : lastOf d ct (k + 1) = ct k := rfl
/-- element k is in order -/
def elemOk (d nx : Int) (ct : Nat → Int) (pn : Nat → Nat) (k : Nat) : Prop := lastOf d ct k < ct k ∧ ct k < nx ∧ 1 ≤ pn k ∧ pn k ≤ 9000
def headOk (d nx : Int) : Prop := d ≤ nx ∧ nx ≤ 4294967296 ∧ nx - d ≤ 2048
def tailOk (d nx : Int) (m : Nat) (ct : Nat → Int) : Prop := nx = d ∨ (lastOf d ct m = nx - 1 ∧ d < lastOf d ct m)
/-- a receiver's state is whole -/
def Whole (d nx : Int) (m : Nat) (ct : Nat → Int) (pn : Nat → Nat) : Prop := headOk d nx ∧ (∀ k, k < m → elemOk d nx ct pn k) ∧ tailOk d nx m ct

set_option maxRecDepth 100000 in
set_option maxHeartbeats 3200000 in
theorem whole_yes (A : Option Addr) (m c : Nat) (d nx : Int) (ct : Nat → Int) (PA : Nat → Option Addr) (pn pc : Nat → Nat) (z : Nat → Nat → Int) (w : World) (hd : 0 ≤ d) (hm : m ≤ maxLen) (h : Cnts w A m ct PA pn pc z) (hw : Whole d nx m ct pn) :
    Calls Try.prog 26 #[.agg #[.int .u64 d, .int .u64 nx, .slice A m c]] w fun e w' => e = .returned (.bool true) ∧ Below w.heap.size w w' := by
  unfold maxLen at hm
  obtain ⟨⟨h1, h2, h3⟩, h4, h5⟩ := hw
  have HC := Lib.hid h
  have HE := Lib.hid h4
  have HT := Lib.hid h5
  have t1 : ¬ nx < d := by omega
  have t2 : ¬ (4294967296 : Int) < nx := by omega
  have t3 : ¬ (2048 : Int) < nx - d := by omega
  have t0 : 0 ≤ nx - d := by omega
  have tw : IntKind.u64.wrap (nx - d) = nx - d := by simp [IntKind.wrap_u64]; omega
  clear h h4 h5
  go_enter Try.func26, Try.ntmps26
  go_upto_region 1 with (fail)
  refine wp_world (fun W => Blk W w.heap.size 25 #[.int .u64 d, .int .u64 nx, .slice A m c] ∧ Below w.heap.size w W) ⟨Blk.new _ _ _, (Below.refl _ w).alloc (Nat.le_refl _) _⟩ ?_
  rintro W1 ⟨b1, b2⟩
  obtain ⟨xb, hxb⟩ : ∃ xb, xb = w.heap.size := ⟨_, rfl⟩
  rw [← hxb] at b1 ⊢
  have HX := Lib.hid hxb
  have x0 := b1.cell 0
  have x1 := b1.cell 1
  have x2 := b1.cell 2
  simp at x0 x1 x2
  have HB := Lib.hid b1
  have HBB := Lib.hid (show Below w.heap.size w W1 from by exact b2)
  clear b1 b2 hxb
  go_wp2
  go_loopw [3, 30] (fun v3 v30 wr => ∃ k : Nat, k ≤ m ∧ v30 = .int .i64 k ∧ v3 = .int .u64 (lastOf d ct k) ∧ Below W1.heap.size W1 wr) (fun _ v30 _ => m - (intOf v30).toNat)
  case atStart => exact ⟨0, by omega, rfl, rfl, Below.refl _ _⟩
  case round =>
    obtain ⟨k, hk, rfl, rfl, hBr⟩ := hrel
    have BR := Lib.hid hBr
    have XR := HB.out.below hBr HB.out.lt
    have y0 := XR.cell 0
    have y1 := XR.cell 1
    simp at y0 y1
    have hxl : xb < wr.heap.size := XR.lt
    have hxn : ¬ xb = wr.heap.size := by omega
    clear hBr XR
    by_cases hlt : k < m
    · obtain ⟨e1, e2, e3, e4⟩ := HE.out k hlt
      obtain ⟨lb, lo, rfl, hlb, hlc⟩ := HC.out.at_ (by omega)
      obtain ⟨c0, c1⟩ := hlc k hlt
      have q0 : wr.cell? ⟨lb, lo + k * 2, none⟩ = some (.int .u32 (ct k)) := (BR.out.cell (p := ⟨lb, lo + k * 2, none⟩) (Nat.lt_of_lt_of_le hlb HBB.out.size)).trans ((HBB.out.cell (p := ⟨lb, lo + k * 2, none⟩) hlb).trans c0)
      have q1 : wr.cell? ⟨lb, lo + k * 2 + 1, none⟩ = some (.slice (PA k) (pn k) (pc k)) := (BR.out.cell (p := ⟨lb, lo + k * 2 + 1, none⟩) (Nat.lt_of_lt_of_le hlb HBB.out.size)).trans ((HBB.out.cell (p := ⟨lb, lo + k * 2 + 1, none⟩) hlb).trans c1)
      obtain ⟨r0, r1⟩ := HC.out.rng k hlt
      have hpn := HC.out.len k hlt
      have HLS := Lib.hid (lastOf_succ d ct k)
      obtain ⟨x, hx⟩ : ∃ x, x = ct k := ⟨_, rfl⟩
      obtain ⟨q, hq⟩ : ∃ q, q = pn k := ⟨_, rfl⟩
      obtain ⟨la, hla⟩ : ∃ la, la = lastOf d ct k := ⟨_, rfl⟩
      have k0 : (0 : Int) ≤ (k : Int) := by omega
      have k1 : (k : Int) < (m : Int) := by omega
      rw [← hx] at e1 e2 r0 r1 q0 HLS
      rw [← hq] at e3 e4 q1 hpn
      rw [← hla] at e1 ⊢
      have s1 : ¬ x ≤ la := by omega
      have s2 : ¬ nx ≤ x := by omega
      have s3 : ¬ ((q : Int) < 1) := by omega
      have s4 : ¬ ((9000 : Int) < (q : Int)) := by omega
      have s5 : la < x := by omega
      have sd1 : decide (x ≤ la) = false := by simpa using s1
      have sd2 : decide (nx ≤ x) = false := by simpa using s2
      have B2 := Lib.hid (fun o : Obj => BR.out.alloc BR.out.size o)
      clear hx hq hla hlc c0 c1
      go_wp2
      go_roundw
      case rel => first | exact ⟨k + 1, by omega, by go_num, by rw [HLS.out], B2.out _⟩ | ((repeat apply Exists.intro); exact ⟨⟨k + 1, by omega, by go_num, by rw [HLS.out], B2.out _⟩, rfl⟩)
      case measure => simp [intOf]; omega
    · obtain rfl : k = m := by omega
      have HTT := HT.out
      unfold tailOk at HTT
      obtain ⟨la, hla⟩ : ∃ la, la = lastOf d ct k := ⟨_, rfl⟩
      rw [← hla] at HTT ⊢
      clear hla
      by_cases s0 : nx = d
      · clear HTT
        subst s0
        go_wp2
        go_ret
        exact ⟨rfl, HBB.out.trans (BR.out.mono HBB.out.size)⟩
      · obtain ⟨s1, s2⟩ : la = nx - 1 ∧ d < la := by rcases HTT with h | h; exact absurd h s0; exact h
        have s3 : (nx == d) = false := by simpa using s0
        have s4 : IntKind.u64.wrap (nx - 1) = nx - 1 := by simp [IntKind.wrap_u64]; omega
        have s5 : (la == nx - 1) = true := by simpa using s1
        clear HTT s1
        go_wp2
        go_ret
        exact ⟨rfl, HBB.out.trans (BR.out.mono HBB.out.size)⟩
theorem whole_head (A : Option Addr) (m c : Nat) (d nx : Int) (w : World) (hd : 0 ≤ d) (hnx : 0 ≤ nx ∧ nx < 18446744073709551616) (hd2 : d < 18446744073709551616) (hw : ¬ headOk d nx) :
    Calls Try.prog 26 #[.agg #[.int .u64 d, .int .u64 nx, .slice A m c]] w fun e w' => e = .returned (.bool false) ∧ Below w.heap.size w w' := by
  obtain ⟨n0, n1⟩ := hnx
  by_cases t1 : nx < d
  · clear hw
    go_enter Try.func26, Try.ntmps26
    go_upto_region 1 with (fail)
    refine wp_world (fun W => Blk W w.heap.size 25 #[.int .u64 d, .int .u64 nx, .slice A m c] ∧ Below w.heap.size w W) ⟨Blk.new _ _ _, (Below.refl _ w).alloc (Nat.le_refl _) _⟩ ?_
    rintro W1 ⟨b1, b2⟩
    obtain ⟨xb, hxb⟩ : ∃ xb, xb = w.heap.size := ⟨_, rfl⟩
    rw [← hxb] at b1 ⊢
    have HX := Lib.hid hxb
    have x0 := b1.cell 0
    have x1 := b1.cell 1
    have x2 := b1.cell 2
    simp at x0 x1 x2
    have HB := Lib.hid b1
    have HBB := Lib.hid (show Below w.heap.size w W1 from by exact b2)
    clear b1 b2 hxb
    go_wp2
    go_ret
    exact ⟨rfl, HBB.out⟩
  by_cases t2 : (4294967296 : Int) < nx
  · clear hw
    go_enter Try.func26, Try.ntmps26
    go_upto_region 1 with (fail)
    refine wp_world (fun W => Blk W w.heap.size 25 #[.int .u64 d, .int .u64 nx, .slice A m c] ∧ Below w.heap.size w W) ⟨Blk.new _ _ _, (Below.refl _ w).alloc (Nat.le_refl _) _⟩ ?_
    rintro W1 ⟨b1, b2⟩
    obtain ⟨xb, hxb⟩ : ∃ xb, xb = w.heap.size := ⟨_, rfl⟩
    rw [← hxb] at b1 ⊢
    have HX := Lib.hid hxb
    have x0 := b1.cell 0
    have x1 := b1.cell 1
    have x2 := b1.cell 2
    simp at x0 x1 x2
    have HB := Lib.hid b1
    have HBB := Lib.hid (show Below w.heap.size w W1 from by exact b2)
    clear b1 b2 hxb
    go_wp2
    go_ret
    exact ⟨rfl, HBB.out⟩
  have t3 : (2048 : Int) < nx - d := by
    unfold headOk at hw
    omega
  have t0 : 0 ≤ nx - d := by omega
  have tw : IntKind.u64.wrap (nx - d) = nx - d := by simp [IntKind.wrap_u64]; omega
  clear hw
  go_enter Try.func26, Try.ntmps26
  go_upto_region 1 with (fail)
  refine wp_world (fun W => Blk W w.heap.size 25 #[.int .u64 d, .int .u64 nx, .slice A m c] ∧ Below w.heap.size w W) ⟨Blk.new _ _ _, (Below.refl _ w).alloc (Nat.le_refl _) _⟩ ?_
  rintro W1 ⟨b1, b2⟩
  obtain ⟨xb, hxb⟩ : ∃ xb, xb = w.heap.size := ⟨_, rfl⟩
  rw [← hxb] at b1 ⊢
  have HX := Lib.hid hxb
  have x0 := b1.cell 0
  have x1 := b1.cell 1
  have x2 := b1.cell 2
  simp at x0 x1 x2
  have HB := Lib.hid b1
  have HBB := Lib.hid (show Below w.heap.size w W1 from by exact b2)
  clear b1 b2 hxb
  go_wp2
  go_ret
  exact ⟨rfl, HBB.out⟩
set_option maxRecDepth 100000 in
set_option maxHeartbeats 6400000 in
theorem whole_no (A : Option Addr) (m c : Nat) (d nx : Int) (ct : Nat → Int) (PA : Nat → Option Addr) (pn pc : Nat → Nat) (z : Nat → Nat → Int) (w : World) (hd : 0 ≤ d) (hnx : 0 ≤ nx ∧ nx < 18446744073709551616) (hd2 : d < 18446744073709551616) (hm : m ≤ maxLen) (h : Cnts w A m ct PA pn pc z) (hw : ¬ Whole d nx m ct pn) :
    Calls Try.prog 26 #[.agg #[.int .u64 d, .int .u64 nx, .slice A m c]] w fun e w' => e = .returned (.bool false) ∧ Below w.heap.size w w' := by
  by_cases hh : headOk d nx
  rotate_left
  · exact whole_head A m c d nx w hd hnx hd2 hh
  unfold maxLen at hm
  have HNW := Lib.hid (show ¬ ((∀ k, k < m → elemOk d nx ct pn k) ∧ tailOk d nx m ct) from fun h => hw ⟨hh, h⟩)
  obtain ⟨h1, h2, h3⟩ := hh
  have HC := Lib.hid h
  have t1 : ¬ nx < d := by omega
  have t2 : ¬ (4294967296 : Int) < nx := by omega
  have t3 : ¬ (2048 : Int) < nx - d := by omega
  have t0 : 0 ≤ nx - d := by omega
  have tw : IntKind.u64.wrap (nx - d) = nx - d := by simp [IntKind.wrap_u64]; omega
  clear h hw
  go_enter Try.func26, Try.ntmps26
  go_upto_region 1 with (fail)
  refine wp_world (fun W => Blk W w.heap.size 25 #[.int .u64 d, .int .u64 nx, .slice A m c] ∧ Below w.heap.size w W) ⟨Blk.new _ _ _, (Below.refl _ w).alloc (Nat.le_refl _) _⟩ ?_
  rintro W1 ⟨b1, b2⟩
  obtain ⟨xb, hxb⟩ : ∃ xb, xb = w.heap.size := ⟨_, rfl⟩
  rw [← hxb] at b1 ⊢
  have HX := Lib.hid hxb
  have x0 := b1.cell 0
  have x1 := b1.cell 1
  have x2 := b1.cell 2
  simp at x0 x1 x2
  have HB := Lib.hid b1
  have HBB := Lib.hid (show Below w.heap.size w W1 from by exact b2)
  clear b1 b2 hxb
  go_wp2
  go_loopw [3, 30] (fun v3 v30 wr => ∃ k : Nat, k ≤ m ∧ v30 = .int .i64 k ∧ v3 = .int .u64 (lastOf d ct k) ∧ (∀ j, j < k → elemOk d nx ct pn j) ∧ Below W1.heap.size W1 wr) (fun _ v30 _ => m - (intOf v30).toNat)
  case atStart => exact ⟨0, by omega, rfl, rfl, fun j hj => by omega, Below.refl _ _⟩
  case round =>
    obtain ⟨k, hk, rfl, rfl, hall, hBr⟩ := hrel
    have HALL := Lib.hid hall
    clear hall
    have BR := Lib.hid hBr
    have XR := HB.out.below hBr HB.out.lt
    have y0 := XR.cell 0
    have y1 := XR.cell 1
    simp at y0 y1
    have hxl : xb < wr.heap.size := XR.lt
    have hxn : ¬ xb = wr.heap.size := by omega
    clear hBr XR
    by_cases hlt : k < m
    · have HEK := Lib.hid (show elemOk d nx ct pn k ↔ lastOf d ct k < ct k ∧ ct k < nx ∧ 1 ≤ pn k ∧ pn k ≤ 9000 from Iff.rfl)
      obtain ⟨lb, lo, rfl, hlb, hlc⟩ := HC.out.at_ (by omega)
      obtain ⟨c0, c1⟩ := hlc k hlt
      have q0 : wr.cell? ⟨lb, lo + k * 2, none⟩ = some (.int .u32 (ct k)) := (BR.out.cell (p := ⟨lb, lo + k * 2, none⟩) (Nat.lt_of_lt_of_le hlb HBB.out.size)).trans ((HBB.out.cell (p := ⟨lb, lo + k * 2, none⟩) hlb).trans c0)
      have q1 : wr.cell? ⟨lb, lo + k * 2 + 1, none⟩ = some (.slice (PA k) (pn k) (pc k)) := (BR.out.cell (p := ⟨lb, lo + k * 2 + 1, none⟩) (Nat.lt_of_lt_of_le hlb HBB.out.size)).trans ((HBB.out.cell (p := ⟨lb, lo + k * 2 + 1, none⟩) hlb).trans c1)
      obtain ⟨r0, r1⟩ := HC.out.rng k hlt
      have hpn := HC.out.len k hlt
      have HLS := Lib.hid (lastOf_succ d ct k)
      obtain ⟨x, hx⟩ : ∃ x, x = ct k := ⟨_, rfl⟩
      obtain ⟨q, hq⟩ : ∃ q, q = pn k := ⟨_, rfl⟩
      obtain ⟨la, hla⟩ : ∃ la, la = lastOf d ct k := ⟨_, rfl⟩
      have k0 : (0 : Int) ≤ (k : Int) := by omega
      have k1 : (k : Int) < (m : Int) := by omega
      rw [← hx] at r0 r1 q0 HLS HEK
      rw [← hq] at q1 hpn HEK
      rw [← hla] at HEK ⊢
      clear hx hq hla hlc c0 c1
      by_cases s1 : x ≤ la
      · have sd1 : decide (x ≤ la) = true := by simpa using s1
        go_wp2
        go_ret
        exact ⟨rfl, HBB.out.trans ((BR.out.alloc BR.out.size _).mono HBB.out.size)⟩
      have sd1 : decide (x ≤ la) = false := by simpa using s1
      by_cases s2 : nx ≤ x
      · have sd2 : decide (nx ≤ x) = true := by simpa using s2
        go_wp2
        go_ret
        exact ⟨rfl, HBB.out.trans ((BR.out.alloc BR.out.size _).mono HBB.out.size)⟩
      have sd2 : decide (nx ≤ x) = false := by simpa using s2
      by_cases s3 : (q : Int) < 1
      · have sd3 : decide ((q : Int) < 1) = true := by simpa using s3
        go_wp2
        go_ret
        exact ⟨rfl, HBB.out.trans ((BR.out.alloc BR.out.size _).mono HBB.out.size)⟩
      by_cases s4 : (9000 : Int) < (q : Int)
      · go_wp2
        go_ret
        exact ⟨rfl, HBB.out.trans ((BR.out.alloc BR.out.size _).mono HBB.out.size)⟩
      have HEK2 := Lib.hid (show elemOk d nx ct pn k from HEK.out.2 ⟨by omega, by omega, by omega, by omega⟩)
      have s5 : la < x := by omega
      have B2 := Lib.hid (fun o : Obj => BR.out.alloc BR.out.size o)
      have HAL2 := Lib.hid (show ∀ j, j < k + 1 → elemOk d nx ct pn j from fun j hj => by
        by_cases e : j = k
        · subst e; exact HEK2.out
        · exact HALL.out j (by omega))
      go_wp2
      go_roundw
      case rel => first | exact ⟨k + 1, by omega, by go_num, by rw [HLS.out], HAL2.out, B2.out _⟩ | ((repeat apply Exists.intro); exact ⟨⟨k + 1, by omega, by go_num, by rw [HLS.out], HAL2.out, B2.out _⟩, rfl⟩)
      case measure => simp [intOf]; omega
    · obtain rfl : k = m := by omega
      have HTT : ¬ tailOk d nx k ct := fun h => HNW.out ⟨HALL.out, h⟩
      unfold tailOk at HTT
      obtain ⟨la, hla⟩ : ∃ la, la = lastOf d ct k := ⟨_, rfl⟩
      rw [← hla] at HTT ⊢
      clear hla
      have s3 : (nx == d) = false := by
        have : nx ≠ d := fun e => HTT (.inl e)
        simpa using this
      have s4 : IntKind.u64.wrap (nx - 1) = nx - 1 := by
        have : nx ≠ d := fun e => HTT (.inl e)
        simp [IntKind.wrap_u64]; omega
      by_cases s5 : la = nx - 1
      · have s6 : (la == nx - 1) = true := by simpa using s5
        have s7 : ¬ d < la := fun e => HTT (.inr ⟨s5, e⟩)
        clear HTT s5
        go_wp2
        go_ret
        exact ⟨rfl, HBB.out.trans (BR.out.mono HBB.out.size)⟩
      · have s6 : (la == nx - 1) = false := by simpa using s5
        clear HTT s5
        go_wp2
        go_ret
        exact ⟨rfl, HBB.out.trans (BR.out.mono HBB.out.size)⟩
/-- a configuration's cells -/
theorem rvalid_zero (w : World) : Calls Try.prog 25 #[.agg z39] w fun e w' => e = .returned (.bool true) ∧ Below w.heap.size w w' := by
  have h0 : z39[0]? = some (.int .i64 0) := rfl
  have h1 : z39[1]? = some (.int .i64 0) := rfl
  have h2 : z39[37]? = some (.int .i64 0) := rfl
  have h3 : z39[38]? = some (.int .i64 0) := rfl
  obtain ⟨Z, hZ⟩ : ∃ Z, Z = z39 := ⟨_, rfl⟩
  rw [← hZ] at h0 h1 h2 h3 ⊢
  clear hZ
  go_enter Try.func25, Try.ntmps25
  go_upto_region 1 with (fail)
  refine wp_world (fun W => Blk W w.heap.size 38 Z ∧ Below w.heap.size w W) ⟨Blk.new _ _ _, (Below.refl _ w).alloc (Nat.le_refl _) _⟩ ?_
  rintro W1 ⟨b1, b2⟩
  have x0 := (b1.cell 0).trans h0
  have x1 := (b1.cell 1).trans h1
  have x2 := (b1.cell 37).trans h2
  have x3 := (b1.cell 38).trans h3
  have HB := Lib.hid b2
  clear b1 b2 h0 h1 h2 h3
  go_wp2
  go_ret
  exact ⟨rfl, HB.out⟩
end Go.Proofs.Ytknlipjgehgihaa
