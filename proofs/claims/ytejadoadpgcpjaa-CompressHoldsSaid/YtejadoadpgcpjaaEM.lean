/- field.Reader: Left, Get. -/
import Derived.Test.YtejadoadpgcpjaaEL
namespace Go.Proofs.Ytejadoadpgcpjaa
open Go.RowKit

/-- the number that k bits from place p on make -/
def getv (z : Nat → Int) (p : Nat) : Nat → Nat
  | 0 => 0
  | k + 1 => 2 * getv z p k + (if HM.hb z (p + k) then 1 else 0)
theorem getv_lt (z : Nat → Int) (p : Nat) : ∀ k, getv z p k < 2 ^ k
  | 0 => by simp [getv]
  | k + 1 => by
    have := getv_lt z p k
    unfold getv
    rw [Nat.pow_succ]
    split <;> omega
theorem or_bit (v y : Nat) (hv : v < 4294967296) (hy : y < 2) : bits BinOp.or .u64 ((v : Int) * 2) (y : Int) = ((2 * v + y : Nat) : Int) := by
  have e : ((v : Int) * 2) = ((v * 2 ^ 1 : Nat) : Int) := by simp
  rw [e, u64_or_nat _ _ (by omega) (by omega), or_shift v y 1 (by omega)]
  congr 1; omega

theorem and_val : ∀ y, y < 256 → bits BinOp.and .u8 ((y : Nat) : Int) 1 = ((y % 2 : Nat) : Int) := by decide +kernel
theorem get_step (z : Nat → Int) (n x v : Nat) (hv : v < 4294967296) (hx : x < 256) (hb : (bits BinOp.and .u8 ((x : Int) / 2 ^ (7 - n % 8)) 1 == 1) = HM.hb z n) :
    bits BinOp.or .u64 ((v : Int) * 2) (IntKind.u64.wrap (bits BinOp.and .u8 ((x : Int) / 2 ^ (7 - n % 8)) 1)) = ((2 * v + (if HM.hb z n then 1 else 0) : Nat) : Int) := by
  have e : ((x : Int) / 2 ^ (7 - n % 8)) = ((x / 2 ^ (7 - n % 8) : Nat) : Int) := by simp
  rw [e] at hb ⊢
  rw [and_val _ (Nat.lt_of_le_of_lt (Nat.div_le_self _ _) hx)] at hb ⊢
  obtain ⟨y, hy⟩ : ∃ y, y = x / 2 ^ (7 - n % 8) % 2 := ⟨_, rfl⟩
  rw [← hy] at hb ⊢
  have hy2 : y < 2 := by omega
  have hw : IntKind.u64.wrap ((y : Nat) : Int) = ((y : Nat) : Int) := by rw [IntKind.wrap_u64]; omega
  rw [hw, or_bit v y hv hy2, ← hb]
  rcases (by omega : y = 0 ∨ y = 1) with h | h <;> subst h <;> simp

theorem left_ok (g : Nat) (A : Option Addr) (len cap p : Nat) (hl : len ≤ 100000) (hp : p ≤ 8 * len) (w : World) (hB : Blk w g 142 #[.slice A len cap, .int .i64 (p : Int)]) :
    Calls Try.prog 103 #[.pointer (some ⟨g, 0, none⟩)] w fun e w' => e = .returned (.int .i64 (8 * (len : Int) - p)) ∧ ∃ d, w' = w.drewN d := by
  have c0 : w.cell? ⟨g, 0, none⟩ = some (.slice A len cap) := hB.cell 0
  have c1 : w.cell? ⟨g, 1, none⟩ = some (.int .i64 (p : Int)) := hB.cell 1
  have k1 : IntKind.i64.wrap (8 * (len : Int)) = 8 * (len : Int) := IntWalk.i64_in _ (by omega)
  have k2 : IntKind.i64.wrap (8 * (len : Int) - p) = 8 * (len : Int) - p := IntWalk.i64_in _ (by omega)
  go_enter Try.func103, Try.ntmps103
  go_wp2
  go_quiet (fail)
  go_wp2
  go_ret
  exact ⟨rfl, _, rfl⟩

/-- block g is a Reader of len bytes z at place p -/
def RS (w : World) (g : Nat) (A : Option Addr) (len cap : Nat) (z : Nat → Int) (p : Nat) : Prop :=
  Blk w g 142 #[.slice A len cap, .int .i64 (p : Int)] ∧ Row w w.heap.size A len (fun j => .int .u8 (z j))
theorem RS.step {w : World} {g : Nat} {A : Option Addr} {len cap p : Nat} {z : Nat → Int} (h : RS w g A len cap z p) (q : Nat) : RS (w.setCell ⟨g, 1, none⟩ (.int .i64 (q : Int))) g A len cap z q :=
  ⟨h.1.set_ 1 _, h.2.apart h.1 (by intro i hi j; have h2 : i < 2 := hi; match i, h2 with | 0, _ => simp | 1, _ => simp) (p := ⟨g, 1, none⟩) rfl _⟩
theorem RS.drewN {w : World} {g : Nat} {A : Option Addr} {len cap p : Nat} {z : Nat → Int} (h : RS w g A len cap z p) (d : Nat) : RS (w.drewN d) g A len cap z p := h
def GetEnd (g : Nat) (A : Option Addr) (len cap : Nat) (z : Nat → Int) (p width : Nat) (w : World) (e : Ending) (w' : World) : Prop :=
  e = .returned (.tuple #[.int .u64 (getv z p width : Nat), .int .i64 0]) ∧ RS w' g A len cap z (p + width) ∧ w.grownBy w' (some g) ∧ w'.heap.size = w.heap.size

theorem grownBy_drewN {w w' : World} {row : Option Nat} (h : w.grownBy w' row) (d : Nat) : w.grownBy (w'.drewN d) row := ⟨h.os, h.tape, h.output, h.size, h.block⟩
theorem grownBy_set {w w' : World} {g : Nat} (h : w.grownBy w' (some g)) (i : Nat) (v : Value) : w.grownBy (w'.setCell ⟨g, i, none⟩ v) (some g) :=
  ⟨h.os, h.tape, h.output, by simpa using h.size, fun k hk hne => (Below.heap_setCell w' _ _ k (fun e => hne (by rw [e]))).trans (h.block k hk hne)⟩

set_option maxRecDepth 100000 in
set_option maxHeartbeats 3200000 in
theorem get_ok (g : Nat) (A : Option Addr) (len cap p width : Nat) (z : Nat → Int) (hl : len ≤ 100000) (hw : width ≤ 32) (hp : p + width ≤ 8 * len) (hz : ∀ j, j < len → 0 ≤ z j ∧ z j < 256) (w : World) (h : RS w g A len cap z p) :
    Calls Try.prog 98 #[.pointer (some ⟨g, 0, none⟩), .int .i64 (width : Int)] w (GetEnd g A len cap z p width w) := by
  have HZ := Lib.hid hz
  have HR := Lib.hid h
  have HL := Lib.hid (left_ok g A len cap p hl (by omega) w h.1)
  have hlt : (width : Int) ≤ 8 * (len : Int) - p := by omega
  clear hz h
  go_enter Try.func98, Try.ntmps98
  go_wp2_with (go_at_call 103; refine (HL.out).mono ?_; rintro e w1 ⟨rfl, d1, rfl⟩)
  go_loopw [4, 22] (fun v4 v22 wr => ∃ k : Nat, k ≤ width ∧ v22 = .int .i64 k ∧ v4 = .int .u64 (getv z p k : Nat) ∧ RS wr g A len cap z (p + k) ∧ w.grownBy wr (some g) ∧ wr.heap.size = w.heap.size) (fun _ v _ => width - (intOf v).toNat)
  case atStart => exact ⟨0, Nat.zero_le _, rfl, rfl, HR.out.drewN _, ⟨rfl, rfl, rfl, Nat.le_refl _, fun _ _ _ => rfl⟩, rfl⟩
  case round =>
    obtain ⟨k, hk, rfl, rfl, hR, hg, hs⟩ := hrel
    have HRk := Lib.hid hR
    have HG := Lib.hid hg
    have HS := Lib.hid hs
    clear hR hg hs
    by_cases hlt2 : k < width
    · have c0 : wr.cell? ⟨g, 0, none⟩ = some (.slice A len cap) := HRk.out.1.cell 0
      have c1 : wr.cell? ⟨g, 1, none⟩ = some (.int .i64 ((p + k : Nat) : Int)) := HRk.out.1.cell 1
      have f1 := HRk.out.1.frozen 1
      obtain ⟨n, hn⟩ : ∃ n, n = p + k := ⟨_, rfl⟩
      rw [← hn] at c1
      have hn8 : n / 8 < len := by omega
      obtain ⟨lb, lo, rfl, hlb, hlc⟩ := HRk.out.2 (by omega)
      obtain ⟨x, hx⟩ : ∃ x : Nat, z (n / 8) = (x : Int) := ⟨(z (n / 8)).toNat, by have := HZ.out (n / 8) hn8; omega⟩
      have hx256 : x < 256 := by have := HZ.out (n / 8) hn8; omega
      have hci : wr.cell? ⟨lb, lo + n / 8, none⟩ = some (.int .u8 (x : Int)) := by rw [← hx]; exact hlc _ hn8
      have hbit := bit_hb z n x hx hx256
      have HBit := Lib.hid hbit
      have hvl := getv_lt z p k
      have hv32 : getv z p k < 4294967296 := Nat.lt_of_lt_of_le hvl (Nat.le_trans (Nat.pow_le_pow_right (by decide) (by omega : k ≤ 32)) (by decide))
      obtain ⟨v, hv⟩ : ∃ v, v = getv z p k := ⟨_, rfl⟩
      rw [← hv] at hv32 ⊢
      have HN := Lib.hid hn
      have HV := Lib.hid hv
      clear hlc hx hbit hvl hv hn
      go_wp2
      have k0 : (n : Int).tmod 8 = (n : Int) % 8 := Int.tmod_eq_emod_of_nonneg (by omega)
      have k1 : IntKind.i64.wrap ((n : Int) / 8) = (n : Int) / 8 := IntWalk.i64_in _ (by omega)
      have k2 : IntKind.i64.wrap ((n : Int) % 8) = (n : Int) % 8 := IntWalk.i64_in _ (by omega)
      have k3 : IntKind.i64.wrap (7 - (n : Int) % 8) = 7 - (n : Int) % 8 := IntWalk.i64_in _ (by omega)
      have k4 : (0 : Int) ≤ (n : Int) / 8 := by omega
      have k5 : ((n : Int) / 8).toNat = n / 8 := by omega
      have k6 : (0 : Int) ≤ 7 - (n : Int) % 8 := by omega
      have k7 : (7 - (n : Int) % 8).toNat = 7 - n % 8 := by omega
      have k8 : (n : Int) / 8 < (len : Int) := by omega
      have k9 : IntKind.u64.wrap ((v : Int) * 2) = (v : Int) * 2 := by rw [IntKind.wrap_u64]; omega
      go_quiet (fail)
      clear k0 k1 k2 k3 k4 k5 k6 k7 k8 k9
      rw [get_step z n x v hv32 hx256 HBit.out]
      have hgv : ((2 * v + (if HM.hb z n then 1 else 0) : Nat) : Int) = ((getv z p (k + 1) : Nat) : Int) := by
        rw [HV.out, HN.out]; rfl
      rw [hgv]
      clear hgv
      go_wp2
      go_roundw
      case rel => exact ⟨k + 1, by omega, by go_num, rfl, by
        have h1 := (HRk.out.drewN nq).step (n + 1)
        rw [← Nat.add_assoc, ← HN.out]
        simpa using h1, grownBy_set (grownBy_drewN HG.out _) _ _, by simp; exact HS.out⟩
      case measure => simp [intOf]; omega
    · obtain rfl : k = width := by omega
      go_wp2
      go_ret2
      exact ⟨rfl, HRk.out, HG.out, HS.out⟩
end Go.Proofs.Ytejadoadpgcpjaa
