/- compress: works of law 43. -/
import Derived.Test.YtejadoadpgcpjaaGW
namespace Go.Proofs.Ytejadoadpgcpjaa
open Go.RowKit

attribute [local go_sem ↓] Go.wp_at_zero Go.wp_at_succ

theorem new_ok2 (w : World) : Calls Try.prog 31 #[] w fun e w' => e = .returned (.pointer (some ⟨w.heap.size, 0, none⟩)) ∧ CB w' w.heap.size true S0 0 ∧ Below w.heap.size w w' :=
  (new_ok w).mono fun e w' ⟨he, hw⟩ => ⟨he, by rw [← hw]; exact Blk.new _ _ _, by rw [← hw]; exact (Below.refl _ w).alloc (Nat.le_refl _) _⟩
theorem pk7 (w : World) : Calls Try.prog 41 #[.int .i64 7] w (PkOut 7 w) := packet_ok 7 (by decide) w
theorem pk8 (w : World) : Calls Try.prog 41 #[.int .i64 8] w (PkOut 8 w) := packet_ok 8 (by decide) w
theorem pk10 (w : World) : Calls Try.prog 41 #[.int .i64 10] w (PkOut 10 w) := packet_ok 10 (by decide) w
theorem pk11 (w : World) : Calls Try.prog 41 #[.int .i64 11] w (PkOut 11 w) := packet_ok 11 (by decide) w
theorem cw5a (g : Nat) (S : Nat → Rx) (T : Int) (w : World) (N : Nat) (hN : w.heap.size = N) (h : CB w g true S T) :
    Calls Try.prog 32 #[.pointer (some ⟨g, 0, none⟩), .slice (some ⟨N, 0, none⟩) 1 1] (w.alloc (.cells #[.int .u8 1] 5)) (COut 2 wy5 0 g S T w) := by
  subst hN
  refine (cw5 g w.heap.size 1 S T _ (h.alloc _) ((Blk.new w 5 #[.int .u8 1]).one_row (by simp)) (by decide)).mono ?_
  rintro e w' ⟨A, c, he, hc, hF, hR, hK, hE⟩
  exact ⟨A, c, he, hc, hF.mono (by simp), hR, hK, (keep_of_below ((Below.refl _ w).alloc (Nat.le_refl _) _)).trans hE⟩
theorem cw6 (g : Nat) (S : Nat → Rx) (T : Int) (w : World) (h : CB w g true S T) :
    Calls Try.prog 32 #[.pointer (some ⟨g, 0, none⟩), .slice none 0 0] w fun e w' => e = .returned (.tuple #[.slice none 0 0, .int .i64 2]) ∧ Below w.heap.size w w' :=
  compress_bad g S T none 0 0 w h (by decide)
theorem wfb1 (g : Nat) (w : World) (N : Nat) (hN : w.heap.size = N) (h : CB w g true (upd S0 0 wc3) 3) :
    Calls Try.prog 45 #[.pointer (some ⟨g, 0, none⟩), .slice (some ⟨N, 0, none⟩) 1 1] (w.alloc (.cells #[.int .u8 160] 5)) (FOut 0 g true (upd S0 0 wc30) 3 w) := by
  subst hN
  refine (feedback_ok g (upd S0 0 wc3) 3 (some ⟨w.heap.size, 0, none⟩) 1 1 (fun _ => 160) (by decide) (fun _ _ => by decide) _ (h.alloc _) ((Blk.new w 5 #[.int .u8 160]).one_row (by simp)) (fun a e _ => by cases e; have := h.lt; simp; omega)).mono ?_
  rintro e w' ⟨he, hK, hE⟩
  rw [wf1] at hK
  exact ⟨he, hK, (keep_of_below ((Below.refl _ w).alloc (Nat.le_refl _) _)).trans hE⟩
theorem wfb2 (g : Nat) (S : Nat → Rx) (T : Int) (w : World) (N : Nat) (hN : w.heap.size = N) (h : CB w g true S T) :
    Calls Try.prog 45 #[.pointer (some ⟨g, 0, none⟩), .slice (some ⟨N, 0, none⟩) 1 1] (w.alloc (.cells #[.int .u8 176] 5)) (FOut 9 g true S T w) := by
  subst hN
  refine (feedback_ok g S T (some ⟨w.heap.size, 0, none⟩) 1 1 (fun _ => 176) (by decide) (fun _ _ => by decide) _ (h.alloc _) ((Blk.new w 5 #[.int .u8 176]).one_row (by simp)) (fun a e _ => by cases e; have := h.lt; simp; omega)).mono ?_
  rintro e w' ⟨he, hK, hE⟩
  have e1 : anyBad (fun _ => 176) 1 = true := by decide +kernel
  unfold feedErr at he
  unfold feedS at hK
  rw [if_pos e1] at he hK
  exact ⟨he, hK, (keep_of_below ((Below.refl _ w).alloc (Nat.le_refl _) _)).trans hE⟩
theorem Row.stay {g B n : Nat} {A : Option Addr} {v : Nat → Value} {w w' : World} (h : Row w w.heap.size A n v) (hF : Fresh B A) (hg : g < B) (K : Keep1 g w w') : Row w' w'.heap.size A n v :=
  (K.row h (Nat.le_refl _) (fun a e => by have := hF a e; omega)).more K.size
theorem below_keep {B g : Nat} {w w1 w' : World} (h : Below B w w1) (k : Keep1 g w1 w') (hg : B ≤ g) (hB : B ≤ w1.heap.size) : Below B w w' :=
  ⟨k.os.trans h.os, k.tape.trans h.tape, k.output.trans h.output, Nat.le_trans h.size k.size, fun i hi => (k.block i (by omega) (fun e => by cases e; omega)).trans (h.block i hi)⟩

set_option maxRecDepth 100000 in
set_option maxHeartbeats 3200000 in
theorem works43_true (w : World) : Calls Try.prog 30 #[] w fun e w' => e = .returned (.bool true) ∧ Below w.heap.size w w' := by
  go_enter Try.func30, Try.ntmps30
  go_wp2_with (first
    | (go_at_call 33; ((with_reducible refine (num43_ok _ _).mono ?_); rintro e w0 ⟨rfl, rfl⟩))
    | (go_at_call 31; ((with_reducible refine (new_ok2 _).mono ?_); rintro e w1 ⟨rfl, hK1, hB1⟩; have K1 := Lib.hid hK1; have B1 := Lib.hid hB1; clear hK1 hB1))
    | (go_at_call 41; ((with_reducible refine (pk7 w1).mono ?_); rintro e w2 ⟨b2, c2, rfl, hc2, hb2, hR2, hB2⟩; have K2 := Lib.hid (K1.out.below hB2 K1.out.lt); have R2 := Lib.hid hR2; have hg2 : b2 ≠ w.heap.size := (by have := K1.out.lt; omega); have E2 := Lib.hid (keep_of_below (g := w.heap.size) hB2); clear hR2 hB2 hb2))
    | (go_at_call 32; ((with_reducible refine (cw1 w.heap.size b2 c2 w2 K2.out hc2 R2.out hg2).mono ?_); rintro e w3 ⟨A3, c3, rfl, hc3, hF3, hR3, hK3, hE3⟩; have K3 := Lib.hid hK3; have R3 := Lib.hid hR3; have E3 := Lib.hid hE3; have F3 := Lib.hid (hF3.mono (Nat.succ_le_of_lt K2.out.lt)); clear hR3 hK3 hE3 hF3 hg2 hc2 hc3))
    | (go_at_call 41; ((with_reducible refine (pk8 w3).mono ?_); rintro e w4 ⟨b4, c4, rfl, hc4, hb4, hR4, hB4⟩; have K4 := Lib.hid (K3.out.below hB4 K3.out.lt); have R4 := Lib.hid hR4; have hg4 : b4 ≠ w.heap.size := (by have := K3.out.lt; omega); have E4 := Lib.hid (keep_of_below (g := w.heap.size) hB4); clear hR4 hB4 hb4))
    | (go_at_call 32; ((with_reducible refine (cw2 w.heap.size b4 c4 w4 K4.out hc4 R4.out hg4).mono ?_); rintro e w5 ⟨A5, c5, rfl, hc5, hF5, hR5, hK5, hE5⟩; have K5 := Lib.hid hK5; have R5 := Lib.hid hR5; have E5 := Lib.hid hE5; have F5 := Lib.hid (hF5.mono (Nat.succ_le_of_lt K4.out.lt)); clear hR5 hK5 hE5 hF5 hg4 hc4 hc5))
    | (go_at_call 41; ((with_reducible refine (pk10 w5).mono ?_); rintro e w6 ⟨b6, c6, rfl, hc6, hb6, hR6, hB6⟩; have K6 := Lib.hid (K5.out.below hB6 K5.out.lt); have R6 := Lib.hid hR6; have hg6 : b6 ≠ w.heap.size := (by have := K5.out.lt; omega); have E6 := Lib.hid (keep_of_below (g := w.heap.size) hB6); clear hR6 hB6 hb6))
    | (go_at_call 32; ((with_reducible refine (cw3 w.heap.size b6 c6 w6 K6.out hc6 R6.out hg6).mono ?_); rintro e w7 ⟨A7, c7, rfl, hc7, hF7, hR7, hK7, hE7⟩; have K7 := Lib.hid hK7; have R7 := Lib.hid hR7; have E7 := Lib.hid hE7; have F7 := Lib.hid (hF7.mono (Nat.succ_le_of_lt K6.out.lt)); clear hR7 hK7 hE7 hF7 hg6 hc6 hc7))
    | (go_at_call 45; ((with_reducible refine (wfb1 w.heap.size w7 w7.heap.size rfl K7.out).mono ?_); rintro e w8 ⟨rfl, hK8, hE8⟩; have K8 := Lib.hid hK8; have E8 := Lib.hid hE8; clear hK8 hE8))
    | (go_at_call 41; ((with_reducible refine (pk11 w8).mono ?_); rintro e w9 ⟨b9, c9, rfl, hc9, hb9, hR9, hB9⟩; have K9 := Lib.hid (K8.out.below hB9 K8.out.lt); have R9 := Lib.hid hR9; have hg9 : b9 ≠ w.heap.size := (by have := K8.out.lt; omega); have E9 := Lib.hid (keep_of_below (g := w.heap.size) hB9); clear hR9 hB9 hb9))
    | (go_at_call 32; ((with_reducible refine (cw4 w.heap.size b9 c9 w9 K9.out hc9 R9.out hg9).mono ?_); rintro e w10 ⟨A10, c10, rfl, hc10, hF10, hR10, hK10, hE10⟩; have K10 := Lib.hid hK10; have R10 := Lib.hid hR10; have E10 := Lib.hid hE10; have F10 := Lib.hid (hF10.mono (Nat.succ_le_of_lt K9.out.lt)); clear hR10 hK10 hE10 hF10 hg9 hc9 hc10))
    | (go_at_call 32; ((with_reducible refine (cw5a w.heap.size (upd S0 0 wc4) 4 w10 w10.heap.size rfl K10.out).mono ?_); rintro e w11 ⟨A11, c11, rfl, hc11, hF11, hR11, hK11, hE11⟩; have K11 := Lib.hid hK11; have R11 := Lib.hid hR11; have E11 := Lib.hid hE11; have F11 := Lib.hid (hF11.mono (Nat.succ_le_of_lt K10.out.lt)); clear hR11 hK11 hE11 hF11 hc11))
    | (go_at_call 32; ((with_reducible refine (cw6 w.heap.size (upd S0 0 wc4) 4 w11 K11.out).mono ?_); rintro e w12 ⟨rfl, hB12⟩; have K12 := Lib.hid (K11.out.below hB12 K11.out.lt); have E12 := Lib.hid (keep_of_below (g := w.heap.size) hB12); clear hB12))
    | (go_at_call 45; ((with_reducible refine (wfb2 w.heap.size (upd S0 0 wc4) 4 w12 w12.heap.size rfl K12.out).mono ?_); rintro e w13 ⟨rfl, hK13, hE13⟩; have E13 := Lib.hid hE13; clear hK13 hE13; have X3 := Lib.hid (Row.stay R3.out F3.out (Nat.lt_succ_self _) ((((((((((E4.out).trans E5.out).trans E6.out).trans E7.out).trans E8.out).trans E9.out).trans E10.out).trans E11.out).trans E12.out).trans E13.out)); have s3 := row_string 22 9 5 Try.underlying22 Try.underlying5 Try.underlying9 X3.out c3; rw [wy1_str] at s3; have X5 := Lib.hid (Row.stay R5.out F5.out (Nat.lt_succ_self _) ((((((((E6.out).trans E7.out).trans E8.out).trans E9.out).trans E10.out).trans E11.out).trans E12.out).trans E13.out)); have s5 := row_string 22 9 5 Try.underlying22 Try.underlying5 Try.underlying9 X5.out c5; rw [wy2_str] at s5; have X7 := Lib.hid (Row.stay R7.out F7.out (Nat.lt_succ_self _) ((((((E8.out).trans E9.out).trans E10.out).trans E11.out).trans E12.out).trans E13.out)); have s7 := row_string 22 9 5 Try.underlying22 Try.underlying5 Try.underlying9 X7.out c7; rw [wy3_str] at s7; have X10 := Lib.hid (Row.stay R10.out F10.out (Nat.lt_succ_self _) (((E11.out).trans E12.out).trans E13.out)); obtain ⟨lb, lo, rfl, hlb, hcl⟩ := X10.out (by decide); have i0 : w13.cell? ⟨lb, lo, none⟩ = some (.int .u8 0) := hcl 0 (by decide); have i1 : w13.cell? ⟨lb, lo + 1, none⟩ = some (.int .u8 1) := hcl 1 (by decide); clear hcl; have X11 := Lib.hid (Row.stay R11.out F11.out (Nat.lt_succ_self _) ((E12.out).trans E13.out)); have s11 := row_string 22 9 5 Try.underlying22 Try.underlying5 Try.underlying9 X11.out c11; rw [wy5_str] at s11; skip)))
  go_ret
  exact ⟨rfl, below_keep B1.out ((((((((((((E2.out).trans E3.out).trans E4.out).trans E5.out).trans E6.out).trans E7.out).trans E8.out).trans E9.out).trans E10.out).trans E11.out).trans E12.out).trans E13.out) (Nat.le_refl _) (Nat.le_of_lt K1.out.lt)⟩
end Go.Proofs.Ytejadoadpgcpjaa
