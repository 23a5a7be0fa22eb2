/- law 47, XHV without what XU has. -/
import Derived.Test.YtiffminhlimajaaMU
namespace Go.Proofs.Ytiffminhlimajaa
open Go.RowKit
set_option maxRecDepth 100000 in
set_option maxHeartbeats 800000 in
theorem reports_true (first : Int) (n c m d : Nat) (A B : Option Addr) (b : Nat → Bool) (z : Nat → Int) (w : World) (h0 : 0 ≤ first) (hn : n ≤ maxLen) (hr : Row w w.heap.size A n (fun j => .bool (b j))) (hz : Row w w.heap.size B m (fun j => .int .u8 (z j)))
    (he : encErr first n = 0) (hl : encLen first n b = m) (hv : ∀ j, j < m → encAt first n b j = z j) :
    Calls Try.prog 13 #[.int .u64 first, .slice A n c, .slice B m d] w fun e w' => e = .returned (.bool true) ∧ Below w.heap.size w w' := by
  have HE := Lib.hid (enc_any first n c A b w h0 hn hr)
  unfold EncAny at HE
  rw [he, hl] at HE
  have HV := Lib.hid (bytesOf_congr hv)
  have HZ := Lib.hid hz
  clear he hl hv hz hr
  go_enter Try.func13, Try.ntmps13
  go_wp2_with (go_at_call 30; refine (HE.out).mono ?_; rintro e w1 ⟨A1, c1, rfl, hR, hb⟩; have s1 := row_string 27 9 5 Try.underlying27 Try.underlying5 Try.underlying9 hR c1; have s2 := row_string 27 9 5 Try.underlying27 Try.underlying5 Try.underlying9 (HZ.out.below hb) d; rw [HV.out] at s1)
  go_ret
  exact ⟨ret_bool (by simp), hb⟩
set_option maxRecDepth 100000 in
set_option maxHeartbeats 800000 in
theorem fails_any (m c : Nat) (A : Option Addr) (z : Nat → Int) (w : World) (hm : m ≤ 140737488355328) (hmc : m ≤ c) (hz : ∀ j, j < m → 0 ≤ z j ∧ z j < 256) (hr : Row w w.heap.size A m (fun j => .int .u8 (z j))) :
    Calls Try.prog 15 #[.slice A m c] w fun e w' => e = .returned (.int .i64 (derr m z)) ∧ Below w.heap.size w w' := by
  have HD := Lib.hid (decode_any m c A z w hm hmc hz hr)
  unfold DecPost ctl at HD
  clear hz hr
  go_enter Try.func15, Try.ntmps15
  go_wp2_with (go_at_call 12; refine (HD.out).mono ?_; rintro e w1 ⟨A1, c1, B1, d1, rfl, hR, hR2, hb⟩)
  go_ret
  exact ⟨rfl, hb.alloc hb.size _⟩
theorem rep1 (W : World) (N : Nat) (hN : W.heap.size = N) : Calls Try.prog 13 #[.int .u64 5, .slice (some ⟨N, 0, none⟩) 3 3, .slice (some ⟨N + 1, 0, none⟩) 6 6] ((W.alloc (.cells #[.bool false, .bool true, .bool false] 4)).alloc (.cells #[.int .u8 0, .int .u8 0, .int .u8 0, .int .u8 0, .int .u8 5, .int .u8 64] 5)) fun e w' => e = .returned (.bool true) ∧ Below W.heap.size W w' := by
  subst hN
  exact (reports_true 5 3 3 6 6 _ _ (fun j => ([false, true, false] : List Bool).getD j false) _ _ (by decide) (by decide) (lit_bools [false, true, false] ((Blk.new W 4 #[.bool false, .bool true, .bool false]).alloc _) (by simp; omega)) (lit_bytes [0, 0, 0, 0, 5, 64] (by have := Blk.new (W.alloc (.cells #[.bool false, .bool true, .bool false] 4)) 5 #[.int .u8 0, .int .u8 0, .int .u8 0, .int .u8 0, .int .u8 5, .int .u8 64]; rw [World.size_alloc] at this; exact this) (by simp)) (by decide) (by decide +kernel) (by decide +kernel)).mono fun _ _ h => ⟨h.1, (((Below.refl _ W).alloc (Nat.le_refl _) _).alloc (by simp) _).trans (h.2.mono (by simp; try omega))⟩
theorem rep2 (W : World) : Calls Try.prog 13 #[.int .u64 4294967296, .slice none 0 0, .slice (some ⟨W.heap.size, 0, none⟩) 6 6] (W.alloc (.cells #[.int .u8 0, .int .u8 255, .int .u8 255, .int .u8 255, .int .u8 255, .int .u8 128] 5)) fun e w' => e = .returned (.bool true) ∧ Below W.heap.size W w' :=
  (reports_true 4294967296 0 0 6 6 _ _ (fun _ => false) _ _ (by decide) (by decide) Row.nil (lit_bytes [0, 255, 255, 255, 255, 128] (Blk.new W 5 #[.int .u8 0, .int .u8 255, .int .u8 255, .int .u8 255, .int .u8 255, .int .u8 128]) (by simp)) (by decide) (by decide +kernel) (by decide +kernel)).mono fun _ _ h => ⟨h.1, ((Below.refl _ W).alloc (Nat.le_refl _) _).trans (h.2.mono (by simp; try omega))⟩
theorem rep3 (W : World) : Calls Try.prog 13 #[.int .u64 7, .slice none 0 0, .slice (some ⟨W.heap.size, 0, none⟩) 5 5] (W.alloc (.cells #[.int .u8 0, .int .u8 0, .int .u8 0, .int .u8 0, .int .u8 7] 5)) fun e w' => e = .returned (.bool true) ∧ Below W.heap.size W w' :=
  (reports_true 7 0 0 5 5 _ _ (fun _ => false) _ _ (by decide) (by decide) Row.nil (lit_bytes [0, 0, 0, 0, 7] (Blk.new W 5 #[.int .u8 0, .int .u8 0, .int .u8 0, .int .u8 0, .int .u8 7]) (by simp)) (by decide) (by decide +kernel) (by decide +kernel)).mono fun _ _ h => ⟨h.1, ((Below.refl _ W).alloc (Nat.le_refl _) _).trans (h.2.mono (by simp; try omega))⟩
theorem fail1 (W : World) : Calls Try.prog 15 #[.slice (some ⟨W.heap.size, 0, none⟩) 1 1] (W.alloc (.cells #[.int .u8 32] 5)) fun e w' => e = .returned (.int .i64 9) ∧ Below W.heap.size W w' :=
  (fails_any 1 1 _ (fun j => ([32] : List Int).getD j 0) _ (by decide) (Nat.le_refl _) (by decide +kernel) (lit_bytes [32] (Blk.new W 5 #[.int .u8 32]) (by simp))).mono fun _ _ h => ⟨by rw [h.1]; rfl, ((Below.refl _ W).alloc (Nat.le_refl _) _).trans (h.2.mono (by simp))⟩
theorem fail2 (W : World) : Calls Try.prog 15 #[.slice (some ⟨W.heap.size, 0, none⟩) 6 6] (W.alloc (.cells #[.int .u8 0, .int .u8 0, .int .u8 0, .int .u8 0, .int .u8 5, .int .u8 0] 5)) fun e w' => e = .returned (.int .i64 9) ∧ Below W.heap.size W w' :=
  (fails_any 6 6 _ (fun j => ([0, 0, 0, 0, 5, 0] : List Int).getD j 0) _ (by decide) (Nat.le_refl _) (by decide +kernel) (lit_bytes [0, 0, 0, 0, 5, 0] (Blk.new W 5 #[.int .u8 0, .int .u8 0, .int .u8 0, .int .u8 0, .int .u8 5, .int .u8 0]) (by simp))).mono fun _ _ h => ⟨by rw [h.1]; rfl, ((Below.refl _ W).alloc (Nat.le_refl _) _).trans (h.2.mono (by simp))⟩
theorem dec1 (W : World) : Calls Try.prog 12 #[.slice (some ⟨W.heap.size, 0, none⟩) 2 2] (W.alloc (.cells #[.int .u8 16, .int .u8 1] 5)) fun e w' => ∃ A c B d, e = .returned (.tuple #[.agg #[.int .i64 1, .int .u32 0, .slice A 0 c, .slice B 1 d], .int .i64 0]) ∧ Row w' w'.heap.size B 1 (fun _ => .int .u8 1) ∧ Below W.heap.size W w' := by
  refine (decode_any 2 2 _ (fun j => ([16, 1] : List Int).getD j 0) _ (by decide) (Nat.le_refl _) (by decide +kernel) (lit_bytes [16, 1] (Blk.new W 5 #[.int .u8 16, .int .u8 1]) (by simp))).mono ?_
  rintro e w' ⟨A, c, B, d, rfl, _, hR, hb⟩
  refine ⟨A, c, B, d, rfl, ?_, ((Below.refl _ W).alloc (Nat.le_refl _) _).trans (hb.mono (by simp))⟩
  exact Row.congr hR (fun j hj => by obtain rfl : j = 0 := by (have : j < 1 := hj); omega
                                     rfl)
set_option maxRecDepth 100000 in
set_option maxHeartbeats 1600000 in
theorem known_true (w : World) :
    Calls Try.prog 5 #[] w fun e w' => e = .returned (.bool true) ∧ Below w.heap.size w w' := by
  go_enter Try.func5, Try.ntmps5
  go_wp2_with (first
    | (go_at_call 12; refine (dec1 _).mono ?_; rintro e w1 ⟨A, c, B, d, rfl, hR, hb1⟩)
    | (go_at_call 13; ((with_reducible refine (rep1 _ _ (by simp)).mono ?_); rintro e w2 ⟨rfl, hb2⟩; have K2 : Blk w2 w1.heap.size 43 #[.int .i64 1, .int .u32 0, .slice A 0 c, .slice B 1 d] := (Blk.new w1 _ _).below hb2 (by simp)))
    | (go_at_call 13; ((with_reducible refine (rep2 _).mono ?_); rintro e w3 ⟨rfl, hb3⟩; have K3 := K2.below hb3 K2.lt))
    | (go_at_call 13; ((with_reducible refine (rep3 _).mono ?_); rintro e w4 ⟨rfl, hb4⟩; have K4 := K3.below hb4 K3.lt; obtain ⟨c0, c1, c2, c3, _, _, _, _⟩ := K4.four; have R4 := (((hR.alloc (Nat.le_refl _) _).more (by simp)).next hb2).next hb3 |>.next hb4))
    | (go_at_call 14; refine (Same_true 1 0 A none B _ 0 1 c 0 d 1 (fun _ => false) (fun _ => 1) _ (by decide) Row.nil Row.nil ((R4.alloc (Nat.le_refl _) _).more (by simp)) (lit_bytes [1] (Blk.new w4 5 #[.int .u8 1]) (by simp) |>.congr (fun j hj => by obtain rfl : j = 0 := (by (have : j < 1 := hj); omega); rfl))).mono ?_; rintro e w5 ⟨rfl, hb5⟩)
    | (go_at_call 15; ((with_reducible refine (fail1 _).mono ?_); rintro e w6 ⟨rfl, hb6⟩))
    | (go_at_call 15; ((with_reducible refine (fail2 _).mono ?_); rintro e w7 ⟨rfl, hb7⟩)))
  go_ret
  exact ⟨rfl, below_step (below_step (below_step (below_new (below_step (below_step (below_step (below_new hb1 _) hb2) hb3) hb4) _) hb5) hb6) hb7⟩
end Go.Proofs.Ytiffminhlimajaa
