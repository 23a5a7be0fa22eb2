/- the examples of the chapter: known of law 45, the walk. -/
import Derived.Test.YtiffminhlimajaaGreatZK
import Derived.Lib.SlBytesConst
namespace Go.Proofs.YtiffminhlimajaaGreat
open Go.RowKit
set_option linter.unusedVariables false
attribute [local go_sem ↓] Go.wp_at_zero Go.wp_at_succ

set_option maxRecDepth 100000 in
set_option maxHeartbeats 3200000 in
theorem known45_true (w : World) : Calls Tryz.prog 17 #[] w fun e w' => e = .returned (.bool true) ∧ Below w.heap.size w w' := by
  have HN0 := Lib.hid (fun V => tNew_ok Cfg.zero cf0_valid V)
  have HN5 := Lib.hid (fun V => tNew_ok cf5 cf5_valid V)
  rw [cf0_lit] at HN0
  rw [cf5_lit] at HN5
  have kc := fun (w : World) (C : Array Value) (n c : Nat) => Lib.run_convert_bytes_const (P := Tryz.prog) w 27 5 C n c Tryz.underlying27 Tryz.underlying5
  go_enter Tryz.func17, Tryz.ntmps17
  go_upto_region 2 with (go_at_call 21; with_reducible refine (HN0.out _).mono ?_; rintro e w1 ⟨gt, rfl, hO⟩; have O1 := Lib.hid hO; clear hO)
  go_upto_region 3 with (go_at_call 21; with_reducible refine (HN5.out _).mono ?_; rintro e w2 ⟨gd, rfl, hO⟩; have O2 := Lib.hid hO; clear hO)
  go_upto_region 4 with (go_at_call 21; with_reducible refine (HN5.out _).mono ?_; rintro e w3 ⟨gc, rfl, hO⟩; have O3 := Lib.hid hO; clear hO)
  have T3 := (tri_new O1.out O2.out O3.out).swap
  clear O1 O2 O3
  obtain ⟨Wa, Ra, ia, ca, _⟩ := T3.call
  have CA := Lib.hid ca
  have SA := Lib.hid (subAB Cfg.zero cf0_ok cf0_valid rfl gt Wa Ra w3 ia)
  clear T3 ca ia
  go_upto_region 6 with (first
    | (go_at_call 22; with_reducible refine (SC.out _).mono ?_; rintro e w6 ⟨rfl, hO⟩; have T6 := Lib.hid ((CC.out w6 _ hO).1.rot); clear hO)
    | (go_at_call 22; with_reducible refine (SB.out _).mono ?_; rintro e w5 ⟨rfl, hO⟩; obtain ⟨Wc, Rc, ic, cc, _⟩ := ((CB.out w5 _ hO).1.rot).call; have CC := Lib.hid cc; have SC := Lib.hid (subAB cf5 cf5_ok cf5_valid rfl gd Wc Rc w5 ic); clear hO ic cc)
    | (go_at_call 22; with_reducible refine (SA.out _).mono ?_; rintro e w4 ⟨rfl, hO⟩; obtain ⟨Wb, Rb, ib, cb, _⟩ := ((CA.out w4 _ hO).1.rot).call; have CB := Lib.hid cb; have SB := Lib.hid (subAB cf5 cf5_ok cf5_valid rfl gc Wb Rb w4 ib); clear hO ib cb))
  obtain ⟨W6, R6, i6, _, c6⟩ := T6.out.call
  have C6 := Lib.hid c6
  have H7 := Lib.hid (tNext_ok gt (qS Cfg.zero) W6 R6 w6 i6 (qS_fine cf0_ok cf0_valid) 0 (by decide) (by decide) (builds_plain gt Cfg.zero cf0_ok cf0_valid rfl rfl) (Nat.zero_le _))
  rw [send_t1] at H7
  clear c6 i6
  go_upto_region 7 with (go_at_call 18; with_reducible refine (H7.out).mono ?_; rintro e w7 hO; obtain ⟨A, c, he, hc, hR, hT⟩ := C6.out w7 _ _ hO; dsimp only at he hc hR hT; subst he; have HR7 := Lib.hid hR; have T7 := Lib.hid hT; have hc4 : (4 : Int) ≤ (c : Int) := (by omega); clear hO hR hT)
  obtain ⟨b, o, hA, hbl, hcl⟩ := HR7.out (by decide)
  subst hA
  have y0 : w7.cell? ⟨b, o + 0, none⟩ = some (.int .u8 128) := (hcl 0 (by decide)).trans (show some (Value.int .u8 ((pduZ Cfg.zero 0 2 (nf abz) 0 : Nat) : Int)) = some (.int .u8 128) from rfl)
  have y1 : w7.cell? ⟨b, o + 1, none⟩ = some (.int .u8 0) := (hcl 1 (by decide)).trans (show some (Value.int .u8 ((pduZ Cfg.zero 0 2 (nf abz) 1 : Nat) : Int)) = some (.int .u8 0) from rfl)
  have Y0 := Lib.hid y0
  have Y1 := Lib.hid y1
  clear hcl y0 y1
  obtain ⟨N, hN⟩ : ∃ N : Nat → Prop, N = fun k => (4 : Nat) ≠ 0 ∧ ∃ a, (some ⟨b, o, none⟩ : Option Addr) = some a ∧ k = a.block := ⟨_, rfl⟩
  have HNB : Hid (N b) := Lib.hid (by rw [hN]; exact ⟨by decide, _, rfl, rfl⟩)
  rw [← hN] at T7
  clear hN
  obtain ⟨W7, R7, i7, c7, _⟩ := T7.out.call
  have C7 := Lib.hid c7
  have H8 := Lib.hid (tNext_ok gt tS W7 R7 w7 i7 tS_fine 0 (by decide) (by decide) (builds_plain gt Cfg.zero cf0_ok cf0_valid rfl rfl) (Nat.zero_le _))
  rw [send_t2] at H8
  clear c7 i7
  go_upto_region 8 with (go_at_call 18; with_reducible refine (H8.out).mono ?_; rintro e w8 hO; obtain ⟨A, c2, he, hX⟩ := nxo_txo hO; dsimp only at he hX; subst he; have T8 := Lib.hid (C7.out w8 _ hX).1; have K8 := Lib.hid ((C7.out w8 _ hX).2 b HNB.out); clear hO hX)
  obtain ⟨W8, R8, i8, _, _⟩ := T8.out.call
  have H9 := Lib.hid (tconfirm_no gt tS W8 R8 w8 i8 0 (fun e he => by cases he))
  clear i8
  go_upto_region 9 with (go_at_call 20; with_reducible refine (H9.out).mono ?_; rintro e w9 ⟨rfl, hB⟩; have T9 := Lib.hid ((T8.out.below hB).rot); have B9 := Lib.hid hB; clear hB)
  have K9 : Hid (w9.heap[b]? = w7.heap[b]?) := Lib.hid ((B9.out.block b (by
    obtain ⟨_, _, _, _, _, _, _, _, _, _, _, _, hN, _⟩ := T8.out
    exact (hN b HNB.out).1)).trans K8.out)
  obtain ⟨W9, R9, i9, c9, _⟩ := T9.out.call
  have C9 := Lib.hid c9
  have H10 := Lib.hid (tNext_ok gc (qS cf5) W9 R9 w9 i9 (qS_fine cf5_ok cf5_valid) 4 (by decide) (by decide) (builds_plain gc cf5 cf5_ok cf5_valid rfl rfl) (Nat.zero_le _))
  rw [send_c] at H10
  clear c9 i9
  go_upto_region 10 with (go_at_call 18; with_reducible refine (H10.out).mono ?_; rintro e w10 hO; obtain ⟨A3, c3, he, hX⟩ := nxo_txo hO; dsimp only at he hX; subst he; have T10 := Lib.hid (C9.out w10 _ hX).1.rot; have K10 := Lib.hid (((C9.out w10 _ hX).2 b HNB.out).trans K9.out); clear hO hX)
  obtain ⟨W10, R10, i10, c10, _⟩ := T10.out.call
  have C10 := Lib.hid c10
  have H11 := Lib.hid (tNext_ok gd (qS cf5) W10 R10 w10 i10 (qS_fine cf5_ok cf5_valid) 5 (by decide) (by decide) (builds_plain gd cf5 cf5_ok cf5_valid rfl rfl) (Nat.zero_le _))
  rw [send_d] at H11
  clear c10 i10
  go_upto_region 11 with (go_at_call 18; with_reducible refine (H11.out).mono ?_; rintro e w11 hO; obtain ⟨A4, c4, he, hX⟩ := nxo_txo hO; dsimp only at he hX; subst he; have T11 := Lib.hid (C10.out w11 _ hX).1.rot; have K11 := Lib.hid (((C10.out w11 _ hX).2 b HNB.out).trans K10.out); clear hO hX)
  have z0 := (World.cell?_of_block (a := ⟨b, o + 0, none⟩) K11.out).trans Y0.out
  have z1 := (World.cell?_of_block (a := ⟨b, o + 1, none⟩) K11.out).trans Y1.out
  rw [Nat.add_zero] at z0
  go_wp2
  go_ret
  exact ⟨rfl, T11.out.low⟩
end Go.Proofs.YtiffminhlimajaaGreat
