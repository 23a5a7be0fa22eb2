/- The walk of CompressChecks. -/
import Derived.Test.YtejadoadpgcpjaaGO
namespace Go.Proofs.Ytejadoadpgcpjaa
open Go.RowKit

attribute [local go_sem ↓] Go.wp_at_zero Go.wp_at_succ

theorem rcheck_ok (A : Option Addr) (n c : Nat) (w : World) :
    Calls Try.prog 35 #[.slice A n c] w fun e w' => e = .returned (.int .i64 (ckErr n)) ∧ w = w' := by
  by_cases h0 : n = 0
  · subst h0
    go_enter Try.func35, Try.ntmps35
    go_wp2
    go_ret
    exact ⟨rfl, rfl⟩
  · by_cases h9 : 9000 < n
    · have h1 : ((n : Int) == 0) = false := by simp; omega
      have h2 : (9000 : Int) < (n : Int) := by omega
      have he : ckErr n = 4 := by unfold ckErr; rw [if_neg h0, if_pos h9]
      rw [he]
      clear he h9
      go_enter Try.func35, Try.ntmps35
      go_wp2
      go_ret
      exact ⟨rfl, rfl⟩
    · have h1 : ((n : Int) == 0) = false := by simp; omega
      have h2 : ¬ (9000 : Int) < (n : Int) := by omega
      have he : ckErr n = 0 := by unfold ckErr; rw [if_neg h0, if_neg h9]
      rw [he]
      clear he h9
      go_enter Try.func35, Try.ntmps35
      go_wp2
      go_ret
      exact ⟨rfl, rfl⟩

theorem long_raw (g : Nat) (S : Nat → Rx) (T : Int) (N : Nat) (w : World) (hN : w.heap.size = N) (h : CB w g true S T) :
    Calls Try.prog 32 #[.pointer (some ⟨g, 0, none⟩), .slice (some ⟨N, 0, none⟩) 9000 9000] (w.alloc (.cells (madeCells #[.int .u8 0] 9000) 5)) (fun e w' => ∃ lb lo c, e = .returned (.tuple #[.slice (some ⟨lb, lo, none⟩) 9001 c, .int .i64 0]) ∧ w'.cell? ⟨lb, lo, none⟩ = some (.int .u8 192) ∧ Keep1 g w w') := by
  subst hN
  have hp : pErr 9000 (fun _ => 0) ≠ 0 := by decide +kernel
  have hb : Below w.heap.size w (w.alloc (.cells (madeCells #[.int .u8 0] 9000) 5)) := (Below.refl _ w).alloc (Nat.le_refl _) _
  refine (compress_raw g S T (some ⟨w.heap.size, 0, none⟩) 9000 9000 (fun _ => 0) _ (h.alloc _) (by decide) hp (Nat.le_refl _) (fun _ _ => by decide) (fun _ => ⟨w.heap.size, 0, rfl, by simp, fun j hj => ?_⟩)).mono ?_
  · rw [show (0 : Nat) + j = j by omega]
    exact (Blk.cell (Blk.new w _ _) j).trans (by unfold madeCells; simp [hj, Nat.mod_one])
  · rintro e w' ⟨A, c, he, hc, hF, hR, hK, hE⟩
    obtain ⟨lb, lo, rfl, _, hcl⟩ := hR (by omega)
    exact ⟨lb, lo, c, he, hcl 0 (by omega), (keep_of_below hb).trans hE⟩
theorem long_bad (g : Nat) (S : Nat → Rx) (T : Int) (A : Option Addr) (c : Nat) (w : World) (h : CB w g true S T) :
    Calls Try.prog 32 #[.pointer (some ⟨g, 0, none⟩), .slice A 9001 c] w fun e w' => e = .returned (.tuple #[.slice none 0 0, .int .i64 4]) ∧ Below w.heap.size w w' :=
  compress_bad g S T A 9001 c w h (by decide)

set_option maxRecDepth 100000 in
set_option maxHeartbeats 3200000 in
theorem checks_walk (A : Option Addr) (n c : Nat) (z : Nat → Int) (past : Bool) (w : World) (hnc : n ≤ c) (hz : ∀ j, j < n → 0 ≤ z j ∧ z j < 256) (hr : Row w w.heap.size A n (fun j => .int .u8 (z j))) :
    Calls Try.prog 9 #[.slice A n c, .bool past] w fun e w' => e = .returned (.bool true) ∧ Below w.heap.size w w' := by
  by_cases hn : 100 < n
  · go_enter Try.func9, Try.ntmps9
    go_wp2_with (go_at_call 30; refine (works43_true _).mono ?_; rintro e w1 ⟨rfl, hB1⟩)
    go_ret
    exact ⟨rfl, hB1⟩
  have hfar : ∀ a, A = some a → a.block ≠ w.heap.size ∨ n = 0 := fun a e => by
    by_cases h0 : n = 0
    · exact .inr h0
    · obtain ⟨lb, lo, e2, hlt, _⟩ := hr (by omega)
      rw [e] at e2; cases e2
      exact .inl (by simp; omega)
  have HCO := Lib.hid (fun (W : World) (hB : Below w.heap.size w W) (hK : CB W w.heap.size true S0 0) => show Calls Try.prog 32 #[.pointer (some ⟨w.heap.size, 0, none⟩), .slice A n c] W (fun e w' => ∃ A' l' c' S' T', e = .returned (.tuple #[.slice A' l' c', .int .i64 (ckErr n)]) ∧ CB w' w.heap.size true S' T' ∧ Keep1 w.heap.size W w') from by
    by_cases h0 : n = 0
    · subst h0
      exact (compress_bad w.heap.size S0 0 A 0 c W hK (by decide)).mono fun e w' ⟨h1, h2⟩ => ⟨_, _, _, _, _, h1, CB.below hK h2 hK.lt, keep_of_below h2⟩
    · exact (compress_any w.heap.size S0 0 A n c z W hK S0_ok (by decide) hnc hz ((hr.below hB).more hB.size) (fun a e => (hfar a e).resolve_right h0)).mono fun e w' ⟨A', c', h1, _, _, _, h2, h3⟩ => ⟨_, _, _, _, _, h1, h2, h3⟩)
  have HCC := Lib.hid (fun W => ccheck_ok A n c W)
  have HRC := Lib.hid (fun W => rcheck_ok A n c W)
  obtain ⟨E, hE⟩ : ∃ E, E = ckErr n := ⟨_, rfl⟩
  rw [← hE] at HCO HCC HRC
  obtain ⟨i0, hi, hz0, hz1, hz2⟩ := info_parts Try.infoByte
  have hmk : ∀ W : World, (Instr.makeSlice 22 (.int .i64 9000) (.int .i64 9000)).run Try.prog W = .ok (.slice (some ⟨W.heap.size, 0, none⟩) 9000 9000) (W.alloc (.cells (madeCells #[.int .u8 0] 9000) 5)) := fun W => make_bytes 9000 (by decide) W
  have hn2 : ¬ (100 : Int) < (n : Int) := by omega
  clear hE hfar hr hz
  cases past
  · go_enter Try.func9, Try.ntmps9
    go_wp2_with (first
      | (go_at_call 33; ((with_reducible refine (num43_ok _ _).mono ?_); rintro e w0 ⟨rfl, rfl⟩))
      | (go_at_call 34; ((with_reducible refine (HCC.out _).mono ?_); rintro e w0 ⟨rfl, rfl⟩))
      | (go_at_call 34; ((with_reducible refine (ccheck_ok _ 9000 _ _).mono ?_); rintro e w0 ⟨rfl, rfl⟩))
      | (go_at_call 35; ((with_reducible refine (HRC.out _).mono ?_); rintro e w0 ⟨rfl, rfl⟩))
      | (go_at_call 30; ((with_reducible refine (works43_true _).mono ?_); rintro e w5 ⟨rfl, hB5⟩))
      | (go_at_call 31; ((with_reducible refine (new_ok2 _).mono ?_); rintro e w1 ⟨rfl, hK1, hB1⟩; have K1 := Lib.hid hK1; have B1 := Lib.hid hB1; clear hK1 hB1))
      | (go_at_call 32; ((with_reducible refine (HCO.out w1 B1.out K1.out).mono ?_); rintro e w2 ⟨A2, l2, c2, S2, T2, rfl, hK2, hE2⟩; have K2 := Lib.hid hK2; have E2 := Lib.hid hE2; clear hK2 hE2))
      | (go_at_call 32; ((with_reducible refine (long_raw w.heap.size S2 T2 w2.heap.size w2 rfl K2.out).mono ?_); rintro e w3 ⟨lb, lo, c3, rfl, hcell, hE3⟩; have E3 := Lib.hid hE3; clear hE3)))
    go_ret
    exact ⟨rfl, (below_keep B1.out (E2.out.trans E3.out) (Nat.le_refl _) (Nat.le_of_lt K1.out.lt)).trans (hB5.mono (by have := K1.out.lt; have := E2.out.size; have := E3.out.size; omega))⟩
  · go_enter Try.func9, Try.ntmps9
    go_wp2_with (first
      | (go_at_call 33; ((with_reducible refine (num43_ok _ _).mono ?_); rintro e w0 ⟨rfl, rfl⟩))
      | (go_at_call 34; ((with_reducible refine (HCC.out _).mono ?_); rintro e w0 ⟨rfl, rfl⟩))
      | (go_at_call 34; ((with_reducible refine (ccheck_ok _ 9001 _ _).mono ?_); rintro e w0 ⟨rfl, rfl⟩))
      | (go_at_call 35; ((with_reducible refine (HRC.out _).mono ?_); rintro e w0 ⟨rfl, rfl⟩))
      | (go_at_call 30; ((with_reducible refine (works43_true _).mono ?_); rintro e w5 ⟨rfl, hB5⟩))
      | (go_at_call 31; ((with_reducible refine (new_ok2 _).mono ?_); rintro e w1 ⟨rfl, hK1, hB1⟩; have K1 := Lib.hid hK1; have B1 := Lib.hid hB1; clear hK1 hB1))
      | (go_at_call 32; ((with_reducible refine (HCO.out w1 B1.out K1.out).mono ?_); rintro e w2 ⟨A2, l2, c2, S2, T2, rfl, hK2, hE2⟩; have K2 := Lib.hid hK2; have E2 := Lib.hid hE2; clear hK2 hE2; have HO := Lib.hid (World.ownsRow_lit (base := w2.heap.size) (e := 5) (size := 1) w2 (madeCells #[.int .u8 0] 9000) 9000 (Nat.le_refl _) (by decide) (by unfold madeCells; simp))))
      | (at_builtin; refine wpList_append_one _ rfl _ _ 22 rfl w2.heap.size 5 i0 (.int .u8 0) 1 Try.underlying22 hi hz0 hz1 hz2 rfl _ _ _ rfl HO.out _ (by rw [World.size_alloc]; rfl) rfl (by decide) (by decide) (by simp) ?_; intro v5 w3 hown5 hb3; have HB3 := Lib.hid (((Below.refl _ w2).alloc (Nat.le_refl _) _).trans hb3); obtain ⟨g5, c5, hv5, _, _, _⟩ := own_room hown5 (by decide); subst hv5; clear hown5 hb3; have K3 := Lib.hid (K2.out.below HB3.out K2.out.lt))
      | (go_at_call 32; ((with_reducible refine (long_bad w.heap.size S2 T2 _ _ w3 K3.out).mono ?_); rintro e w4 ⟨rfl, hB4⟩; have B4 := Lib.hid hB4; clear hB4)))
    go_ret
    exact ⟨rfl, (below_keep B1.out ((E2.out.trans (keep_of_below HB3.out)).trans (keep_of_below B4.out)) (Nat.le_refl _) (Nat.le_of_lt K1.out.lt)).trans (hB5.mono (by have := K1.out.lt; have := E2.out.size; have := HB3.out.size; have := B4.out.size; omega))⟩
end Go.Proofs.Ytejadoadpgcpjaa
