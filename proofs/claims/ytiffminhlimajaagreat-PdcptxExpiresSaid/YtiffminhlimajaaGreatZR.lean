/- PdcptxWindow: the walk. -/
import Derived.Test.YtiffminhlimajaaGreatZQ
import Derived.Lib.SlBytesConst
import Derived.Lib.SmallJoins
namespace Go.Proofs.YtiffminhlimajaaGreat
open Go.RowKit
set_option linter.unusedVariables false
attribute [local go_sem ↓] Go.wp_at_zero Go.wp_at_succ
theorem alloc_at (W : World) (o : Obj) (k : Nat) (hk : k = W.heap.size) : (W.alloc o).heap[k]? = some o := by subst hk; exact heap_alloc_new W o
theorem row_cell {V : World} {b j : Nat} {C : Array Value} {t : TypeId} {fr : Nat × Nat} (h : V.heap[b]? = some (.cells C t fr)) : V.cell? ⟨b, j, none⟩ = C[j]? := cell_of_row V b j C t fr h
/-- the state that PdcptxWindow lays -/
structure WinM (w V : World) (N : Nat) (nx fi : Int) : Prop where
  cn : Cnts V (some ⟨N + 1, 0, none⟩) 1 (fun _ => fi) (fun _ => some ⟨N, 0, none⟩) (fun _ => 1) (fun _ => 1) (fun _ _ => 97)
  br : BRows V (some ⟨N + 4, 0, none⟩) 2 (fun k => some ⟨N + 2 + k, 0, none⟩) (fun _ => 1) (fun _ => 1) (fun k _ => if k = 0 then 98 else 99)
  f0 : V.cell? ⟨N + 5, 0, none⟩ = some (.int .u32 nx)
  f1 : V.cell? ⟨N + 5, 1, none⟩ = some (.bool false)
  f2 : V.cell? ⟨N + 5, 2, none⟩ = some (.slice (some ⟨N + 1, 0, none⟩) 1 1)
  f3 : V.cell? ⟨N + 5, 3, none⟩ = some (.slice (some ⟨N + 4, 0, none⟩) 2 2)
  low : Below w.heap.size w V
theorem win_mem (w : World) (fi nx : Int) (hfi : 0 ≤ fi ∧ fi < 4294967296) (fr1 fr2 fr3 : Nat × Nat) :
    WinM w ((((((w.alloc (.cells #[.int .u8 97] 5 fr1)).alloc (.cells #[.int .u32 fi, .slice (some ⟨w.heap.size, 0, none⟩) 1 1] 47)).alloc (.cells #[.int .u8 98] 5 fr2)).alloc (.cells #[.int .u8 99] 5 fr3)).alloc (.cells #[.slice (some ⟨w.heap.size + 2, 0, none⟩) 1 1, .slice (some ⟨w.heap.size + 3, 0, none⟩) 1 1] 27)).alloc (.cells #[.int .u32 nx, .bool false, .slice (some ⟨w.heap.size + 1, 0, none⟩) 1 1, .slice (some ⟨w.heap.size + 4, 0, none⟩) 2 2] 36)) w.heap.size nx fi := by
  obtain ⟨V, hV⟩ : ∃ V, V = ((((((w.alloc (.cells #[.int .u8 97] 5 fr1)).alloc (.cells #[.int .u32 fi, .slice (some ⟨w.heap.size, 0, none⟩) 1 1] 47)).alloc (.cells #[.int .u8 98] 5 fr2)).alloc (.cells #[.int .u8 99] 5 fr3)).alloc (.cells #[.slice (some ⟨w.heap.size + 2, 0, none⟩) 1 1, .slice (some ⟨w.heap.size + 3, 0, none⟩) 1 1] 27)).alloc (.cells #[.int .u32 nx, .bool false, .slice (some ⟨w.heap.size + 1, 0, none⟩) 1 1, .slice (some ⟨w.heap.size + 4, 0, none⟩) 2 2] 36)) := ⟨_, rfl⟩
  have hs : V.heap.size = w.heap.size + 6 := by rw [hV]; simp
  have h0 : V.heap[w.heap.size]? = some (.cells #[.int .u8 97] 5 fr1) := by rw [hV, Below.heap_alloc _ _ _ (by simp only [World.size_alloc]; omega), Below.heap_alloc _ _ _ (by simp only [World.size_alloc]; omega), Below.heap_alloc _ _ _ (by simp only [World.size_alloc]; omega), Below.heap_alloc _ _ _ (by simp only [World.size_alloc]; omega), Below.heap_alloc _ _ _ (by simp only [World.size_alloc]; omega)]; exact alloc_at _ _ _ (by first | rfl | (simp only [World.size_alloc]; done) | (simp only [World.size_alloc]; omega))
  have h1 : V.heap[w.heap.size + 1]? = some (.cells #[.int .u32 fi, .slice (some ⟨w.heap.size, 0, none⟩) 1 1] 47) := by rw [hV, Below.heap_alloc _ _ _ (by simp only [World.size_alloc]; omega), Below.heap_alloc _ _ _ (by simp only [World.size_alloc]; omega), Below.heap_alloc _ _ _ (by simp only [World.size_alloc]; omega), Below.heap_alloc _ _ _ (by simp only [World.size_alloc]; omega)]; exact alloc_at _ _ _ (by first | rfl | (simp only [World.size_alloc]; done) | (simp only [World.size_alloc]; omega))
  have h2 : V.heap[w.heap.size + 2]? = some (.cells #[.int .u8 98] 5 fr2) := by rw [hV, Below.heap_alloc _ _ _ (by simp only [World.size_alloc]; omega), Below.heap_alloc _ _ _ (by simp only [World.size_alloc]; omega), Below.heap_alloc _ _ _ (by simp only [World.size_alloc]; omega)]; exact alloc_at _ _ _ (by first | rfl | (simp only [World.size_alloc]; done) | (simp only [World.size_alloc]; omega))
  have h3 : V.heap[w.heap.size + 3]? = some (.cells #[.int .u8 99] 5 fr3) := by rw [hV, Below.heap_alloc _ _ _ (by simp only [World.size_alloc]; omega), Below.heap_alloc _ _ _ (by simp only [World.size_alloc]; omega)]; exact alloc_at _ _ _ (by first | rfl | (simp only [World.size_alloc]; done) | (simp only [World.size_alloc]; omega))
  have h4 : V.heap[w.heap.size + 4]? = some (.cells #[.slice (some ⟨w.heap.size + 2, 0, none⟩) 1 1, .slice (some ⟨w.heap.size + 3, 0, none⟩) 1 1] 27) := by rw [hV, Below.heap_alloc _ _ _ (by simp only [World.size_alloc]; omega)]; exact alloc_at _ _ _ (by first | rfl | (simp only [World.size_alloc]; done) | (simp only [World.size_alloc]; omega))
  have h5 : V.heap[w.heap.size + 5]? = some (.cells #[.int .u32 nx, .bool false, .slice (some ⟨w.heap.size + 1, 0, none⟩) 1 1, .slice (some ⟨w.heap.size + 4, 0, none⟩) 2 2] 36) := by rw [hV]; exact alloc_at _ _ _ (by first | rfl | (simp only [World.size_alloc]; done) | (simp only [World.size_alloc]; omega))
  have hb : Below w.heap.size w V := by
    rw [hV]
    exact ((((((Below.refl _ w).alloc (Nat.le_refl _) _).alloc (by simp only [World.size_alloc]; omega) _).alloc (by simp only [World.size_alloc]; omega) _).alloc (by simp only [World.size_alloc]; omega) _).alloc (by simp only [World.size_alloc]; omega) _).alloc (by simp only [World.size_alloc]; omega) _
  rw [← hV]
  refine ⟨⟨fun _ => ⟨w.heap.size + 1, 0, rfl, by omega, fun k hk => ?_⟩, fun _ _ => hfi, fun _ _ => by decide, fun _ _ => Nat.le_refl _, fun _ _ _ _ => by decide, fun k hk hn => ⟨w.heap.size, 0, rfl, by omega, fun j hj => ?_⟩⟩,
    ⟨fun _ => ⟨w.heap.size + 4, 0, rfl, by omega, fun k hk => ?_⟩, fun _ _ => by decide, fun _ _ => Nat.le_refl _, fun k _ _ _ => ?_, fun k hk hn => ⟨w.heap.size + 2 + k, 0, rfl, by omega, fun j hj => ?_⟩⟩, ?_, ?_, ?_, ?_, hb⟩
  · obtain rfl : k = 0 := by omega
    exact ⟨row_cell h1, row_cell h1⟩
  · obtain rfl : j = 0 := by omega
    exact row_cell h0
  · rcases (by omega : k = 0 ∨ k = 1) with rfl | rfl
    · exact row_cell h4
    · exact row_cell h4
  · show 0 ≤ (if k = 0 then (98 : Int) else 99) ∧ (if k = 0 then (98 : Int) else 99) < 256
    split <;> decide
  · obtain rfl : j = 0 := by omega
    rcases (by omega : k = 0 ∨ k = 1) with rfl | rfl
    · exact row_cell h2
    · exact row_cell h3
  · exact row_cell h5
  · exact row_cell h5
  · exact row_cell h5
  · exact row_cell h5
set_option maxRecDepth 100000 in
set_option maxHeartbeats 3200000 in
theorem window_walk (fi fa : Int) (hfi : 0 ≤ fi ∧ fi < 4294967296) (hfa : -9223372036854775808 ≤ fa ∧ fa ≤ 9223372036854775807) (w : World) : Calls Tryz.prog 4 #[.int .u32 fi, .int .i64 fa] w fun e w' => e = .returned (.bool true) ∧ Below w.heap.size w w' := by
  have HKN := Lib.hid (fun V => known45_true V)
  obtain ⟨hfi1, hfi2⟩ := hfi
  obtain ⟨hfa1, hfa2⟩ := hfa
  by_cases g1 : fa < 1
  · go_enter Tryz.func4, Tryz.ntmps4
    go_wp2_with (go_at_call 17; with_reducible refine (HKN.out _).mono ?_; rintro e w9 ⟨rfl, hB⟩; have E9 := Lib.hid hB; clear hB)
    go_ret
    exact ⟨rfl, E9.out⟩
  by_cases g2 : 2100 < fa
  · go_enter Tryz.func4, Tryz.ntmps4
    go_wp2_with (go_at_call 17; with_reducible refine (HKN.out _).mono ?_; rintro e w9 ⟨rfl, hB⟩; have E9 := Lib.hid hB; clear hB)
    go_ret
    exact ⟨rfl, E9.out⟩
  have a0 : 0 ≤ fa := by omega
  have a1 : fa < 4294967296 := by omega
  have a2 : fa < 18446744073709551616 := by omega
  have a3 : fi + fa < 18446744073709551616 := by omega
  by_cases g3 : 4294967295 ≤ fi + fa
  · go_enter Tryz.func4, Tryz.ntmps4
    go_wp2_with (go_at_call 17; with_reducible refine (HKN.out _).mono ?_; rintro e w9 ⟨rfl, hB⟩; have E9 := Lib.hid hB; clear hB)
    go_ret
    exact ⟨rfl, E9.out⟩
  have kc := fun (w : World) (C : Array Value) (n c : Nat) => Lib.run_convert_bytes_const (P := Tryz.prog) w 27 5 C n c Tryz.underlying27 Tryz.underlying5
  have kc2 := fun (w : World) (C : Array Value) (n c g : Nat) (hg : g = w.heap.size) => Joins.run_convert_bytes_const_at (P := Tryz.prog) w 27 5 C n c g hg Tryz.underlying27 Tryz.underlying5
  have a4 : fi + fa < 4294967296 := by omega
  go_enter Tryz.func4, Tryz.ntmps4
  go_upto_region 4 with (fail)
  obtain ⟨N, hN⟩ : ∃ N, N = w.heap.size := ⟨_, rfl⟩
  refine wp_let (fun V => WinM w V N (fi + fa) fi) (by rw [hN]; exact win_mem w fi (fi + fa) ⟨hfi1, hfi2⟩ _ _ _) ?_
  intro V hM
  rw [← hN]
  have HM := Lib.hid hM
  have x0 : V.cell? ⟨N + 1 + 1 + 1 + 1 + 1, 0, none⟩ = some (.int .u32 (fi + fa)) := hM.f0
  have x1 : V.cell? ⟨N + 1 + 1 + 1 + 1 + 1, 1, none⟩ = some (.bool false) := hM.f1
  have x2 : V.cell? ⟨N + 1 + 1 + 1 + 1 + 1, 2, none⟩ = some (.slice (some ⟨N + 1, 0, none⟩) 1 1) := hM.f2
  have x3 : V.cell? ⟨N + 1 + 1 + 1 + 1 + 1, 3, none⟩ = some (.slice (some ⟨N + 4, 0, none⟩) 2 2) := hM.f3
  clear hM hN kc kc2
  have hnx0 : 0 ≤ fi + fa := by omega
  by_cases g4 : 2048 < fa
  · have HR := Lib.hid (tresume_no cf1 (some ⟨N + 1, 0, none⟩) (some ⟨N + 4, 0, none⟩) 1 1 2 2 (fi + fa) false (fun _ => fi) (fun _ => some ⟨N, 0, none⟩) (fun _ => 1) (fun _ => 1) (fun _ _ => 97) (fun k => some ⟨N + 2 + k, 0, none⟩) (fun _ => 1) (fun _ => 1) (fun k _ => if k = 0 then 98 else 99) V ⟨hnx0, a4⟩ (by decide) (by decide) HM.out.cn HM.out.br (fun h => by
      have h2 := h.2.window (by decide)
      simp only [nextOf] at h2
      have h3 : fi + fa - fi ≤ 2048 := h2
      omega))
    rw [cf1_lit] at HR
    go_wp2_with (first
      | (go_at_call 15; with_reducible refine (HR.out).mono ?_; rintro e w2 ⟨rfl, hB⟩; have E2 := Lib.hid (HM.out.low.trans (hB.mono HM.out.low.size)); clear hB)
      | (go_at_call 17; with_reducible refine (HKN.out _).mono ?_; rintro e w10 ⟨rfl, hB⟩; have E9 := Lib.hid hB; clear hB))
    go_ret
    exact ⟨rfl, E2.out.trans (E9.out.mono E2.out.size)⟩
  obtain ⟨z, hz⟩ : ∃ z : Nat → Int, z = fun _ => 97 := ⟨_, rfl⟩
  obtain ⟨y0, hy0⟩ : ∃ y0 : Nat → Int, y0 = fun _ => if 0 = 0 then 98 else 99 := ⟨_, rfl⟩
  obtain ⟨y1, hy1⟩ : ∃ y1 : Nat → Int, y1 = fun _ => if 1 = 0 then 98 else 99 := ⟨_, rfl⟩
  obtain ⟨nx, hnx⟩ : ∃ nx, nx = fi + fa := ⟨_, rfl⟩
  have HR : Hid (Calls Tryz.prog 15 #[.agg cf1.arr, .agg #[.int .u32 (fi + fa), .bool false, .slice (some ⟨N + 1, 0, none⟩) 1 1, .slice (some ⟨N + 4, 0, none⟩) 2 2]] V fun e w' => ∃ g, e = .returned (.tuple #[.pointer (some ⟨g, 0, none⟩), .int .i64 0]) ∧ Solo w w' g (wS0 nx fi z y0 y1)) := Lib.hid ((tresume_ok cf1 (some ⟨N + 1, 0, none⟩) (some ⟨N + 4, 0, none⟩) 1 1 2 2 (fi + fa) false (fun _ => fi) (fun _ => some ⟨N, 0, none⟩) (fun _ => 1) (fun _ => 1) (fun _ _ => 97) (fun k => some ⟨N + 2 + k, 0, none⟩) (fun _ => 1) (fun _ => 1) (fun k _ => if k = 0 then 98 else 99) V ⟨hnx0, a4⟩ (by decide) (by decide) HM.out.cn HM.out.br cf1_valid ⟨fun h => absurd h (by decide), fun _ => rfl, fun k hk => ⟨rfl, by show fi < fi + fa; omega, fun h => by omega⟩, fun _ => by show fi + fa - fi ≤ 2048; omega, fun _ _ => rfl⟩).mono (by
    rintro e w' ⟨g, W, R, rfl, hI, hW, hR, hB⟩
    have hl := HM.out.low
    refine ⟨g, rfl, W, R, ?_, fun k hk => Nat.le_trans hl.size (hW k hk), hl.trans (hB.mono hl.size)⟩
    rw [hz, hy0, hy1, hnx]
    exact hI))
  rw [cf1_lit] at HR
  have HNX := Lib.hid hnx
  clear hz hy0 hy1 hnx
  have hne : nx ≠ 4294967296 := by rw [HNX.out]; omega
  have hne1 : nx + 1 ≠ 4294967296 := by rw [HNX.out]; omega
  have HNE := Lib.hid hne
  have HNE1 := Lib.hid hne1
  clear hne hne1
  go_upto_region 9 with (go_at_call 15; with_reducible refine (HR.out).mono ?_; rintro e w4 ⟨g, rfl, hS⟩; have S4 := Lib.hid hS; clear hS)
  have HX1 := Lib.hid (solo_next S4.out (fine_of rfl (fun q hq => by rcases List.mem_cons.1 hq with rfl | hq; rfl; rcases List.mem_cons.1 hq with rfl | hq; rfl; cases hq) (Int.le_refl _)) rfl rfl (by decide : 1 ≤ 1000000) 0 (by decide) (by decide))
  rw [w_send0] at HX1
  go_upto_region 10 with (go_at_call 18; with_reducible refine (HX1.out).mono ?_; rintro e w5 ⟨A, c, he, _, _, hS⟩; subst he; have S5 := Lib.hid hS; clear hS)
  by_cases g5 : fa = 2048
  · have HX2 := Lib.hid (solo_next S5.out (fine_of rfl (fun q hq => by rcases List.mem_cons.1 hq with rfl | hq; rfl; rcases List.mem_cons.1 hq with rfl | hq; rfl; cases hq) (Int.le_refl _)) rfl rfl (by decide : 1 ≤ 1000000) 0 (by decide) (by decide))
    rw [w_send1_full HNE.out (by rw [HNX.out]; omega)] at HX2
    go_upto_region 11 with (go_at_call 18; with_reducible refine (HX2.out).mono ?_; rintro e w6 ⟨A, c, he, _, _, hS⟩; subst he; have S6 := Lib.hid hS; clear hS)
    have HC1 := Lib.hid (solo_confirm S6.out fi 0 ⟨fi, 1, z, false⟩ rfl rfl (fun j hj => absurd hj (by omega)))
    have HNC : Hid (∀ e, e ∈ (wS1 nx fi z y0 y1).P.eraseIdx 0 → e.ct ≠ fi) := Lib.hid (fun e he => absurd (show e ∈ ([] : List PV) from he) List.not_mem_nil)
    go_upto_region 15 with (first
      | (go_at_call 20; with_reducible refine (HC2.out).mono ?_; rintro e w8 ⟨rfl, hS⟩; have S8 := Lib.hid hS; clear hS)
      | (go_at_call 20; with_reducible refine (HC1.out).mono ?_; rintro e w7 ⟨rfl, hS⟩; have HC2 := Lib.hid (solo_confirm_no hS fi HNC.out); clear hS))
    have HX3 := Lib.hid (solo_next (s := { wS1 nx fi z y0 y1 with P := [] }) S8.out (fine_of rfl (fun q hq => by rcases List.mem_cons.1 hq with rfl | hq; rfl; rcases List.mem_cons.1 hq with rfl | hq; rfl; cases hq) (Int.le_refl _)) rfl rfl (by decide : 0 ≤ 1000000) 0 (by decide) (by decide))
    rw [w_send2_full HNE.out] at HX3
    go_wp2_with (first
      | (go_at_call 18; with_reducible refine (HX3.out).mono ?_; rintro e w9 ⟨A, c, he, _, _, hS⟩; subst he; have S9 := Lib.hid hS; clear hS)
      | (go_at_call 17; with_reducible refine (HKN.out _).mono ?_; rintro e w10 ⟨rfl, hB⟩; have E9 := Lib.hid hB; clear hB))
    go_ret
    have h9 := S9.out.low
    exact ⟨rfl, h9.trans (E9.out.mono h9.size)⟩
  · have HX2 := Lib.hid (solo_next S5.out (fine_of rfl (fun q hq => by rcases List.mem_cons.1 hq with rfl | hq; rfl; rcases List.mem_cons.1 hq with rfl | hq; rfl; cases hq) (Int.le_refl _)) rfl rfl (by decide : 1 ≤ 1000000) 0 (by decide) (by decide))
    rw [w_send1 HNE.out (by rw [HNX.out]; omega), HNX.out] at HX2
    have g6 : fa < 2048 := by omega
    go_upto_region 11 with (go_at_call 18; with_reducible refine (HX2.out).mono ?_; rintro e w6 ⟨A, c, he, _, _, hS⟩; subst he; have S6 := Lib.hid hS; clear hS)
    have HC1 := Lib.hid (solo_confirm S6.out fi 0 ⟨fi, 1, z, false⟩ rfl rfl (fun j hj => absurd hj (by omega)))
    have HNC : Hid (∀ e, e ∈ (wS2 (fi + fa) fi z y0 y1).P.eraseIdx 0 → e.ct ≠ fi) := Lib.hid (fun e he => by
      have h1 : e = ⟨fi + fa, 1, y0, false⟩ := List.mem_singleton.1 (show e ∈ [(⟨fi + fa, 1, y0, false⟩ : PV)] from he)
      rw [h1]
      show fi + fa ≠ fi
      omega)
    go_upto_region 15 with (first
      | (go_at_call 20; with_reducible refine (HC2.out).mono ?_; rintro e w8 ⟨rfl, hS⟩; have S8 := Lib.hid hS; clear hS)
      | (go_at_call 20; with_reducible refine (HC1.out).mono ?_; rintro e w7 ⟨rfl, hS⟩; have HC2 := Lib.hid (solo_confirm_no hS fi HNC.out); clear hS))
    have HX3 := Lib.hid (solo_next (s := { wS2 (fi + fa) fi z y0 y1 with P := [⟨fi + fa, 1, y0, false⟩] }) S8.out (fine_of rfl (fun q hq => by rcases List.mem_cons.1 hq with rfl | hq; rfl; cases hq) (Int.le_refl _)) rfl rfl (by decide : 1 ≤ 1000000) 0 (by decide) (by decide))
    rw [w_send2 (by rw [← HNX.out]; exact HNE1.out)] at HX3
    go_wp2_with (first
      | (go_at_call 18; with_reducible refine (HX3.out).mono ?_; rintro e w9 ⟨A, c, he, _, _, hS⟩; subst he; have S9 := Lib.hid hS; clear hS)
      | (go_at_call 17; with_reducible refine (HKN.out _).mono ?_; rintro e w10 ⟨rfl, hB⟩; have E9 := Lib.hid hB; clear hB))
    go_ret
    have h9 := S9.out.low
    exact ⟨rfl, h9.trans (E9.out.mono h9.size)⟩
end Go.Proofs.YtiffminhlimajaaGreat
