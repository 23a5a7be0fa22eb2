/- The walk of HandoverNil. -/
import Derived.Test.YtknlipjgehgihaaNA
import Derived.Test.YtknlipjgehgihaaMV
namespace Go.Proofs.Ytknlipjgehgihaa
open Go.RowKit

attribute [local go_sem ↓] Go.wp_at_zero Go.wp_at_succ

theorem blk_at (W : World) (t : TypeId) (cs : Array Value) (N : Nat) (hN : W.heap.size = N) : Blk (W.alloc (.cells cs t)) N t cs := by
  subst hN; exact Blk.new W t cs
theorem wp_world {P : Program} {c : Code} {Q : Exit → Act → World → Prop} {a : Act} {w : World} (R : World → Prop) (h : R w) (k : ∀ w', R w' → c.wp P Q a w') : c.wp P Q a w := k w h
set_option maxRecDepth 100000 in
theorem move_none (p r : Value) (C1 C2 : Array Value) (w : World) (h : TNone p w) (h2 : TNone r w) : Calls Try.prog 19 #[.agg #[p, r], .agg C1, .agg C2] w fun e w' => e = .returned (.tuple #[.agg #[.pointer none, .pointer none], .int .i64 1]) ∧ Below w.heap.size w w' := by
  have HS := Lib.hid (fun W h1 h2 => side_none p r W h1 h2)
  have HT := Lib.hid h
  have HT2 := Lib.hid h2
  clear h h2
  go_enter Try.func19, Try.ntmps19
  go_upto_region 1 with (fail)
  refine wp_world (fun W => Blk W w.heap.size 78 #[p, r] ∧ Blk W (w.heap.size + 1 + 1 + 1) 78 #[.pointer none, .pointer none] ∧ Below w.heap.size w W) ⟨(((Blk.new _ _ _).alloc _).alloc _).alloc _, blk_at _ _ _ _ (by simp), (((((Below.refl _ w).alloc (Nat.le_refl _) _).alloc (by simp) _).alloc (by simp; omega) _).alloc (by simp; omega) _)⟩ ?_
  rintro W1 ⟨b1, b2, b3⟩
  have x0 := b1.cell 0
  have x1 := b1.cell 1
  have hl := b2.lt
  have HB3 := Lib.hid b3
  have HB2 := Lib.hid b2
  simp at x0 x1
  clear b1 b2 b3
  go_wp2_with (go_at_call 44; refine (HS.out _ (HT.out.below HB3.out) (HT2.out.below HB3.out)).mono ?_; rintro e w2 ⟨rfl, hB⟩; have y0 := (HB2.out.below hB HB2.out.lt).cell 0; have y1 := (HB2.out.below hB HB2.out.lt).cell 1; have z0 := (HB2.out.below hB HB2.out.lt).frozen 0; have z1 := (HB2.out.below hB HB2.out.lt).frozen 1; have hb2 := Lib.hid (HB2.out.below hB HB2.out.lt); have hb := Lib.hid (below_step HB3.out hB); simp at y0 y1; clear hB)
  have hb4 : Blk ((w2.setCell ⟨w.heap.size + 1 + 1 + 1, 0, none⟩ (.pointer none)).setCell ⟨w.heap.size + 1 + 1 + 1, 1, none⟩ (.pointer none)) (w.heap.size + 1 + 1 + 1) 78 #[.pointer none, .pointer none] := (hb2.out.set_ 0 _).set_ 1 _
  refine bodyPost_ret (v := .tuple #[.agg #[.pointer none, .pointer none], .int .i64 1]) (results_cell_one (g := w.heap.size + 1 + 1 + 1) (t := 78) (fr := (0, 0)) Try.results19 _ _ #[.pointer none, .pointer none] _ rfl hb4 Try.underlying78 rfl (by kernel_rfl) _ rfl) rfl ⟨rfl, (hb.out.setCell (p := ⟨w.heap.size + 1 + 1 + 1, 0, none⟩) (by show w.heap.size ≤ w.heap.size + 1 + 1 + 1; omega) _).setCell (p := ⟨w.heap.size + 1 + 1 + 1, 1, none⟩) (by show w.heap.size ≤ w.heap.size + 1 + 1 + 1; omega) _⟩
set_option maxRecDepth 100000 in
theorem reest_none (p r : Value) (C1 C2 : Array Value) (w : World) (h : TNone p w) (h2 : TNone r w) : Calls Try.prog 20 #[.agg #[p, r], .agg C1, .agg C2] w fun e w' => e = .returned (.int .i64 1) ∧ Below w.heap.size w w' := by
  have HS := Lib.hid (fun W h1 h2 => side_none p r W h1 h2)
  have HT := Lib.hid h
  have HT2 := Lib.hid h2
  clear h h2
  go_enter Try.func20, Try.ntmps20
  go_upto_region 1 with (fail)
  refine wp_world (fun W => Blk W w.heap.size 78 #[p, r] ∧ Below w.heap.size w W) ⟨((Blk.new _ _ _).alloc _).alloc _, ((((Below.refl _ w).alloc (Nat.le_refl _) _).alloc (by simp) _).alloc (by simp; omega) _)⟩ ?_
  rintro W1 ⟨b1, b3⟩
  have x0 := b1.cell 0
  have x1 := b1.cell 1
  have HB3 := Lib.hid b3
  simp at x0 x1
  clear b1 b3
  go_wp2_with (go_at_call 44; refine (HS.out _ (HT.out.below HB3.out) (HT2.out.below HB3.out)).mono ?_; rintro e w2 ⟨rfl, hB⟩; have hb := Lib.hid (below_step HB3.out hB); clear hB)
  go_ret
  exact ⟨rfl, hb.out⟩
def k32 : Array Value := #[.int .u8 1, .int .u8 0, .int .u8 0, .int .u8 0, .int .u8 0, .int .u8 0, .int .u8 0, .int .u8 0, .int .u8 0, .int .u8 0, .int .u8 0, .int .u8 0, .int .u8 0, .int .u8 0, .int .u8 0, .int .u8 0, .int .u8 2, .int .u8 0, .int .u8 0, .int .u8 0, .int .u8 0, .int .u8 0, .int .u8 0, .int .u8 0, .int .u8 0, .int .u8 0, .int .u8 0, .int .u8 0, .int .u8 0, .int .u8 0, .int .u8 0, .int .u8 0]
def z32 : Array Value := #[.int .u8 0, .int .u8 0, .int .u8 0, .int .u8 0, .int .u8 0, .int .u8 0, .int .u8 0, .int .u8 0, .int .u8 0, .int .u8 0, .int .u8 0, .int .u8 0, .int .u8 0, .int .u8 0, .int .u8 0, .int .u8 0, .int .u8 0, .int .u8 0, .int .u8 0, .int .u8 0, .int .u8 0, .int .u8 0, .int .u8 0, .int .u8 0, .int .u8 0, .int .u8 0, .int .u8 0, .int .u8 0, .int .u8 0, .int .u8 0, .int .u8 0, .int .u8 0]
theorem k32_one : k32.all (·.oneCell') = true := by unfold k32; simp [Value.oneCell']
theorem size76 : (Try.prog.info? 76).map (·.size) = some 32 := by kernel_rfl

set_option maxRecDepth 100000 in
set_option maxHeartbeats 3200000 in
theorem nil_walk (A : Option Addr) (n c : Nat) (w : World) : Calls Try.prog 5 #[.slice A n c] w fun e w' => e = .returned (.bool true) ∧ Below w.heap.size w w' := by
  have HKN := Lib.hid (fun W => known_true W)
  have hu76 := Lib.hid Try.underlying76
  go_enter Try.func5, Try.ntmps5
  have HSK : Hid ((Try.prog.info? 76).map (·.size) = some k32.size) := Lib.hid size76
  go_upto_region 5 with (refine wpList_store_row rfl _ _ _ rfl (w.heap.size + 1 + 1) k32 rfl rfl 76 z32 (blk_at _ _ _ _ (by simp)) HSK.out rfl k32_one ?_)
  refine wp_world (fun W => (∃ c1, Blk W w.heap.size 71 c1 ∧ c1[39]? = some (.bool false)) ∧ (∃ c1, Blk W (w.heap.size + 1) 75 c1 ∧ c1[39]? = some (.bool false)) ∧ Blk W (w.heap.size + 1 + 1) 76 k32 ∧ Blk W (w.heap.size + 1 + 1 + 1) 78 #[.pointer none, .pointer none, .pointer (some ⟨w.heap.size, 0, none⟩), .pointer (some ⟨w.heap.size + 1, 0, none⟩)] ∧ Below w.heap.size w W)
    ⟨⟨_, ((((Blk.new _ _ _).alloc _).alloc _).farRow (by omega)).alloc _, rfl⟩, ⟨_, (((blk_at _ _ _ _ (by simp)).alloc _).farRow (by omega)).alloc _, rfl⟩, (Blk.setRow (blk_at _ _ _ _ (by simp))).alloc _, blk_at _ _ _ _ (by simp), ((belowRow ((((Below.refl _ w).alloc (Nat.le_refl _) _).alloc (by simp) _).alloc (by simp; omega) _) (by omega) _).alloc (by simp; omega) _)⟩ ?_
  rintro W1 ⟨⟨c1, b1, e1⟩, ⟨c2, b2, e2⟩, b3, b4, b5⟩
  obtain ⟨tb, htb⟩ : ∃ tb, tb = w.heap.size := ⟨_, rfl⟩
  rw [← htb] at b1 b2 b3 b4 ⊢
  have HT := Lib.hid (show TNone (.pointer (some ⟨tb, 0, none⟩)) W1 from .inr ⟨tb, rfl, b1.lt, (b1.cell 39).trans e1⟩)
  have HR := Lib.hid (show TNone (.pointer (some ⟨tb + 1, 0, none⟩)) W1 from .inr ⟨tb + 1, rfl, b2.lt, (b2.cell 39).trans e2⟩)
  have HK := Lib.hid b3
  have HL := Lib.hid b4
  have HB := Lib.hid (show Below w.heap.size w W1 from by exact b5)
  have HTB := Lib.hid htb
  clear b1 b2 b3 b4 b5 e1 e2 htb
  go_wp2
  go_loopw [7] (fun v wr => ∃ i : Nat, i ≤ 2 ∧ v = .int .i64 i ∧ Below W1.heap.size W1 wr) (fun v _ => 2 - (intOf v).toNat)
  case atStart => exact ⟨0, by omega, rfl, Below.refl _ _⟩
  case round =>
    obtain ⟨i, hi, rfl, hBr⟩ := hrel
    have BR := Lib.hid hBr
    clear hBr
    by_cases hlt : i < 2
    · obtain ⟨p, r, h0, h1, hp, hr⟩ : ∃ p r, W1.cell? ⟨tb + 1 + 1 + 1, i * 2, none⟩ = some p ∧ W1.cell? ⟨tb + 1 + 1 + 1, i * 2 + 1, none⟩ = some r ∧ TNone p W1 ∧ TNone r W1 := by
        rcases (by omega : i = 0 ∨ i = 1) with rfl | rfl
        · exact ⟨_, _, HL.out.cell 0, HL.out.cell 1, .inl rfl, .inl rfl⟩
        · exact ⟨_, _, HL.out.cell 2, HL.out.cell 3, HT.out, HR.out⟩
      have i0 : (0 : Int) ≤ (i : Int) := by omega
      have i1 : (i : Int) < 2 := by omega
      have hll := HL.out.lt
      have HP := Lib.hid hp
      have HRR := Lib.hid hr
      have c0 : ∀ W, Below W1.heap.size W1 W → W.cell? ⟨tb + 1 + 1 + 1, i * 2, none⟩ = some p ∧ W.cell? ⟨tb + 1 + 1 + 1, i * 2 + 1, none⟩ = some r := fun W hW => ⟨(hW.cell (p := ⟨tb + 1 + 1 + 1, i * 2, none⟩) hll).trans h0, (hW.cell (p := ⟨tb + 1 + 1 + 1, i * 2 + 1, none⟩) hll).trans h1⟩
      have HC := Lib.hid c0
      clear c0 h0 h1 hp hr
      have hs1 := HC.out wr BR.out
      obtain ⟨q0, q1⟩ := hs1
      go_upto_region 9 with (go_at_call 8; refine (hstatus_none r wr (HRR.out.below BR.out)).mono ?_; rintro e w2 ⟨rfl, hB⟩; have B2 := Lib.hid (BR.out.trans (hB.mono BR.out.size)); clear hB)
      clear q0 q1
      obtain ⟨q0, q1⟩ := HC.out w2 B2.out
      go_upto_region 10 with (go_at_call 14; refine (apply_none p _ w2 (HP.out.below B2.out)).mono ?_; rintro e w3 ⟨rfl, hB⟩; have B3 := Lib.hid (B2.out.trans (hB.mono B2.out.size)); clear hB)
      clear q0 q1
      obtain ⟨q0, q1⟩ := HC.out w3 B3.out
      go_upto_region 11 with (go_at_call 19; refine (move_none p r _ _ w3 (HP.out.below B3.out) (HRR.out.below B3.out)).mono ?_; rintro e w4 ⟨rfl, hB⟩; have B4 := Lib.hid (B3.out.trans (hB.mono B3.out.size)); clear hB)
      clear q0 q1
      generalize (#[.int .i64 0, .int .i64 0, .int .u8 0, .int .u8 0, .int .u8 0, .int .u8 0, .int .u8 0, .int .u8 0, .int .u8 0, .int .u8 0, .int .u8 0, .int .u8 0, .int .u8 0, .int .u8 0, .int .u8 0, .int .u8 0, .int .u8 0, .int .u8 0, .int .u8 0, .int .u8 0, .int .u8 0, .int .u8 0, .int .u8 0, .int .u8 0, .int .u8 0, .int .u8 0, .int .u8 0, .int .u8 0, .int .u8 0, .int .u8 0, .int .u8 0, .int .u8 0, .int .u8 0, .int .u8 0, .bool false, .bool false, .bool false, .int .i64 0, .int .i64 0] : Array Value) = C1
      generalize (#[.int .i64 0, .int .i64 1, .int .u8 0, .int .u8 0, .int .u8 0, .int .u8 0, .int .u8 0, .int .u8 0, .int .u8 0, .int .u8 0, .int .u8 0, .int .u8 0, .int .u8 0, .int .u8 0, .int .u8 0, .int .u8 0, .int .u8 0, .int .u8 0, .int .u8 0, .int .u8 0, .int .u8 0, .int .u8 0, .int .u8 0, .int .u8 0, .int .u8 0, .int .u8 0, .int .u8 0, .int .u8 0, .int .u8 0, .int .u8 0, .int .u8 0, .int .u8 0, .int .u8 0, .int .u8 0, .bool false, .bool false, .bool false, .int .i64 0, .int .i64 0] : Array Value) = C2
      refine wp_world (fun W => Below W1.heap.size W1 W ∧ Blk W w4.heap.size 78 #[.pointer none, .pointer none]) ⟨B4.out.alloc B4.out.size _, Blk.new _ _ _⟩ ?_
      rintro W5 ⟨b5, b6⟩
      obtain ⟨mb, hmb⟩ : ∃ mb, mb = w4.heap.size := ⟨_, rfl⟩
      rw [← hmb] at b6 ⊢
      have hm0 := b6.cell 0
      have hm1 := b6.cell 1
      have hml := b6.lt
      simp at hm0 hm1
      obtain ⟨q0, q1⟩ := HC.out W5 b5
      obtain ⟨Kl, hKl⟩ : ∃ Kl : List Value, Kl = k32.toList := ⟨_, rfl⟩
      have HKR := Lib.hid (show ∀ W, Below W5.heap.size W5 W → W.rangeAt (tb + 1 + 1) 0 Kl from fun W hW => by
        have h1 := (HK.out.below b5 HK.out.lt).below hW (by have := HK.out.lt; have := b5.size; omega)
        rw [show k32 = Kl.toArray by rw [hKl]] at h1
        exact h1.range Kl rfl)
      have HKS : Hid ((Try.prog.info? 76).map (·.size) = some Kl.length) := Lib.hid (by rw [hKl]; exact size76)
      have hl5 : tb + 1 + 1 + 1 < W5.heap.size := by have := b5.size; omega
      have B5 := Lib.hid b5
      have HQ := Lib.hid (show ∀ W, Below W5.heap.size W5 W → W.cell? ⟨mb, 0, none⟩ = some (.pointer none) ∧ W.cell? ⟨mb, 1, none⟩ = some (.pointer none) ∧ W.cell? ⟨tb + 1 + 1 + 1, i * 2, none⟩ = some p ∧ W.cell? ⟨tb + 1 + 1 + 1, i * 2 + 1, none⟩ = some r from fun W hW => ⟨(hW.cell (p := ⟨mb, 0, none⟩) hml).trans hm0, (hW.cell (p := ⟨mb, 1, none⟩) hml).trans hm1, (hW.cell (p := ⟨tb + 1 + 1 + 1, i * 2, none⟩) hl5).trans q0, (hW.cell (p := ⟨tb + 1 + 1 + 1, i * 2 + 1, none⟩) hl5).trans q1⟩)
      clear b5 b6 hmb hm0 hm1 q0 q1 hKl
      refine wp_region_held_drew (S := fun w' => Below W5.heap.size W5 w') (by kernel_rfl) (Below.refl _ W5).drew (fun hHeld => ?_)
      refine wpAnyH_take (i := 0) (oi := ⟨some 55, _, _, _, _, _⟩) (v := .int .i64 1) rfl (by kernel_rfl) (by kernel_rfl) (by kernel_rfl) (fun _ _ _ h => h) (Or.inl ⟨by rfl, fun W hW => (by rfl)⟩) (by assumption) ?_
      try simp only [Act.put, List.setIfInBounds_toArray, List.set_cons_zero, List.set_cons_succ]
      refine wpAnyH_take (i := 1) (oi := ⟨some 56, _, _, _, _, _⟩) (v := .bool false) rfl (by kernel_rfl) (by kernel_rfl) (by kernel_rfl) (fun _ _ _ h => h) (Or.inl ⟨by rfl, fun W hW => (by go_simp)⟩) (by assumption) ?_
      try simp only [Act.put, List.setIfInBounds_toArray, List.set_cons_zero, List.set_cons_succ]
      refine wpAnyH_take (i := 2) (oi := ⟨some 57, _, _, _, _, _⟩) (v := .bool false) rfl (by kernel_rfl) (by kernel_rfl) (by kernel_rfl) (fun _ _ _ h => h) (Or.inl ⟨by rfl, fun W hW => (by rfl)⟩) (by assumption) ?_
      try simp only [Act.put, List.setIfInBounds_toArray, List.set_cons_zero, List.set_cons_succ]
      refine wpAnyH_take (i := 3) (oi := ⟨some 58, _, _, _, _, _⟩) (v := .int .i64 1) rfl (by kernel_rfl) (by kernel_rfl) (by kernel_rfl) (fun _ _ _ h => h) (Or.inl ⟨by rfl, fun W hW => (by rfl)⟩) (by assumption) ?_
      try simp only [Act.put, List.setIfInBounds_toArray, List.set_cons_zero, List.set_cons_succ]
      refine wpAnyH_take (i := 4) (oi := ⟨some 59, _, _, _, _, _⟩) (v := .bool false) rfl (by kernel_rfl) (by kernel_rfl) (by kernel_rfl) (fun _ _ _ h => h) (Or.inl ⟨by rfl, fun W hW => (by go_simp)⟩) (by assumption) ?_
      try simp only [Act.put, List.setIfInBounds_toArray, List.set_cons_zero, List.set_cons_succ]
      refine wpAnyH_take (i := 5) (oi := ⟨some 60, _, _, _, _, _⟩) (v := .bool false) rfl (by kernel_rfl) (by kernel_rfl) (by kernel_rfl) (fun _ _ _ h => h) (Or.inl ⟨by rfl, fun W hW => (by go_simp)⟩) (by assumption) ?_
      try simp only [Act.put, List.setIfInBounds_toArray, List.set_cons_zero, List.set_cons_succ]
      refine wpAnyH_take (i := 6) (oi := ⟨some 61, _, _, _, _, _⟩) (v := .bool false) rfl (by kernel_rfl) (by kernel_rfl) (by kernel_rfl) (fun _ _ _ h => h) (Or.inl ⟨by rfl, fun W hW => (by rfl)⟩) (by assumption) ?_
      try simp only [Act.put, List.setIfInBounds_toArray, List.set_cons_zero, List.set_cons_succ]
      refine wpAnyH_take (i := 7) (oi := ⟨some 62, _, _, _, _, _⟩) (v := .int .i64 1) rfl (by kernel_rfl) (by kernel_rfl) (by kernel_rfl) (fun _ _ _ h => h) (Or.inl ⟨by rfl, fun W hW => (by rfl)⟩) (by assumption) ?_
      try simp only [Act.put, List.setIfInBounds_toArray, List.set_cons_zero, List.set_cons_succ]
      refine wpAnyH_take (i := 8) (oi := ⟨some 63, _, _, _, _, _⟩) (v := .bool false) rfl (by kernel_rfl) (by kernel_rfl) (by kernel_rfl) (fun _ _ _ h => h) (Or.inl ⟨by rfl, fun W hW => (by go_simp)⟩) (by assumption) ?_
      try simp only [Act.put, List.setIfInBounds_toArray, List.set_cons_zero, List.set_cons_succ]
      refine wpAnyH_take (i := 9) (oi := ⟨some 64, _, _, _, _, _⟩) (v := .bool false) rfl (by kernel_rfl) (by kernel_rfl) (by kernel_rfl) (fun _ _ _ h => h) (Or.inl ⟨by rfl, fun W hW => (by go_simp)⟩) (by assumption) ?_
      try simp only [Act.put, List.setIfInBounds_toArray, List.set_cons_zero, List.set_cons_succ]
      refine wpAnyH_take (i := 10) (oi := ⟨some 65, _, _, _, _, _⟩) (v := .bool false) rfl (by kernel_rfl) (by kernel_rfl) (by kernel_rfl) (fun _ _ _ h => h) (Or.inl ⟨by rfl, fun W hW => (by rfl)⟩) (by assumption) ?_
      try simp only [Act.put, List.setIfInBounds_toArray, List.set_cons_zero, List.set_cons_succ]
      refine wpAnyH_take (i := 11) (oi := ⟨some 66, _, _, _, _, _⟩) (v := .pointer (some ⟨mb, 0, none⟩)) rfl (by kernel_rfl) (by kernel_rfl) (by kernel_rfl) (fun _ _ _ h => h) (Or.inl ⟨by rfl, fun W hW => (by go_simp)⟩) (by assumption) ?_
      try simp only [Act.put, List.setIfInBounds_toArray, List.set_cons_zero, List.set_cons_succ]
      refine wpAnyH_take (i := 12) (oi := ⟨some 67, _, _, _, _, _⟩) (v := .pointer none) rfl (by kernel_rfl) (by kernel_rfl) (by kernel_rfl) (fun _ _ _ h => h) (Or.inl ⟨by rfl, fun W hW => (by obtain ⟨u0, u1, u2, u3⟩ := HQ.out W hW; go_simp)⟩) (by assumption) ?_
      try simp only [Act.put, List.setIfInBounds_toArray, List.set_cons_zero, List.set_cons_succ]
      refine wpAnyH_take (i := 13) (oi := ⟨some 68, _, _, _, _, _⟩) (v := .bool false) rfl (by kernel_rfl) (by kernel_rfl) (by kernel_rfl) (fun _ _ _ h => h) (Or.inl ⟨by rfl, fun W hW => (by go_simp)⟩) (by assumption) ?_
      try simp only [Act.put, List.setIfInBounds_toArray, List.set_cons_zero, List.set_cons_succ]
      refine wpAnyH_take (i := 14) (oi := ⟨some 69, _, _, _, _, _⟩) (v := .bool false) rfl (by kernel_rfl) (by kernel_rfl) (by kernel_rfl) (fun _ _ _ h => h) (Or.inl ⟨by rfl, fun W hW => (by go_simp)⟩) (by assumption) ?_
      try simp only [Act.put, List.setIfInBounds_toArray, List.set_cons_zero, List.set_cons_succ]
      refine wpAnyH_take (i := 15) (oi := ⟨some 70, _, _, _, _, _⟩) (v := .bool false) rfl (by kernel_rfl) (by kernel_rfl) (by kernel_rfl) (fun _ _ _ h => h) (Or.inl ⟨by rfl, fun W hW => (by rfl)⟩) (by assumption) ?_
      try simp only [Act.put, List.setIfInBounds_toArray, List.set_cons_zero, List.set_cons_succ]
      refine wpAnyH_take (i := 16) (oi := ⟨some 71, _, _, _, _, _⟩) (v := .pointer (some ⟨mb, 1, none⟩)) rfl (by kernel_rfl) (by kernel_rfl) (by kernel_rfl) (fun _ _ _ h => h) (Or.inl ⟨by rfl, fun W hW => (by go_simp)⟩) (by assumption) ?_
      try simp only [Act.put, List.setIfInBounds_toArray, List.set_cons_zero, List.set_cons_succ]
      refine wpAnyH_take (i := 17) (oi := ⟨some 72, _, _, _, _, _⟩) (v := .pointer none) rfl (by kernel_rfl) (by kernel_rfl) (by kernel_rfl) (fun _ _ _ h => h) (Or.inl ⟨by rfl, fun W hW => (by obtain ⟨u0, u1, u2, u3⟩ := HQ.out W hW; go_simp)⟩) (by assumption) ?_
      try simp only [Act.put, List.setIfInBounds_toArray, List.set_cons_zero, List.set_cons_succ]
      refine wpAnyH_take (i := 18) (oi := ⟨some 73, _, _, _, _, _⟩) (v := .bool false) rfl (by kernel_rfl) (by kernel_rfl) (by kernel_rfl) (fun _ _ _ h => h) (Or.inl ⟨by rfl, fun W hW => (by go_simp)⟩) (by assumption) ?_
      try simp only [Act.put, List.setIfInBounds_toArray, List.set_cons_zero, List.set_cons_succ]
      refine wpAnyH_take (i := 19) (oi := ⟨some 74, _, _, _, _, _⟩) (v := .bool false) rfl (by kernel_rfl) (by kernel_rfl) (by kernel_rfl) (fun _ _ _ h => h) (Or.inl ⟨by rfl, fun W hW => (by go_simp)⟩) (by assumption) ?_
      try simp only [Act.put, List.setIfInBounds_toArray, List.set_cons_zero, List.set_cons_succ]
      refine wpAnyH_take (i := 20) (oi := ⟨some 75, _, _, _, _, _⟩) (v := .bool false) rfl (by kernel_rfl) (by kernel_rfl) (by kernel_rfl) (fun _ _ _ h => h) (Or.inl ⟨by rfl, fun W hW => (by rfl)⟩) (by assumption) ?_
      try simp only [Act.put, List.setIfInBounds_toArray, List.set_cons_zero, List.set_cons_succ]
      refine wpAnyH_take (i := 21) (oi := ⟨some 76, _, _, _, _, _⟩) (v := .slice (some ⟨tb + 1 + 1 + 1, 0, none⟩) 2 2) rfl (by kernel_rfl) (by kernel_rfl) (by kernel_rfl) (fun _ _ _ h => h) (Or.inl ⟨by rfl, fun W hW => (by rfl)⟩) (by assumption) ?_
      try simp only [Act.put, List.setIfInBounds_toArray, List.set_cons_zero, List.set_cons_succ]
      refine wpAnyH_take (i := 22) (oi := ⟨some 77, _, _, _, _, _⟩) (v := .int .i64 (i : Int)) rfl (by kernel_rfl) (by kernel_rfl) (by kernel_rfl) (fun _ _ _ h => h) (Or.inl ⟨by rfl, fun W hW => (by rfl)⟩) (by assumption) ?_
      try simp only [Act.put, List.setIfInBounds_toArray, List.set_cons_zero, List.set_cons_succ]
      refine wpAnyH_take (i := 23) (oi := ⟨some 78, _, _, _, _, _⟩) (v := .pointer (some ⟨tb + 1 + 1 + 1, i * 2, none⟩)) rfl (by kernel_rfl) (by kernel_rfl) (by kernel_rfl) (fun _ _ _ h => h) (Or.inl ⟨by rfl, fun W hW => (by go_simp)⟩) (by assumption) ?_
      try simp only [Act.put, List.setIfInBounds_toArray, List.set_cons_zero, List.set_cons_succ]
      refine wpAnyH_take (i := 24) (oi := ⟨some 79, _, _, _, _, _⟩) (v := .agg #[p, r]) rfl (by kernel_rfl) (by kernel_rfl) (by kernel_rfl) (fun _ _ _ h => h) (Or.inl ⟨by rfl, fun W hW => (by obtain ⟨u0, u1, u2, u3⟩ := HQ.out W hW; go_simp)⟩) (by assumption) ?_
      try simp only [Act.put, List.setIfInBounds_toArray, List.set_cons_zero, List.set_cons_succ]
      refine' wpAnyH_take (i := 25) (oi := ⟨some 80, _, _, _, _, _⟩) (v := _) rfl (by kernel_rfl) (by kernel_rfl) (by kernel_rfl) (fun _ _ _ h => h) (yieldsIf_load_mid (by rfl) _ _ rfl (tb + 1 + 1) 0 rfl Kl _ (fun w h => HKR.out w h) hu76.out rfl HKS.out) (by assumption) ?_
      try simp only [Act.put, List.setIfInBounds_toArray, List.set_cons_zero, List.set_cons_succ]
      refine' wpAnyH_take (i := 26) (oi := ⟨some 81, _, _, _, _, _⟩) (v := _) rfl (by kernel_rfl) (by kernel_rfl) (by kernel_rfl) (fun _ _ _ h => h) (yieldsIf_load_mid (by rfl) _ _ rfl (tb + 1 + 1) 0 rfl Kl _ (fun w h => HKR.out w h) hu76.out rfl HKS.out) (by assumption) ?_
      try simp only [Act.put, List.setIfInBounds_toArray, List.set_cons_zero, List.set_cons_succ]
      refine wpAnyH_ready (rs := [27]) (by kernel_rfl) (by simp) ?_
      refine AllReadyH.cons (o := ⟨some 82, _, _, _, _, _⟩) rfl (fun K hK => ?_) AllReadyH.nil
      rw [if_pos (by rfl)]
      go_simp
      refine (reest_none p r Kl.toArray Kl.toArray _ (HP.out.below (B5.out.trans (hHeld.mono B5.out.size))) (HRR.out.below (B5.out.trans (hHeld.mono B5.out.size)))).mono ?_
      rintro e w6 ⟨rfl, hb⟩
      dsimp only
      refine hK.out _ _ (hHeld.trans (hb.mono (by simp))) (fun hHeld => ?_)
      clear hK K hb
      try simp only [Act.put, List.setIfInBounds_toArray, List.set_cons_zero, List.set_cons_succ]
      refine wpAnyH_take (i := 28) (oi := ⟨some 83, _, _, _, _, _⟩) (v := .bool false) rfl (by kernel_rfl) (by kernel_rfl) (by kernel_rfl) (fun _ _ _ h => h) (Or.inl ⟨by rfl, fun W hW => (by go_simp)⟩) (by assumption) ?_
      try simp only [Act.put, List.setIfInBounds_toArray, List.set_cons_zero, List.set_cons_succ]
      refine wpAnyH_take (i := 29) (oi := ⟨some 84, _, _, _, _, _⟩) (v := .bool false) rfl (by kernel_rfl) (by kernel_rfl) (by kernel_rfl) (fun _ _ _ h => h) (Or.inl ⟨by rfl, fun W hW => (by go_simp)⟩) (by assumption) ?_
      try simp only [Act.put, List.setIfInBounds_toArray, List.set_cons_zero, List.set_cons_succ]
      refine wpAnyH_done (by kernel_rfl) ?_ _
      have BF := Lib.hid (B5.out.trans (hHeld.mono B5.out.size))
      go_wp2
      go_roundw
      case rel => first | exact ⟨i + 1, by omega, by go_num, BF.out⟩ | ((repeat apply Exists.intro); exact ⟨⟨i + 1, by omega, by go_num, BF.out⟩, rfl⟩)
      case measure => simp [intOf]; omega
    · obtain rfl : i = 2 := by omega
      go_wp2_with (go_at_call 6; refine (HKN.out _).mono ?_; rintro e w9 ⟨rfl, hB9⟩)
      go_ret
      exact ⟨rfl, HB.out.trans ((BR.out.trans (hB9.mono BR.out.size)).mono HB.out.size)⟩
end Go.Proofs.Ytknlipjgehgihaa
