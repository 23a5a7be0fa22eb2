/- pdcptx.Export. pdcptx.Confirm. pdcptx.Confirm: slices.Delete, the walk. -/
import Derived.Test.YthadfbekfbfkpaaGreatMGD
import Derived.Deep.RegionHeld3
import Derived.Lib.SliceRun
import Derived.Deep.Upon
namespace Go.Proofs.YthadfbekfbfkpaaGreat
open Go.RowKit
set_option linter.unusedVariables false
attribute [local go_sem ↓] Go.wp_at_zero Go.wp_at_succ

set_option maxRecDepth 100000 in
set_option maxHeartbeats 12800000 in
theorem texport_ok (g : Nat) (s : TS) (W0 R0 : Nat → Prop) (w : World) (h : TxI w g s W0 R0) (hn : s.P.length ≤ 1000000 ∧ s.Q.length ≤ 1000000) :
    Calls Tryz.prog 32 #[.pointer (some ⟨g, 0, none⟩)] w fun e w' => ∃ pA pc lp qA qc lq, e = .returned (.agg #[.int .u32 (s.next % 4294967296), .bool (decide (s.next = 4294967296)), .slice pA lp.length pc, .slice qA lq.length qc]) ∧ FwO w' w.heap.size s.P s.Q pA pc lp qA qc lq ∧ Below w.heap.size w w' := by
  have HM := Lib.hid (fun (W : World) (hb : Below w.heap.size w W) => tmade_ok g s W0 R0 W (h.below hb))
  obtain ⟨qA0, qc0, lq0, pA0, pc0, lp0, ub, cb, hT⟩ := h
  have HT := Lib.hid hT
  obtain ⟨nx, hnx⟩ : ∃ nx, nx = s.next := ⟨_, rfl⟩
  have n0 : (0 : Int) ≤ nx := by rw [hnx]; exact hT.next0.1
  have n1 : nx ≤ 4294967296 := by rw [hnx]; exact hT.next0.2
  have HNX := Lib.hid hnx
  rw [← hnx]
  obtain ⟨m, hm⟩ : ∃ m, m = lp0.length := ⟨_, rfl⟩
  obtain ⟨mq, hmq⟩ : ∃ mq, mq = lq0.length := ⟨_, rfl⟩
  have HMM := Lib.hid hm
  have HMQ := Lib.hid hmq
  have HM6 : Hid (m ≤ 1000000) := Lib.hid (by have := congrArg List.length hT.pv; simp at this; omega)
  have HQ6 : Hid (mq ≤ 1000000) := Lib.hid (by have := congrArg List.length hT.qv; simp at this; omega)
  have hm' : (m : Int) ≤ 9223372036854775807 := by have := HM6.out; omega
  have hmq' : (mq : Int) ≤ 9223372036854775807 := by have := HQ6.out; omega
  have hgl := hT.blk.lt
  obtain ⟨Bn, hBn⟩ : ∃ Bn, Bn = w.heap.size := ⟨_, rfl⟩
  have HBN := Lib.hid hBn
  clear hT hn hnx hm hmq
  go_enter Tryz.func32, Tryz.ntmps32
  go_upto_region 1 with (fail)
  refine wp_let (fun W => Blk W w.heap.size 30 #[.int .u32 0, .bool false, .slice none 0 0, .slice none 0 0] ∧ Below w.heap.size w W) ⟨Blk.new _ _ _, ((Below.refl _ w).alloc (Nat.le_refl _) _)⟩ ?_
  rintro W1 ⟨b1, b2⟩
  have B1 := Lib.hid b1
  have B2 := Lib.hid b2
  clear b1 b2
  rw [← hBn] at hgl B1 B2 HM ⊢
  clear hBn
  go_upto_region 3 with (first
    | (go_at_call 88; refine (HM.out _ B2.out).mono ?_; rintro e w2 ⟨rfl, rfl⟩))
  obtain ⟨w2, hw2⟩ : ∃ w2, w2 = W1.drew := ⟨_, rfl⟩
  have xn0 : W1.cell? ⟨g, 41, none⟩ = some (.int .u64 nx) := by rw [HNX.out]; exact (HT.out.below (B2.out.mono (by rw [HBN.out]; exact Nat.le_refl _))).cnext
  have X1 := Lib.hid xn0
  have hgr : g ≠ Bn := by omega
  have HS := Lib.hid (show ∀ W', KeepF (fun j => j = Bn) W1 W' → W'.cell? ⟨g, 41, none⟩ = some (.int .u64 nx) from fun W' hW => (hW.cell (p := ⟨g, 41, none⟩) (by show g < _; have := B1.out.lt; omega) hgr).trans X1.out)
  have hB0 : Blk w2 Bn 30 #[.int .u32 0, .bool false, .slice none 0 0, .slice none 0 0] := by rw [hw2]; exact B1.out.drew
  have hbw : Below Bn w w2 := by rw [hw2]; exact B2.out.drew
  refine wp_region_held_drew (S := fun w' => KeepF (fun j => j = Bn) W1 w') (by kernel_rfl) ((KeepF.refl (w := W1)).drew) (fun hHeld => ?_)
  rw [← hw2]
  rw [← hw2] at hHeld
  clear hw2 xn0
  refine wpAnyH_take (i := 0) (oi := ⟨some 10, _, _, _, _, _⟩) (v := .pointer (some ⟨g, 0, none⟩)) rfl (by kernel_rfl) (by kernel_rfl) (by kernel_rfl) (fun _ _ _ h => h) (Or.inl ⟨by rfl, fun W hW => (by rfl)⟩) (by assumption) ?_
  try simp only [Act.put, List.setIfInBounds_toArray, List.set_cons_zero, List.set_cons_succ]
  refine wpAnyH_take (i := 1) (oi := ⟨some 11, _, _, _, _, _⟩) (v := .pointer (some ⟨g, 0, none⟩)) rfl (by kernel_rfl) (by kernel_rfl) (by kernel_rfl) (fun _ _ _ h => h) (Or.inl ⟨by rfl, fun W hW => (by rfl)⟩) (by assumption) ?_
  try simp only [Act.put, List.setIfInBounds_toArray, List.set_cons_zero, List.set_cons_succ]
  refine wpAnyH_take (i := 2) (oi := ⟨some 12, _, _, _, _, _⟩) (v := .pointer (some ⟨g, 41, none⟩)) rfl (by kernel_rfl) (by kernel_rfl) (by kernel_rfl) (fun _ _ _ h => h) (Or.inl ⟨by rfl, fun W hW => (by go_simp)⟩) (by assumption) ?_
  try simp only [Act.put, List.setIfInBounds_toArray, List.set_cons_zero, List.set_cons_succ]
  refine wpAnyH_take (i := 3) (oi := ⟨some 13, _, _, _, _, _⟩) (v := .int .u64 nx) rfl (by kernel_rfl) (by kernel_rfl) (by kernel_rfl) (fun _ _ _ h => h) (Or.inl ⟨by rfl, fun W hW => (by have u := HS.out W hW; go_simp)⟩) (by assumption) ?_
  try simp only [Act.put, List.setIfInBounds_toArray, List.set_cons_zero, List.set_cons_succ]
  refine wpAnyH_take (i := 4) (oi := ⟨some 14, _, _, _, _, _⟩) (v := .int .u32 (nx % 4294967296)) rfl (by kernel_rfl) (by kernel_rfl) (by kernel_rfl) (fun _ _ _ h => h) (Or.inl ⟨by rfl, fun W hW => (by go_simp; rfl)⟩) (by assumption) ?_
  try simp only [Act.put, List.setIfInBounds_toArray, List.set_cons_zero, List.set_cons_succ]
  refine wpAnyH_take (i := 5) (oi := ⟨some 15, _, _, _, _, _⟩) (v := .pointer (some ⟨g, 0, none⟩)) rfl (by kernel_rfl) (by kernel_rfl) (by kernel_rfl) (fun _ _ _ h => h) (Or.inl ⟨by rfl, fun W hW => (by rfl)⟩) (by assumption) ?_
  try simp only [Act.put, List.setIfInBounds_toArray, List.set_cons_zero, List.set_cons_succ]
  refine wpAnyH_take (i := 6) (oi := ⟨some 16, _, _, _, _, _⟩) (v := .pointer (some ⟨g, 0, none⟩)) rfl (by kernel_rfl) (by kernel_rfl) (by kernel_rfl) (fun _ _ _ h => h) (Or.inl ⟨by rfl, fun W hW => (by rfl)⟩) (by assumption) ?_
  try simp only [Act.put, List.setIfInBounds_toArray, List.set_cons_zero, List.set_cons_succ]
  refine wpAnyH_take (i := 7) (oi := ⟨some 17, _, _, _, _, _⟩) (v := .pointer (some ⟨g, 41, none⟩)) rfl (by kernel_rfl) (by kernel_rfl) (by kernel_rfl) (fun _ _ _ h => h) (Or.inl ⟨by rfl, fun W hW => (by go_simp)⟩) (by assumption) ?_
  try simp only [Act.put, List.setIfInBounds_toArray, List.set_cons_zero, List.set_cons_succ]
  refine wpAnyH_take (i := 8) (oi := ⟨some 18, _, _, _, _, _⟩) (v := .int .u64 nx) rfl (by kernel_rfl) (by kernel_rfl) (by kernel_rfl) (fun _ _ _ h => h) (Or.inl ⟨by rfl, fun W hW => (by have u := HS.out W hW; go_simp)⟩) (by assumption) ?_
  try simp only [Act.put, List.setIfInBounds_toArray, List.set_cons_zero, List.set_cons_succ]
  refine wpAnyH_take (i := 9) (oi := ⟨some 19, _, _, _, _, _⟩) (v := .bool (decide (nx = 4294967296))) rfl (by kernel_rfl) (by kernel_rfl) (by kernel_rfl) (fun _ _ _ h => h) (Or.inl ⟨by rfl, fun W hW => (by go_simp; rfl)⟩) (by assumption) ?_
  try simp only [Act.put, List.setIfInBounds_toArray, List.set_cons_zero, List.set_cons_succ]
  refine wpAnyH_take (i := 10) (oi := ⟨some 20, _, _, _, _, _⟩) (v := .pointer (some ⟨Bn, 0, none⟩)) rfl (by kernel_rfl) (by kernel_rfl) (by kernel_rfl) (fun _ _ _ h => h) (Or.inl ⟨by rfl, fun W hW => (by go_simp)⟩) (by assumption) ?_
  try simp only [Act.put, List.setIfInBounds_toArray, List.set_cons_zero, List.set_cons_succ]
  refine wpAnyH_ready (rs := [11]) (by kernel_rfl) (by simp) ?_
  refine AllReadyH.cons (o := ⟨none, _, _, _, _, _⟩) rfl (fun K hK => ?_) AllReadyH.nil
  rw [if_pos (by rfl)]
  have hc0 := hB0.cell 0
  have hf0 := hB0.frozen 0
  simp at hc0
  go_simp
  have hB1 := hB0.set_ 0 (.int .u32 (nx % 4294967296))
  have hS1 : KeepF (fun j => j = Bn) W1 (w2.setCell ⟨Bn, 0, none⟩ (.int .u32 (nx % 4294967296))) := hHeld.setCell (p := ⟨Bn, 0, none⟩) rfl _
  have hbw1 : Below Bn w (w2.setCell ⟨Bn, 0, none⟩ (.int .u32 (nx % 4294967296))) := hbw.setCell (p := ⟨Bn, 0, none⟩) (Nat.le_refl _) _
  refine hK.out _ _ hS1 (fun hHeld => ?_)
  clear hK K hS1 hc0 hf0 hB0 hbw
  try simp only [Act.put, List.setIfInBounds_toArray, List.set_cons_zero, List.set_cons_succ]
  generalize w2.setCell ⟨Bn, 0, none⟩ (.int .u32 (nx % 4294967296)) = w3 at *
  refine wpAnyH_take (i := 12) (oi := ⟨some 21, _, _, _, _, _⟩) (v := .pointer (some ⟨Bn, 1, none⟩)) rfl (by kernel_rfl) (by kernel_rfl) (by kernel_rfl) (fun _ _ _ h => h) (Or.inl ⟨by rfl, fun W hW => (by go_simp)⟩) (by assumption) ?_
  try simp only [Act.put, List.setIfInBounds_toArray, List.set_cons_zero, List.set_cons_succ]
  refine wpAnyH_ready (rs := [13]) (by kernel_rfl) (by simp) ?_
  refine AllReadyH.cons (o := ⟨none, _, _, _, _, _⟩) rfl (fun K hK => ?_) AllReadyH.nil
  rw [if_pos (by rfl)]
  have hc0 := hB1.cell 1
  have hf0 := hB1.frozen 1
  simp at hc0
  go_simp
  have hB2 := hB1.set_ 1 (.bool (decide (nx = 4294967296)))
  have hS1 : KeepF (fun j => j = Bn) W1 (w3.setCell ⟨Bn, 1, none⟩ (.bool (decide (nx = 4294967296)))) := hHeld.setCell (p := ⟨Bn, 1, none⟩) rfl _
  have hbw2 : Below Bn w (w3.setCell ⟨Bn, 1, none⟩ (.bool (decide (nx = 4294967296)))) := hbw1.setCell (p := ⟨Bn, 1, none⟩) (Nat.le_refl _) _
  refine hK.out _ _ hS1 (fun hHeld => ?_)
  clear hK K hS1 hc0 hf0 hB1 hbw1 hHeld
  generalize w3.setCell ⟨Bn, 1, none⟩ (.bool (decide (nx = 4294967296))) = w4 at *
  try simp only [Act.put]
  refine wpAnyH_done (by kernel_rfl) ?_ _
  obtain ⟨us, hus⟩ : ∃ us, us = decide (nx = 4294967296) := ⟨_, rfl⟩
  obtain ⟨ny, hny⟩ : ∃ ny, ny = nx % 4294967296 := ⟨_, rfl⟩
  rw [← hus, ← hny] at hB2 ⊢
  have hF0 : FwM w4 Bn Bn ny us (fun k => k = Bn) (fun _ => False) none 0 [] none 0 [] := ⟨by simpa using hB2, SL.nil _ _ _, SL.nil _ _ _, fun e he => (by cases he), fun e he => (by cases he), rfl, fun a e => (by cases e), fun a e => (by cases e), fun k _ hr => hr, fun k hk => ⟨by omega, by rw [hk]; exact hB2.lt⟩, fun k hr => hr.elim⟩
  have F0 := Lib.hid hF0
  have B4 := Lib.hid hbw2
  have T4 := Lib.hid (HT.out.below (hbw2.mono (by rw [HBN.out]; exact Nat.le_refl _)))
  have xp := T4.out.cp
  rw [← HMM.out] at xp
  have HNY := Lib.hid hny
  have HUS := Lib.hid hus
  clear hF0 hbw2 hB2 hus hny X1 HS n0 n1
  go_wp2
  go_loopw [27] (fun v wr => ∃ (k : Nat) (W R : Nat → Prop) (pA : Option Addr) (pc : Nat) (lp : List PE), k ≤ m ∧ v = .int .i64 k ∧ FwM wr Bn Bn ny us W R pA pc lp none 0 [] ∧ lp.map (·.v) = (lp0.take k).map (·.v) ∧ Below Bn w wr) (fun v _ => m - (intOf v).toNat)
  case atStart => exact ⟨0, _, _, _, _, _, by omega, rfl, F0.out, by simp, B4.out⟩
  case round =>
    clear xp F0 B4 T4
    obtain ⟨k, W, R, pA, pc, lp, hk, rfl, hF, hv, hb⟩ := hrel
    have FF := Lib.hid hF
    have BB := Lib.hid hb
    have VV := Lib.hid hv
    have hbs : Bn ≤ wr.heap.size := by have := hb.size; have := HBN.out; omega
    have TT := Lib.hid (HT.out.below (hb.mono (by rw [HBN.out]; exact Nat.le_refl _)))
    clear hF hv hb
    by_cases hlt : k < m
    · obtain ⟨e0, he0⟩ : ∃ e0, lp0[k]? = some e0 := ⟨lp0[k]'(by have := HMM.out; omega), by simp [HMM.out ▸ hlt]⟩
      obtain ⟨b, o, hpA, hlb, c0, c1, c2⟩ := TT.out.pcell he0
      have hpk := TT.out.pe e0 (List.mem_of_getElem? he0)
      have hpr := TT.out.pr e0.v (by rw [← TT.out.pv]; exact List.mem_map_of_mem (List.mem_of_getElem? he0))
      have HE := Lib.hid he0
      obtain ⟨⟨x, n, z, rep⟩, A, c⟩ := e0
      dsimp only at c0 c1 c2 hpk hpr
      obtain ⟨r0, r1⟩ := hpr
      have HPK := Lib.hid hpk
      have k0 : (0 : Int) ≤ (k : Int) := by omega
      have k1 : (k : Int) < (m : Int) := by omega
      subst hpA
      clear hpk he0
      go_upto_region 7 with (fail)
      refine wp_let (fun W' => Blk W' wr.heap.size 149 #[.int .u32 x, .slice A n c, .bool rep] ∧ Below wr.heap.size wr W') ⟨Blk.new _ _ _, (Below.refl _ wr).alloc (Nat.le_refl _) _⟩ ?_
      rintro W6 ⟨b6, b7⟩
      obtain ⟨xb, hxb⟩ : ∃ xb, xb = wr.heap.size := ⟨_, rfl⟩
      have hxg : xb ≠ Bn := by have := FF.out.blk.lt; omega
      have hxp : ∀ a, pA = some a → xb ≠ a.block := fun a e => by have := FF.out.p.lt e; omega
      have F6 := Lib.hid (FF.out.below b7)
      have B6 := Lib.hid (show Below Bn w W6 from BB.out.trans (b7.mono hbs))
      have hs6 : Bn ≤ W6.heap.size := Nat.le_trans hbs b7.size
      have R6 := Lib.hid (show Row W6 W6.heap.size A n (fun j => .int .u8 (z j)) from HPK.out.row.next b7)
      have HBY := Lib.hid HPK.out.byte
      have hp1 := HPK.out.pos
      have hp9 := HPK.out.max
      rw [← hxb] at b6 ⊢
      have X6 := Lib.hid b6
      clear b6 b7 hxb c0 c1 c2
      have HS := Lib.hid (show ∀ W', KeepF (fun j => j = Bn ∨ ∃ a, pA = some a ∧ j = a.block) W6 W' → W'.cell? ⟨xb, 0, none⟩ = some (.int .u32 x) ∧ W'.cell? ⟨xb, 1, none⟩ = some (.slice A n c) from fun W' hW => by
        have := hW.blk X6.out (fun hf => by rcases hf with h | ⟨a, ha, h⟩; exact hxg h; exact hxp a ha h)
        exact ⟨this.cell 0, this.cell 1⟩)
      obtain ⟨w0, hw0⟩ : ∃ w0, w0 = W6.drew := ⟨_, rfl⟩
      have T0 : FwM w0 Bn Bn ny us W R pA pc lp none 0 [] := by rw [hw0]; exact F6.out.below (Below.refl _ _).drew
      have hb0 : Below W6.heap.size W6 w0 := by rw [hw0]; exact (Below.refl _ _).drew
      obtain ⟨ic, hic, hicz, hics, hicb⟩ := infoCnt
      refine wp_region_held_drew (S := fun w' => KeepF (fun j => j = Bn ∨ ∃ a, pA = some a ∧ j = a.block) W6 w') (by kernel_rfl) ((KeepF.refl (w := W6)).drew) (fun hHeld => ?_)
      rw [← hw0]
      rw [← hw0] at hHeld
      clear hw0
      obtain ⟨pl, hpl⟩ : ∃ pl, pl = lp.length := ⟨_, rfl⟩
      have HPL2 := Lib.hid hpl
      have HPL : Hid (pl = k) := Lib.hid (by have := congrArg List.length VV.out; simp at this; have := HMM.out; omega)
      have HTK := Lib.hid (show (lp0.take (k + 1)).map (·.v) = (lp0.take k).map (·.v) ++ [(⟨x, n, z, rep⟩ : PV)] from by rw [List.take_add_one, HE.out, List.map_append]; rfl)
      have hbF : Bn ≤ w0.heap.size := Nat.le_trans hs6 hb0.size
      clear hpl
      refine wpAnyH_take (i := 0) (oi := ⟨some 31, _, _, _, _, _⟩) (v := .pointer (some ⟨Bn, 2, none⟩)) rfl (by kernel_rfl) (by kernel_rfl) (by kernel_rfl) (fun _ _ _ h => h) (Or.inl ⟨by rfl, fun W hW => (by go_simp)⟩) (by assumption) ?_
      try simp only [Act.put, List.setIfInBounds_toArray, List.set_cons_zero, List.set_cons_succ]
      refine wpAnyH_take (i := 2) (oi := ⟨some 33, _, _, _, _, _⟩) (v := .pointer (some ⟨xb, 0, none⟩)) rfl (by kernel_rfl) (by kernel_rfl) (by kernel_rfl) (fun _ _ _ h => h) (Or.inl ⟨by rfl, fun W hW => (by go_simp)⟩) (by assumption) ?_
      try simp only [Act.put, List.setIfInBounds_toArray, List.set_cons_zero, List.set_cons_succ]
      refine wpAnyH_take (i := 3) (oi := ⟨some 34, _, _, _, _, _⟩) (v := .pointer (some ⟨xb, 0, none⟩)) rfl (by kernel_rfl) (by kernel_rfl) (by kernel_rfl) (fun _ _ _ h => h) (Or.inl ⟨by rfl, fun W hW => (by go_simp)⟩) (by assumption) ?_
      try simp only [Act.put, List.setIfInBounds_toArray, List.set_cons_zero, List.set_cons_succ]
      refine wpAnyH_take (i := 4) (oi := ⟨some 35, _, _, _, _, _⟩) (v := .int .u32 x) rfl (by kernel_rfl) (by kernel_rfl) (by kernel_rfl) (fun _ _ _ h => h) (Or.inl ⟨by rfl, fun W hW => (by obtain ⟨u0, u1⟩ := HS.out W hW; go_simp)⟩) (by assumption) ?_
      try simp only [Act.put, List.setIfInBounds_toArray, List.set_cons_zero, List.set_cons_succ]
      refine wpAnyH_take (i := 5) (oi := ⟨some 36, _, _, _, _, _⟩) (v := .pointer (some ⟨xb, 0, none⟩)) rfl (by kernel_rfl) (by kernel_rfl) (by kernel_rfl) (fun _ _ _ h => h) (Or.inl ⟨by rfl, fun W hW => (by go_simp)⟩) (by assumption) ?_
      try simp only [Act.put, List.setIfInBounds_toArray, List.set_cons_zero, List.set_cons_succ]
      refine wpAnyH_take (i := 6) (oi := ⟨some 37, _, _, _, _, _⟩) (v := .pointer (some ⟨xb, 1, none⟩)) rfl (by kernel_rfl) (by kernel_rfl) (by kernel_rfl) (fun _ _ _ h => h) (Or.inl ⟨by rfl, fun W hW => (by go_simp)⟩) (by assumption) ?_
      try simp only [Act.put, List.setIfInBounds_toArray, List.set_cons_zero, List.set_cons_succ]
      refine wpAnyH_take (i := 7) (oi := ⟨some 38, _, _, _, _, _⟩) (v := .slice A n c) rfl (by kernel_rfl) (by kernel_rfl) (by kernel_rfl) (fun _ _ _ h => h) (Or.inl ⟨by rfl, fun W hW => (by obtain ⟨u0, u1⟩ := HS.out W hW; go_simp)⟩) (by assumption) ?_
      try simp only [Act.put, List.setIfInBounds_toArray, List.set_cons_zero, List.set_cons_succ]
      refine wpAnyH_ready (rs := [1, 8]) (by kernel_rfl) (by simp) ?_
      refine AllReadyH.cons (o := ⟨some 32, _, _, _, _, _⟩) rfl (fun K hK => ?_) (AllReadyH.cons (o := ⟨some 39, _, _, _, _, _⟩) rfl (fun K hK => ?_) AllReadyH.nil)
      · rw [if_pos (by rfl)]
        have h43 := T0.blk.cell 2
        simp at h43
        rw [← HPL2.out] at h43
        go_simp
        refine hK.out _ _ hHeld (fun hHeld => ?_)
        clear hK K h43
        try simp only [Act.put, List.setIfInBounds_toArray, List.set_cons_zero, List.set_cons_succ]
        refine wpAnyH_ready (rs := [8]) (by kernel_rfl) (by simp) ?_
        refine AllReadyH.cons (o := ⟨some 39, _, _, _, _, _⟩) rfl (fun K hK => ?_) AllReadyH.nil
        rw [if_pos (by rfl)]
        go_simp
        refine (clone_any A n c z w0 (by omega) (R6.out.next hb0)).mono ?_
        rintro e w1' ⟨A2, c2', rfl, hc2, hR2, hF2, hbk⟩
        dsimp only
        have hFl : ∀ a, A2 = some a → w0.heap.size ≤ a.block := hF2
        have hFr : ∀ a, A2 = some a → a.block < w1'.heap.size := fun a e => row_lt hR2 hp1 e
        have hwl1 : ∀ j, W j → j < w0.heap.size := fun j hj => (T0.win j hj).2
        have hFB : ∀ a, A2 = some a → Bn ≤ a.block := fun a e => by have := hFl a e; have := hb0.size; omega
        have T1 := T0.below hbk
        have hb1 : Below W6.heap.size W6 w1' := hb0.trans (hbk.mono hb0.size)
        have hW2 : ∀ j, W j → ∀ a, A2 = some a → j ≠ a.block := fun j hj a e => by have := hFl a e; have := hwl1 j hj; omega
        refine hK.out _ _ (hHeld.more hbk) (fun hHeld => ?_)
        clear hK K hbk hF2
        try simp only [Act.put, List.setIfInBounds_toArray, List.set_cons_zero, List.set_cons_succ]
        refine wpAnyH_take (i := 9) (oi := ⟨some 40, _, _, _, _, _⟩) (v := .agg #[.int .u32 x, .slice A2 n c2']) rfl (by kernel_rfl) (by kernel_rfl) (by kernel_rfl) (fun _ _ _ h => h) (Or.inl ⟨by rfl, fun W hW => (by go_simp)⟩) (by assumption) ?_
        try simp only [Act.put, List.setIfInBounds_toArray, List.set_cons_zero, List.set_cons_succ]
        refine wpAnyH_ready (rs := [10]) (by kernel_rfl) (by simp) ?_
        refine AllReadyH.cons (o := ⟨some 41, _, _, _, _, _⟩) rfl (fun K hK => ?_) AllReadyH.nil
        rw [if_pos (by rfl)]
        go_simp
        obtain ⟨w2', hv⟩ : ∃ X, X = w1'.alloc (.cells #[.int .u32 x, .slice A2 n c2'] 117) := ⟨_, rfl⟩
        obtain ⟨nb, hnb⟩ : ∃ nb, nb = w1'.heap.size := ⟨_, rfl⟩
        have hbk : Below w1'.heap.size w1' w2' := by rw [hv]; exact (Below.refl _ _).alloc (Nat.le_refl _) _
        have hNB : Blk w2' nb 117 #[.int .u32 x, .slice A2 n c2'] := by rw [hv, hnb]; exact Blk.new _ _ _
        have T2 := T1.below hbk
        have hb2 : Below W6.heap.size W6 w2' := hb1.trans (hbk.mono hb1.size)
        replace hR2 := hR2.next hbk
        replace hFr : ∀ a, A2 = some a → a.block < w2'.heap.size := fun a e => Nat.lt_of_lt_of_le (hFr a e) hbk.size
        rw [← hv, ← hnb]
        refine hK.out _ _ (hHeld.more hbk) (fun hHeld => ?_)
        clear hK K hbk hv hnb
        try simp only [Act.put, List.setIfInBounds_toArray, List.set_cons_zero, List.set_cons_succ]
        refine wpAnyH_ready (rs := [11]) (by kernel_rfl) (by simp) ?_
        refine AllReadyH.cons (o := ⟨some 42, _, _, _, _, _⟩) rfl (fun K hK => ?_) AllReadyH.nil
        rw [if_pos (by rfl)]
        have hSL := T2.p
        rw [← HPL2.out] at hSL
        refine wp_sl_append _ _ _ _ rfl w2' 117 ic (.agg #[.int .u32 0, .slice none 0 0]) 2 32 Tryz.underlying27 hic hicz hics hicb rfl pA pl pc (lp.flatMap PE.cc) rfl hSL _ rfl 1 [.int .u32 x, .slice A2 n c2'] (Src.ofSlice _ Tryz.underlying27 ⟨nb, 0, none⟩ 1 1 _ rfl (fun j u hu => by
            have hj : j < 2 := (List.getElem?_eq_some_iff.1 hu).1
            rw [Addr.add_lit, Nat.zero_add, hNB.cell j]
            simpa using hu) (by simp [Value.oneCell'])) (by decide) (by unfold maxLen; have := HPL.out; have := HM6.out; have := HQ6.out; omega) (by have := HPL.out; have := HM6.out; have := HQ6.out; omega) ?_
        intro A9 c9 wA hSL9 hK9 hA9
        dsimp only
        have hA9n : ∀ a, A9 = some a → (∃ a', pA = some a' ∧ a.block = a'.block) ∨ w2'.heap.size ≤ a.block := hA9
        refine hK.out _ _ (hHeld.trans hK9 (fun j _ hj => .inr hj)) (fun hHeld => ?_)
        clear hK K
        try simp only [Act.put, List.setIfInBounds_toArray, List.set_cons_zero, List.set_cons_succ]
        refine wpAnyH_take (i := 12) (oi := ⟨some 43, _, _, _, _, _⟩) (v := .pointer (some ⟨Bn, 2, none⟩)) rfl (by kernel_rfl) (by kernel_rfl) (by kernel_rfl) (fun _ _ _ h => h) (Or.inl ⟨by rfl, fun W hW => (by go_simp)⟩) (by assumption) ?_
        try simp only [Act.put, List.setIfInBounds_toArray, List.set_cons_zero, List.set_cons_succ]
        refine wpAnyH_ready (rs := [13]) (by kernel_rfl) (by simp) ?_
        refine AllReadyH.cons (o := ⟨none, _, _, _, _, _⟩) rfl (fun K hK => ?_) AllReadyH.nil
        rw [if_pos (by rfl)]
        have hg9 : Blk wA Bn 30 _ := hK9.blk T2.blk (fun ⟨a, ha, e⟩ => T2.gp a ha e)
        have hc43 := hg9.cell 2
        have hf43 := hg9.frozen 2
        simp at hc43
        have T9 := T2.moreR (R' := fun j => R j ∨ ∃ a, A2 = some a ∧ j = a.block) (fun j hj => .inl hj) (fun j hw hr => by rcases hr with hr | ⟨a, ha, e⟩; exact T2.dis j hw hr; exact hW2 j hw a ha e) (fun j hr => by rcases hr with hr | ⟨a, ha, e⟩; exact T2.rin j hr; (rw [e]; exact ⟨hFB a ha, hFr a ha⟩))
        have hpk9 : ∀ e : PE, e ∈ lp ++ [(⟨⟨x, n, z, rep⟩, A2, c2'⟩ : PE)] → Pkt wA (fun j => R j ∨ ∃ a, A2 = some a ∧ j = a.block) e.A e.v.n e.c e.v.z := fun e he => by
          have hx : Pkt w2' (fun j => R j ∨ ∃ a, A2 = some a ∧ j = a.block) e.A e.v.n e.c e.v.z := by
            rcases List.mem_append.1 he with he | he
            · exact T9.pe e he
            · have : e = (⟨⟨x, n, z, rep⟩, A2, c2'⟩ : PE) := by simpa using he
              rw [this]
              exact Pkt.of_clone hp1 hp9 hc2 HBY.out hR2
          exact hx.keep hK9 (fun j ⟨a, ha, e2⟩ hr => T9.dis j (by rw [e2]; exact T9.wp a ha) hr)
        have hlen9 : (lp ++ [(⟨⟨x, n, z, rep⟩, A2, c2'⟩ : PE)]).length = pl + 1 := by rw [List.length_append, HPL2.out]; rfl
        have hSL9' : SL wA 117 2 A9 (lp ++ [(⟨⟨x, n, z, rep⟩, A2, c2'⟩ : PE)]).length c9 ((lp ++ [(⟨⟨x, n, z, rep⟩, A2, c2'⟩ : PE)]).flatMap PE.cc) := by
          rw [hlen9, List.flatMap_append]
          exact hSL9
        have TF := T9.setP hK9 hA9n hSL9' hpk9
        rw [hlen9] at TF
        have hbA : Below Bn w wA := KeepF.below ((show Below Bn w W6 from B6.out).trans (hb2.mono hs6)) (hK9.mono (G := W) (fun j ⟨a, ha, e2⟩ => by rw [e2]; exact T2.wp a ha)) (fun j hj => (T2.win j hj).1) (Nat.le_trans hs6 hb2.size)
        have HTF := Lib.hid TF
        have HBF := Lib.hid (show Below Bn w (wA.setCell ⟨Bn, 2, none⟩ (.slice A9 (pl + 1) c9)) from hbA.setCell (p := ⟨Bn, 2, none⟩) (Nat.le_refl _) _)
        have HVF := Lib.hid (show (lp ++ [(⟨⟨x, n, z, rep⟩, A2, c2'⟩ : PE)]).map (·.v) = (lp0.take (k + 1)).map (·.v) from by rw [HTK.out, List.map_append, VV.out]; rfl)
        have hS9 : KeepF (fun j => j = Bn ∨ ∃ a, pA = some a ∧ j = a.block) W6 (wA.setCell ⟨Bn, 2, none⟩ (.slice A9 (pl + 1) c9)) := hHeld.setCell (p := ⟨Bn, 2, none⟩) (.inl rfl) _
        clear TF hSL9 hSL9' hpk9 hK9 hA9 hA9n T9 hg9 hSL hbA
        go_simp
        refine hK.out _ _ hS9 (fun hHeld => ?_)
        clear hK K hS9
        try simp only [Act.put]
        refine wpAnyH_done (by kernel_rfl) ?_ _
        go_wp2
        go_roundw
        case rel => first | exact ⟨k + 1, _, _, _, _, _, by omega, by go_num, HTF.out, HVF.out, HBF.out⟩ | ((repeat apply Exists.intro); exact ⟨⟨by omega, by go_num, HTF.out, HVF.out, HBF.out⟩, rfl⟩)
        case measure => simp [intOf]; omega
      · rw [if_pos (by rfl)]
        go_simp
        refine (clone_any A n c z w0 (by omega) (R6.out.next hb0)).mono ?_
        rintro e w1' ⟨A2, c2', rfl, hc2, hR2, hF2, hbk⟩
        dsimp only
        have hFl : ∀ a, A2 = some a → w0.heap.size ≤ a.block := hF2
        have hFr : ∀ a, A2 = some a → a.block < w1'.heap.size := fun a e => row_lt hR2 hp1 e
        have hwl1 : ∀ j, W j → j < w0.heap.size := fun j hj => (T0.win j hj).2
        have hFB : ∀ a, A2 = some a → Bn ≤ a.block := fun a e => by have := hFl a e; have := hb0.size; omega
        have T1 := T0.below hbk
        have hb1 : Below W6.heap.size W6 w1' := hb0.trans (hbk.mono hb0.size)
        have hW2 : ∀ j, W j → ∀ a, A2 = some a → j ≠ a.block := fun j hj a e => by have := hFl a e; have := hwl1 j hj; omega
        refine hK.out _ _ (hHeld.more hbk) (fun hHeld => ?_)
        clear hK K hbk hF2
        try simp only [Act.put, List.setIfInBounds_toArray, List.set_cons_zero, List.set_cons_succ]
        refine wpAnyH_take (i := 9) (oi := ⟨some 40, _, _, _, _, _⟩) (v := .agg #[.int .u32 x, .slice A2 n c2']) rfl (by kernel_rfl) (by kernel_rfl) (by kernel_rfl) (fun _ _ _ h => h) (Or.inl ⟨by rfl, fun W hW => (by go_simp)⟩) (by assumption) ?_
        try simp only [Act.put, List.setIfInBounds_toArray, List.set_cons_zero, List.set_cons_succ]
        refine wpAnyH_ready (rs := [1, 10]) (by kernel_rfl) (by simp) ?_
        refine AllReadyH.cons (o := ⟨some 32, _, _, _, _, _⟩) rfl (fun K hK => ?_) (AllReadyH.cons (o := ⟨some 41, _, _, _, _, _⟩) rfl (fun K hK => ?_) AllReadyH.nil)
        · rw [if_pos (by rfl)]
          have h43 := T1.blk.cell 2
          simp at h43
          rw [← HPL2.out] at h43
          go_simp
          refine hK.out _ _ hHeld (fun hHeld => ?_)
          clear hK K h43
          try simp only [Act.put, List.setIfInBounds_toArray, List.set_cons_zero, List.set_cons_succ]
          refine wpAnyH_ready (rs := [10]) (by kernel_rfl) (by simp) ?_
          refine AllReadyH.cons (o := ⟨some 41, _, _, _, _, _⟩) rfl (fun K hK => ?_) AllReadyH.nil
          rw [if_pos (by rfl)]
          go_simp
          obtain ⟨w2', hv⟩ : ∃ X, X = w1'.alloc (.cells #[.int .u32 x, .slice A2 n c2'] 117) := ⟨_, rfl⟩
          obtain ⟨nb, hnb⟩ : ∃ nb, nb = w1'.heap.size := ⟨_, rfl⟩
          have hbk : Below w1'.heap.size w1' w2' := by rw [hv]; exact (Below.refl _ _).alloc (Nat.le_refl _) _
          have hNB : Blk w2' nb 117 #[.int .u32 x, .slice A2 n c2'] := by rw [hv, hnb]; exact Blk.new _ _ _
          have T2 := T1.below hbk
          have hb2 : Below W6.heap.size W6 w2' := hb1.trans (hbk.mono hb1.size)
          replace hR2 := hR2.next hbk
          replace hFr : ∀ a, A2 = some a → a.block < w2'.heap.size := fun a e => Nat.lt_of_lt_of_le (hFr a e) hbk.size
          rw [← hv, ← hnb]
          refine hK.out _ _ (hHeld.more hbk) (fun hHeld => ?_)
          clear hK K hbk hv hnb
          try simp only [Act.put, List.setIfInBounds_toArray, List.set_cons_zero, List.set_cons_succ]
          refine wpAnyH_ready (rs := [11]) (by kernel_rfl) (by simp) ?_
          refine AllReadyH.cons (o := ⟨some 42, _, _, _, _, _⟩) rfl (fun K hK => ?_) AllReadyH.nil
          rw [if_pos (by rfl)]
          have hSL := T2.p
          rw [← HPL2.out] at hSL
          refine wp_sl_append _ _ _ _ rfl w2' 117 ic (.agg #[.int .u32 0, .slice none 0 0]) 2 32 Tryz.underlying27 hic hicz hics hicb rfl pA pl pc (lp.flatMap PE.cc) rfl hSL _ rfl 1 [.int .u32 x, .slice A2 n c2'] (Src.ofSlice _ Tryz.underlying27 ⟨nb, 0, none⟩ 1 1 _ rfl (fun j u hu => by
              have hj : j < 2 := (List.getElem?_eq_some_iff.1 hu).1
              rw [Addr.add_lit, Nat.zero_add, hNB.cell j]
              simpa using hu) (by simp [Value.oneCell'])) (by decide) (by unfold maxLen; have := HPL.out; have := HM6.out; have := HQ6.out; omega) (by have := HPL.out; have := HM6.out; have := HQ6.out; omega) ?_
          intro A9 c9 wA hSL9 hK9 hA9
          dsimp only
          have hA9n : ∀ a, A9 = some a → (∃ a', pA = some a' ∧ a.block = a'.block) ∨ w2'.heap.size ≤ a.block := hA9
          refine hK.out _ _ (hHeld.trans hK9 (fun j _ hj => .inr hj)) (fun hHeld => ?_)
          clear hK K
          try simp only [Act.put, List.setIfInBounds_toArray, List.set_cons_zero, List.set_cons_succ]
          refine wpAnyH_take (i := 12) (oi := ⟨some 43, _, _, _, _, _⟩) (v := .pointer (some ⟨Bn, 2, none⟩)) rfl (by kernel_rfl) (by kernel_rfl) (by kernel_rfl) (fun _ _ _ h => h) (Or.inl ⟨by rfl, fun W hW => (by go_simp)⟩) (by assumption) ?_
          try simp only [Act.put, List.setIfInBounds_toArray, List.set_cons_zero, List.set_cons_succ]
          refine wpAnyH_ready (rs := [13]) (by kernel_rfl) (by simp) ?_
          refine AllReadyH.cons (o := ⟨none, _, _, _, _, _⟩) rfl (fun K hK => ?_) AllReadyH.nil
          rw [if_pos (by rfl)]
          have hg9 : Blk wA Bn 30 _ := hK9.blk T2.blk (fun ⟨a, ha, e⟩ => T2.gp a ha e)
          have hc43 := hg9.cell 2
          have hf43 := hg9.frozen 2
          simp at hc43
          have T9 := T2.moreR (R' := fun j => R j ∨ ∃ a, A2 = some a ∧ j = a.block) (fun j hj => .inl hj) (fun j hw hr => by rcases hr with hr | ⟨a, ha, e⟩; exact T2.dis j hw hr; exact hW2 j hw a ha e) (fun j hr => by rcases hr with hr | ⟨a, ha, e⟩; exact T2.rin j hr; (rw [e]; exact ⟨hFB a ha, hFr a ha⟩))
          have hpk9 : ∀ e : PE, e ∈ lp ++ [(⟨⟨x, n, z, rep⟩, A2, c2'⟩ : PE)] → Pkt wA (fun j => R j ∨ ∃ a, A2 = some a ∧ j = a.block) e.A e.v.n e.c e.v.z := fun e he => by
            have hx : Pkt w2' (fun j => R j ∨ ∃ a, A2 = some a ∧ j = a.block) e.A e.v.n e.c e.v.z := by
              rcases List.mem_append.1 he with he | he
              · exact T9.pe e he
              · have : e = (⟨⟨x, n, z, rep⟩, A2, c2'⟩ : PE) := by simpa using he
                rw [this]
                exact Pkt.of_clone hp1 hp9 hc2 HBY.out hR2
            exact hx.keep hK9 (fun j ⟨a, ha, e2⟩ hr => T9.dis j (by rw [e2]; exact T9.wp a ha) hr)
          have hlen9 : (lp ++ [(⟨⟨x, n, z, rep⟩, A2, c2'⟩ : PE)]).length = pl + 1 := by rw [List.length_append, HPL2.out]; rfl
          have hSL9' : SL wA 117 2 A9 (lp ++ [(⟨⟨x, n, z, rep⟩, A2, c2'⟩ : PE)]).length c9 ((lp ++ [(⟨⟨x, n, z, rep⟩, A2, c2'⟩ : PE)]).flatMap PE.cc) := by
            rw [hlen9, List.flatMap_append]
            exact hSL9
          have TF := T9.setP hK9 hA9n hSL9' hpk9
          rw [hlen9] at TF
          have hbA : Below Bn w wA := KeepF.below ((show Below Bn w W6 from B6.out).trans (hb2.mono hs6)) (hK9.mono (G := W) (fun j ⟨a, ha, e2⟩ => by rw [e2]; exact T2.wp a ha)) (fun j hj => (T2.win j hj).1) (Nat.le_trans hs6 hb2.size)
          have HTF := Lib.hid TF
          have HBF := Lib.hid (show Below Bn w (wA.setCell ⟨Bn, 2, none⟩ (.slice A9 (pl + 1) c9)) from hbA.setCell (p := ⟨Bn, 2, none⟩) (Nat.le_refl _) _)
          have HVF := Lib.hid (show (lp ++ [(⟨⟨x, n, z, rep⟩, A2, c2'⟩ : PE)]).map (·.v) = (lp0.take (k + 1)).map (·.v) from by rw [HTK.out, List.map_append, VV.out]; rfl)
          have hS9 : KeepF (fun j => j = Bn ∨ ∃ a, pA = some a ∧ j = a.block) W6 (wA.setCell ⟨Bn, 2, none⟩ (.slice A9 (pl + 1) c9)) := hHeld.setCell (p := ⟨Bn, 2, none⟩) (.inl rfl) _
          clear TF hSL9 hSL9' hpk9 hK9 hA9 hA9n T9 hg9 hSL hbA
          go_simp
          refine hK.out _ _ hS9 (fun hHeld => ?_)
          clear hK K hS9
          try simp only [Act.put]
          refine wpAnyH_done (by kernel_rfl) ?_ _
          go_wp2
          go_roundw
          case rel => first | exact ⟨k + 1, _, _, _, _, _, by omega, by go_num, HTF.out, HVF.out, HBF.out⟩ | ((repeat apply Exists.intro); exact ⟨⟨by omega, by go_num, HTF.out, HVF.out, HBF.out⟩, rfl⟩)
          case measure => simp [intOf]; omega
        · rw [if_pos (by rfl)]
          go_simp
          obtain ⟨w2', hv⟩ : ∃ X, X = w1'.alloc (.cells #[.int .u32 x, .slice A2 n c2'] 117) := ⟨_, rfl⟩
          obtain ⟨nb, hnb⟩ : ∃ nb, nb = w1'.heap.size := ⟨_, rfl⟩
          have hbk : Below w1'.heap.size w1' w2' := by rw [hv]; exact (Below.refl _ _).alloc (Nat.le_refl _) _
          have hNB : Blk w2' nb 117 #[.int .u32 x, .slice A2 n c2'] := by rw [hv, hnb]; exact Blk.new _ _ _
          have T2 := T1.below hbk
          have hb2 : Below W6.heap.size W6 w2' := hb1.trans (hbk.mono hb1.size)
          replace hR2 := hR2.next hbk
          replace hFr : ∀ a, A2 = some a → a.block < w2'.heap.size := fun a e => Nat.lt_of_lt_of_le (hFr a e) hbk.size
          rw [← hv, ← hnb]
          refine hK.out _ _ (hHeld.more hbk) (fun hHeld => ?_)
          clear hK K hbk hv hnb
          try simp only [Act.put, List.setIfInBounds_toArray, List.set_cons_zero, List.set_cons_succ]
          refine wpAnyH_ready (rs := [1]) (by kernel_rfl) (by simp) ?_
          refine AllReadyH.cons (o := ⟨some 32, _, _, _, _, _⟩) rfl (fun K hK => ?_) AllReadyH.nil
          rw [if_pos (by rfl)]
          have h43 := T2.blk.cell 2
          simp at h43
          rw [← HPL2.out] at h43
          go_simp
          refine hK.out _ _ hHeld (fun hHeld => ?_)
          clear hK K h43
          try simp only [Act.put, List.setIfInBounds_toArray, List.set_cons_zero, List.set_cons_succ]
          refine wpAnyH_ready (rs := [11]) (by kernel_rfl) (by simp) ?_
          refine AllReadyH.cons (o := ⟨some 42, _, _, _, _, _⟩) rfl (fun K hK => ?_) AllReadyH.nil
          rw [if_pos (by rfl)]
          have hSL := T2.p
          rw [← HPL2.out] at hSL
          refine wp_sl_append _ _ _ _ rfl w2' 117 ic (.agg #[.int .u32 0, .slice none 0 0]) 2 32 Tryz.underlying27 hic hicz hics hicb rfl pA pl pc (lp.flatMap PE.cc) rfl hSL _ rfl 1 [.int .u32 x, .slice A2 n c2'] (Src.ofSlice _ Tryz.underlying27 ⟨nb, 0, none⟩ 1 1 _ rfl (fun j u hu => by
              have hj : j < 2 := (List.getElem?_eq_some_iff.1 hu).1
              rw [Addr.add_lit, Nat.zero_add, hNB.cell j]
              simpa using hu) (by simp [Value.oneCell'])) (by decide) (by unfold maxLen; have := HPL.out; have := HM6.out; have := HQ6.out; omega) (by have := HPL.out; have := HM6.out; have := HQ6.out; omega) ?_
          intro A9 c9 wA hSL9 hK9 hA9
          dsimp only
          have hA9n : ∀ a, A9 = some a → (∃ a', pA = some a' ∧ a.block = a'.block) ∨ w2'.heap.size ≤ a.block := hA9
          refine hK.out _ _ (hHeld.trans hK9 (fun j _ hj => .inr hj)) (fun hHeld => ?_)
          clear hK K
          try simp only [Act.put, List.setIfInBounds_toArray, List.set_cons_zero, List.set_cons_succ]
          refine wpAnyH_take (i := 12) (oi := ⟨some 43, _, _, _, _, _⟩) (v := .pointer (some ⟨Bn, 2, none⟩)) rfl (by kernel_rfl) (by kernel_rfl) (by kernel_rfl) (fun _ _ _ h => h) (Or.inl ⟨by rfl, fun W hW => (by go_simp)⟩) (by assumption) ?_
          try simp only [Act.put, List.setIfInBounds_toArray, List.set_cons_zero, List.set_cons_succ]
          refine wpAnyH_ready (rs := [13]) (by kernel_rfl) (by simp) ?_
          refine AllReadyH.cons (o := ⟨none, _, _, _, _, _⟩) rfl (fun K hK => ?_) AllReadyH.nil
          rw [if_pos (by rfl)]
          have hg9 : Blk wA Bn 30 _ := hK9.blk T2.blk (fun ⟨a, ha, e⟩ => T2.gp a ha e)
          have hc43 := hg9.cell 2
          have hf43 := hg9.frozen 2
          simp at hc43
          have T9 := T2.moreR (R' := fun j => R j ∨ ∃ a, A2 = some a ∧ j = a.block) (fun j hj => .inl hj) (fun j hw hr => by rcases hr with hr | ⟨a, ha, e⟩; exact T2.dis j hw hr; exact hW2 j hw a ha e) (fun j hr => by rcases hr with hr | ⟨a, ha, e⟩; exact T2.rin j hr; (rw [e]; exact ⟨hFB a ha, hFr a ha⟩))
          have hpk9 : ∀ e : PE, e ∈ lp ++ [(⟨⟨x, n, z, rep⟩, A2, c2'⟩ : PE)] → Pkt wA (fun j => R j ∨ ∃ a, A2 = some a ∧ j = a.block) e.A e.v.n e.c e.v.z := fun e he => by
            have hx : Pkt w2' (fun j => R j ∨ ∃ a, A2 = some a ∧ j = a.block) e.A e.v.n e.c e.v.z := by
              rcases List.mem_append.1 he with he | he
              · exact T9.pe e he
              · have : e = (⟨⟨x, n, z, rep⟩, A2, c2'⟩ : PE) := by simpa using he
                rw [this]
                exact Pkt.of_clone hp1 hp9 hc2 HBY.out hR2
            exact hx.keep hK9 (fun j ⟨a, ha, e2⟩ hr => T9.dis j (by rw [e2]; exact T9.wp a ha) hr)
          have hlen9 : (lp ++ [(⟨⟨x, n, z, rep⟩, A2, c2'⟩ : PE)]).length = pl + 1 := by rw [List.length_append, HPL2.out]; rfl
          have hSL9' : SL wA 117 2 A9 (lp ++ [(⟨⟨x, n, z, rep⟩, A2, c2'⟩ : PE)]).length c9 ((lp ++ [(⟨⟨x, n, z, rep⟩, A2, c2'⟩ : PE)]).flatMap PE.cc) := by
            rw [hlen9, List.flatMap_append]
            exact hSL9
          have TF := T9.setP hK9 hA9n hSL9' hpk9
          rw [hlen9] at TF
          have hbA : Below Bn w wA := KeepF.below ((show Below Bn w W6 from B6.out).trans (hb2.mono hs6)) (hK9.mono (G := W) (fun j ⟨a, ha, e2⟩ => by rw [e2]; exact T2.wp a ha)) (fun j hj => (T2.win j hj).1) (Nat.le_trans hs6 hb2.size)
          have HTF := Lib.hid TF
          have HBF := Lib.hid (show Below Bn w (wA.setCell ⟨Bn, 2, none⟩ (.slice A9 (pl + 1) c9)) from hbA.setCell (p := ⟨Bn, 2, none⟩) (Nat.le_refl _) _)
          have HVF := Lib.hid (show (lp ++ [(⟨⟨x, n, z, rep⟩, A2, c2'⟩ : PE)]).map (·.v) = (lp0.take (k + 1)).map (·.v) from by rw [HTK.out, List.map_append, VV.out]; rfl)
          have hS9 : KeepF (fun j => j = Bn ∨ ∃ a, pA = some a ∧ j = a.block) W6 (wA.setCell ⟨Bn, 2, none⟩ (.slice A9 (pl + 1) c9)) := hHeld.setCell (p := ⟨Bn, 2, none⟩) (.inl rfl) _
          clear TF hSL9 hSL9' hpk9 hK9 hA9 hA9n T9 hg9 hSL hbA
          go_simp
          refine hK.out _ _ hS9 (fun hHeld => ?_)
          clear hK K hS9
          try simp only [Act.put]
          refine wpAnyH_done (by kernel_rfl) ?_ _
          go_wp2
          go_roundw
          case rel => first | exact ⟨k + 1, _, _, _, _, _, by omega, by go_num, HTF.out, HVF.out, HBF.out⟩ | ((repeat apply Exists.intro); exact ⟨⟨by omega, by go_num, HTF.out, HVF.out, HBF.out⟩, rfl⟩)
          case measure => simp [intOf]; omega
    · obtain rfl : k = m := by omega
      have hlv : lp.map (·.v) = s.P := by rw [VV.out, ← TT.out.pv, HMM.out, List.take_length]
      have HLV := Lib.hid hlv
      have xq := TT.out.cq
      rw [← HMQ.out] at xq
      clear hlv
      go_wp2
      go_loopw [50] (fun v wq => ∃ (j : Nat) (W R : Nat → Prop) (qA : Option Addr) (qc : Nat) (lq : List WE), j ≤ mq ∧ v = .int .i64 j ∧ FwM wq Bn Bn ny us W R pA pc lp qA qc lq ∧ lq.map (·.v) = (lq0.take j).map (·.v) ∧ Below Bn w wq) (fun v _ => mq - (intOf v).toNat)
      case atStart => exact ⟨0, _, _, _, _, _, by omega, rfl, FF.out, by simp, BB.out⟩
      case round =>
        clear xq FF BB TT VV hbs W R
        obtain ⟨j, W, R, qA, qc, lq, hj, rfl, hF, hv, hb⟩ := hrel
        have FF := Lib.hid hF
        have BB := Lib.hid hb
        have VV := Lib.hid hv
        have hbs : Bn ≤ wr.heap.size := by have := hb.size; have := HBN.out; omega
        have TT := Lib.hid (HT.out.below (hb.mono (by rw [HBN.out]; exact Nat.le_refl _)))
        clear hF hv hb
        by_cases hlt : j < mq
        · obtain ⟨e0, he0⟩ : ∃ e0, lq0[j]? = some e0 := ⟨lq0[j]'(by have := HMQ.out; omega), by simp [HMQ.out ▸ hlt]⟩
          obtain ⟨b, o, hpA, hlb, c0, c1⟩ := TT.out.qcell he0
          have hpk := TT.out.qe e0 (List.mem_of_getElem? he0)
          have HE := Lib.hid he0
          obtain ⟨⟨n, z, at_⟩, A, c⟩ := e0
          dsimp only at c0 c1 hpk
          have HPK := Lib.hid hpk
          have k0 : (0 : Int) ≤ (j : Int) := by omega
          have k1 : (j : Int) < (mq : Int) := by omega
          subst hpA
          clear hpk he0
          go_upto_region 12 with (fail)
          refine wp_let (fun W' => Blk W' wr.heap.size 151 #[.slice A n c, .int .i64 at_] ∧ Below wr.heap.size wr W') ⟨Blk.new _ _ _, (Below.refl _ wr).alloc (Nat.le_refl _) _⟩ ?_
          rintro W6 ⟨b6, b7⟩
          obtain ⟨xb, hxb⟩ : ∃ xb, xb = wr.heap.size := ⟨_, rfl⟩
          have hxg : xb ≠ Bn := by have := FF.out.blk.lt; omega
          have hxp : ∀ a, qA = some a → xb ≠ a.block := fun a e => by have := FF.out.q.lt e; omega
          have F6 := Lib.hid (FF.out.below b7)
          have B6 := Lib.hid (show Below Bn w W6 from BB.out.trans (b7.mono hbs))
          have hs6 : Bn ≤ W6.heap.size := Nat.le_trans hbs b7.size
          have R6 := Lib.hid (show Row W6 W6.heap.size A n (fun j => .int .u8 (z j)) from HPK.out.row.next b7)
          have HBY := Lib.hid HPK.out.byte
          have hp1 := HPK.out.pos
          have hp9 := HPK.out.max
          rw [← hxb] at b6 ⊢
          have X6 := Lib.hid b6
          clear b6 b7 hxb c0 c1
          have HS := Lib.hid (show ∀ W', KeepF (fun j => j = Bn ∨ ∃ a, qA = some a ∧ j = a.block) W6 W' → W'.cell? ⟨xb, 0, none⟩ = some (.slice A n c) from fun W' hW => by
            have := hW.blk X6.out (fun hf => by rcases hf with h | ⟨a, ha, h⟩; exact hxg h; exact hxp a ha h)
            exact this.cell 0)
          obtain ⟨w0, hw0⟩ : ∃ w0, w0 = W6.drew := ⟨_, rfl⟩
          have T0 : FwM w0 Bn Bn ny us W R pA pc lp qA qc lq := by rw [hw0]; exact F6.out.below (Below.refl _ _).drew
          have hb0 : Below W6.heap.size W6 w0 := by rw [hw0]; exact (Below.refl _ _).drew
          obtain ⟨is, his, hisz, hiss, hisb⟩ := infoBs
          refine wp_region_held_drew (S := fun w' => KeepF (fun j => j = Bn ∨ ∃ a, qA = some a ∧ j = a.block) W6 w') (by kernel_rfl) ((KeepF.refl (w := W6)).drew) (fun hHeld => ?_)
          rw [← hw0]
          rw [← hw0] at hHeld
          clear hw0
          obtain ⟨pl, hpl⟩ : ∃ pl, pl = lq.length := ⟨_, rfl⟩
          have HPL2 := Lib.hid hpl
          have HPL : Hid (pl = j) := Lib.hid (by have := congrArg List.length VV.out; simp at this; have := HMQ.out; omega)
          have HTK := Lib.hid (show (lq0.take (j + 1)).map (·.v) = (lq0.take j).map (·.v) ++ [(⟨n, z, at_⟩ : QV)] from by rw [List.take_add_one, HE.out, List.map_append]; rfl)
          have hbF : Bn ≤ w0.heap.size := Nat.le_trans hs6 hb0.size
          clear hpl
          refine wpAnyH_take (i := 0) (oi := ⟨some 54, _, _, _, _, _⟩) (v := .pointer (some ⟨Bn, 3, none⟩)) rfl (by kernel_rfl) (by kernel_rfl) (by kernel_rfl) (fun _ _ _ h => h) (Or.inl ⟨by rfl, fun W hW => (by go_simp)⟩) (by assumption) ?_
          try simp only [Act.put, List.setIfInBounds_toArray, List.set_cons_zero, List.set_cons_succ]
          refine wpAnyH_take (i := 2) (oi := ⟨some 56, _, _, _, _, _⟩) (v := .pointer (some ⟨xb, 0, none⟩)) rfl (by kernel_rfl) (by kernel_rfl) (by kernel_rfl) (fun _ _ _ h => h) (Or.inl ⟨by rfl, fun W hW => (by go_simp)⟩) (by assumption) ?_
          try simp only [Act.put, List.setIfInBounds_toArray, List.set_cons_zero, List.set_cons_succ]
          refine wpAnyH_take (i := 3) (oi := ⟨some 57, _, _, _, _, _⟩) (v := .slice A n c) rfl (by kernel_rfl) (by kernel_rfl) (by kernel_rfl) (fun _ _ _ h => h) (Or.inl ⟨by rfl, fun W hW => (by have u0 := HS.out W hW; go_simp)⟩) (by assumption) ?_
          try simp only [Act.put, List.setIfInBounds_toArray, List.set_cons_zero, List.set_cons_succ]
          refine wpAnyH_ready (rs := [1, 4]) (by kernel_rfl) (by simp) ?_
          refine AllReadyH.cons (o := ⟨some 55, _, _, _, _, _⟩) rfl (fun K hK => ?_) (AllReadyH.cons (o := ⟨some 58, _, _, _, _, _⟩) rfl (fun K hK => ?_) AllReadyH.nil)
          · rw [if_pos (by rfl)]
            have h43 := T0.blk.cell 3
            simp at h43
            rw [← HPL2.out] at h43
            go_simp
            refine hK.out _ _ hHeld (fun hHeld => ?_)
            clear hK K h43
            try simp only [Act.put, List.setIfInBounds_toArray, List.set_cons_zero, List.set_cons_succ]
            refine wpAnyH_ready (rs := [4]) (by kernel_rfl) (by simp) ?_
            refine AllReadyH.cons (o := ⟨some 58, _, _, _, _, _⟩) rfl (fun K hK => ?_) AllReadyH.nil
            rw [if_pos (by rfl)]
            go_simp
            refine (clone_any A n c z w0 (by omega) (R6.out.next hb0)).mono ?_
            rintro e w1' ⟨A2, c2', rfl, hc2, hR2, hF2, hbk⟩
            dsimp only
            have hFl : ∀ a, A2 = some a → w0.heap.size ≤ a.block := hF2
            have hFr : ∀ a, A2 = some a → a.block < w1'.heap.size := fun a e => row_lt hR2 hp1 e
            have hwl1 : ∀ j, W j → j < w0.heap.size := fun j hj => (T0.win j hj).2
            have hFB : ∀ a, A2 = some a → Bn ≤ a.block := fun a e => by have := hFl a e; have := hb0.size; omega
            have T1 := T0.below hbk
            have hb1 : Below W6.heap.size W6 w1' := hb0.trans (hbk.mono hb0.size)
            have hW2 : ∀ j, W j → ∀ a, A2 = some a → j ≠ a.block := fun j hj a e => by have := hFl a e; have := hwl1 j hj; omega
            refine hK.out _ _ (hHeld.more hbk) (fun hHeld => ?_)
            clear hK K hbk hF2
            try simp only [Act.put, List.setIfInBounds_toArray, List.set_cons_zero, List.set_cons_succ]
            refine wpAnyH_ready (rs := [5]) (by kernel_rfl) (by simp) ?_
            refine AllReadyH.cons (o := ⟨some 59, _, _, _, _, _⟩) rfl (fun K hK => ?_) AllReadyH.nil
            rw [if_pos (by rfl)]
            go_simp
            obtain ⟨w2', hv⟩ : ∃ X, X = w1'.alloc (.cells #[.slice A2 n c2'] 46) := ⟨_, rfl⟩
            obtain ⟨nb, hnb⟩ : ∃ nb, nb = w1'.heap.size := ⟨_, rfl⟩
            have hbk : Below w1'.heap.size w1' w2' := by rw [hv]; exact (Below.refl _ _).alloc (Nat.le_refl _) _
            have hNB : Blk w2' nb 46 #[.slice A2 n c2'] := by rw [hv, hnb]; exact Blk.new _ _ _
            have T2 := T1.below hbk
            have hb2 : Below W6.heap.size W6 w2' := hb1.trans (hbk.mono hb1.size)
            replace hR2 := hR2.next hbk
            replace hFr : ∀ a, A2 = some a → a.block < w2'.heap.size := fun a e => Nat.lt_of_lt_of_le (hFr a e) hbk.size
            rw [← hv, ← hnb]
            refine hK.out _ _ (hHeld.more hbk) (fun hHeld => ?_)
            clear hK K hbk hv hnb
            try simp only [Act.put, List.setIfInBounds_toArray, List.set_cons_zero, List.set_cons_succ]
            refine wpAnyH_ready (rs := [6]) (by kernel_rfl) (by simp) ?_
            refine AllReadyH.cons (o := ⟨some 60, _, _, _, _, _⟩) rfl (fun K hK => ?_) AllReadyH.nil
            rw [if_pos (by rfl)]
            have hSL := T2.q
            rw [← HPL2.out] at hSL
            refine wp_sl_append _ _ _ _ rfl w2' 46 is (.slice none 0 0) 1 24 Tryz.underlying28 his hisz hiss hisb rfl qA pl qc (lq.flatMap WE.cc) rfl hSL _ rfl 1 [.slice A2 n c2'] (Src.ofSlice _ Tryz.underlying28 ⟨nb, 0, none⟩ 1 1 _ rfl (fun j u hu => by
                have hj : j < 1 := (List.getElem?_eq_some_iff.1 hu).1
                rw [Addr.add_lit, Nat.zero_add, hNB.cell j]
                simpa using hu) (by simp [Value.oneCell'])) (by decide) (by unfold maxLen; have := HPL.out; have := HM6.out; have := HQ6.out; omega) (by have := HPL.out; have := HM6.out; have := HQ6.out; omega) ?_
            intro A9 c9 wA hSL9 hK9 hA9
            dsimp only
            have hA9n : ∀ a, A9 = some a → (∃ a', qA = some a' ∧ a.block = a'.block) ∨ w2'.heap.size ≤ a.block := hA9
            refine hK.out _ _ (hHeld.trans hK9 (fun j _ hj => .inr hj)) (fun hHeld => ?_)
            clear hK K
            try simp only [Act.put, List.setIfInBounds_toArray, List.set_cons_zero, List.set_cons_succ]
            refine wpAnyH_take (i := 7) (oi := ⟨some 61, _, _, _, _, _⟩) (v := .pointer (some ⟨Bn, 3, none⟩)) rfl (by kernel_rfl) (by kernel_rfl) (by kernel_rfl) (fun _ _ _ h => h) (Or.inl ⟨by rfl, fun W hW => (by go_simp)⟩) (by assumption) ?_
            try simp only [Act.put, List.setIfInBounds_toArray, List.set_cons_zero, List.set_cons_succ]
            refine wpAnyH_ready (rs := [8]) (by kernel_rfl) (by simp) ?_
            refine AllReadyH.cons (o := ⟨none, _, _, _, _, _⟩) rfl (fun K hK => ?_) AllReadyH.nil
            rw [if_pos (by rfl)]
            have hg9 : Blk wA Bn 30 _ := hK9.blk T2.blk (fun ⟨a, ha, e⟩ => T2.gq a ha e)
            have hc43 := hg9.cell 3
            have hf43 := hg9.frozen 3
            simp at hc43
            have T9 := T2.moreR (R' := fun j => R j ∨ ∃ a, A2 = some a ∧ j = a.block) (fun j hj => .inl hj) (fun j hw hr => by rcases hr with hr | ⟨a, ha, e⟩; exact T2.dis j hw hr; exact hW2 j hw a ha e) (fun j hr => by rcases hr with hr | ⟨a, ha, e⟩; exact T2.rin j hr; (rw [e]; exact ⟨hFB a ha, hFr a ha⟩))
            have hpk9 : ∀ e : WE, e ∈ lq ++ [(⟨⟨n, z, at_⟩, A2, c2'⟩ : WE)] → Pkt wA (fun j => R j ∨ ∃ a, A2 = some a ∧ j = a.block) e.A e.v.n e.c e.v.z := fun e he => by
              have hx : Pkt w2' (fun j => R j ∨ ∃ a, A2 = some a ∧ j = a.block) e.A e.v.n e.c e.v.z := by
                rcases List.mem_append.1 he with he | he
                · exact T9.qe e he
                · have : e = (⟨⟨n, z, at_⟩, A2, c2'⟩ : WE) := by simpa using he
                  rw [this]
                  exact Pkt.of_clone hp1 hp9 hc2 HBY.out hR2
              exact hx.keep hK9 (fun j ⟨a, ha, e2⟩ hr => T9.dis j (by rw [e2]; exact T9.wq a ha) hr)
            have hlen9 : (lq ++ [(⟨⟨n, z, at_⟩, A2, c2'⟩ : WE)]).length = pl + 1 := by rw [List.length_append, HPL2.out]; rfl
            have hSL9' : SL wA 46 1 A9 (lq ++ [(⟨⟨n, z, at_⟩, A2, c2'⟩ : WE)]).length c9 ((lq ++ [(⟨⟨n, z, at_⟩, A2, c2'⟩ : WE)]).flatMap WE.cc) := by
              rw [hlen9, List.flatMap_append]
              exact hSL9
            have TF := T9.setQ hK9 hA9n hSL9' hpk9
            rw [hlen9] at TF
            have hbA : Below Bn w wA := KeepF.below ((show Below Bn w W6 from B6.out).trans (hb2.mono hs6)) (hK9.mono (G := W) (fun j ⟨a, ha, e2⟩ => by rw [e2]; exact T2.wq a ha)) (fun j hj => (T2.win j hj).1) (Nat.le_trans hs6 hb2.size)
            have HTF := Lib.hid TF
            have HBF := Lib.hid (show Below Bn w (wA.setCell ⟨Bn, 3, none⟩ (.slice A9 (pl + 1) c9)) from hbA.setCell (p := ⟨Bn, 3, none⟩) (Nat.le_refl _) _)
            have HVF := Lib.hid (show (lq ++ [(⟨⟨n, z, at_⟩, A2, c2'⟩ : WE)]).map (·.v) = (lq0.take (j + 1)).map (·.v) from by rw [HTK.out, List.map_append, VV.out]; rfl)
            have hS9 : KeepF (fun j => j = Bn ∨ ∃ a, qA = some a ∧ j = a.block) W6 (wA.setCell ⟨Bn, 3, none⟩ (.slice A9 (pl + 1) c9)) := hHeld.setCell (p := ⟨Bn, 3, none⟩) (.inl rfl) _
            clear TF hSL9 hSL9' hpk9 hK9 hA9 hA9n T9 hg9 hSL hbA
            go_simp
            refine hK.out _ _ hS9 (fun hHeld => ?_)
            clear hK K hS9
            try simp only [Act.put]
            refine wpAnyH_done (by kernel_rfl) ?_ _
            go_wp2
            go_roundw
            case rel => first | exact ⟨j + 1, _, _, _, _, _, by omega, by go_num, HTF.out, HVF.out, HBF.out⟩ | ((repeat apply Exists.intro); exact ⟨⟨by omega, by go_num, HTF.out, HVF.out, HBF.out⟩, rfl⟩)
            case measure => simp [intOf]; omega
          · rw [if_pos (by rfl)]
            go_simp
            refine (clone_any A n c z w0 (by omega) (R6.out.next hb0)).mono ?_
            rintro e w1' ⟨A2, c2', rfl, hc2, hR2, hF2, hbk⟩
            dsimp only
            have hFl : ∀ a, A2 = some a → w0.heap.size ≤ a.block := hF2
            have hFr : ∀ a, A2 = some a → a.block < w1'.heap.size := fun a e => row_lt hR2 hp1 e
            have hwl1 : ∀ j, W j → j < w0.heap.size := fun j hj => (T0.win j hj).2
            have hFB : ∀ a, A2 = some a → Bn ≤ a.block := fun a e => by have := hFl a e; have := hb0.size; omega
            have T1 := T0.below hbk
            have hb1 : Below W6.heap.size W6 w1' := hb0.trans (hbk.mono hb0.size)
            have hW2 : ∀ j, W j → ∀ a, A2 = some a → j ≠ a.block := fun j hj a e => by have := hFl a e; have := hwl1 j hj; omega
            refine hK.out _ _ (hHeld.more hbk) (fun hHeld => ?_)
            clear hK K hbk hF2
            try simp only [Act.put, List.setIfInBounds_toArray, List.set_cons_zero, List.set_cons_succ]
            refine wpAnyH_ready (rs := [1, 5]) (by kernel_rfl) (by simp) ?_
            refine AllReadyH.cons (o := ⟨some 55, _, _, _, _, _⟩) rfl (fun K hK => ?_) (AllReadyH.cons (o := ⟨some 59, _, _, _, _, _⟩) rfl (fun K hK => ?_) AllReadyH.nil)
            · rw [if_pos (by rfl)]
              have h43 := T1.blk.cell 3
              simp at h43
              rw [← HPL2.out] at h43
              go_simp
              refine hK.out _ _ hHeld (fun hHeld => ?_)
              clear hK K h43
              try simp only [Act.put, List.setIfInBounds_toArray, List.set_cons_zero, List.set_cons_succ]
              refine wpAnyH_ready (rs := [5]) (by kernel_rfl) (by simp) ?_
              refine AllReadyH.cons (o := ⟨some 59, _, _, _, _, _⟩) rfl (fun K hK => ?_) AllReadyH.nil
              rw [if_pos (by rfl)]
              go_simp
              obtain ⟨w2', hv⟩ : ∃ X, X = w1'.alloc (.cells #[.slice A2 n c2'] 46) := ⟨_, rfl⟩
              obtain ⟨nb, hnb⟩ : ∃ nb, nb = w1'.heap.size := ⟨_, rfl⟩
              have hbk : Below w1'.heap.size w1' w2' := by rw [hv]; exact (Below.refl _ _).alloc (Nat.le_refl _) _
              have hNB : Blk w2' nb 46 #[.slice A2 n c2'] := by rw [hv, hnb]; exact Blk.new _ _ _
              have T2 := T1.below hbk
              have hb2 : Below W6.heap.size W6 w2' := hb1.trans (hbk.mono hb1.size)
              replace hR2 := hR2.next hbk
              replace hFr : ∀ a, A2 = some a → a.block < w2'.heap.size := fun a e => Nat.lt_of_lt_of_le (hFr a e) hbk.size
              rw [← hv, ← hnb]
              refine hK.out _ _ (hHeld.more hbk) (fun hHeld => ?_)
              clear hK K hbk hv hnb
              try simp only [Act.put, List.setIfInBounds_toArray, List.set_cons_zero, List.set_cons_succ]
              refine wpAnyH_ready (rs := [6]) (by kernel_rfl) (by simp) ?_
              refine AllReadyH.cons (o := ⟨some 60, _, _, _, _, _⟩) rfl (fun K hK => ?_) AllReadyH.nil
              rw [if_pos (by rfl)]
              have hSL := T2.q
              rw [← HPL2.out] at hSL
              refine wp_sl_append _ _ _ _ rfl w2' 46 is (.slice none 0 0) 1 24 Tryz.underlying28 his hisz hiss hisb rfl qA pl qc (lq.flatMap WE.cc) rfl hSL _ rfl 1 [.slice A2 n c2'] (Src.ofSlice _ Tryz.underlying28 ⟨nb, 0, none⟩ 1 1 _ rfl (fun j u hu => by
                  have hj : j < 1 := (List.getElem?_eq_some_iff.1 hu).1
                  rw [Addr.add_lit, Nat.zero_add, hNB.cell j]
                  simpa using hu) (by simp [Value.oneCell'])) (by decide) (by unfold maxLen; have := HPL.out; have := HM6.out; have := HQ6.out; omega) (by have := HPL.out; have := HM6.out; have := HQ6.out; omega) ?_
              intro A9 c9 wA hSL9 hK9 hA9
              dsimp only
              have hA9n : ∀ a, A9 = some a → (∃ a', qA = some a' ∧ a.block = a'.block) ∨ w2'.heap.size ≤ a.block := hA9
              refine hK.out _ _ (hHeld.trans hK9 (fun j _ hj => .inr hj)) (fun hHeld => ?_)
              clear hK K
              try simp only [Act.put, List.setIfInBounds_toArray, List.set_cons_zero, List.set_cons_succ]
              refine wpAnyH_take (i := 7) (oi := ⟨some 61, _, _, _, _, _⟩) (v := .pointer (some ⟨Bn, 3, none⟩)) rfl (by kernel_rfl) (by kernel_rfl) (by kernel_rfl) (fun _ _ _ h => h) (Or.inl ⟨by rfl, fun W hW => (by go_simp)⟩) (by assumption) ?_
              try simp only [Act.put, List.setIfInBounds_toArray, List.set_cons_zero, List.set_cons_succ]
              refine wpAnyH_ready (rs := [8]) (by kernel_rfl) (by simp) ?_
              refine AllReadyH.cons (o := ⟨none, _, _, _, _, _⟩) rfl (fun K hK => ?_) AllReadyH.nil
              rw [if_pos (by rfl)]
              have hg9 : Blk wA Bn 30 _ := hK9.blk T2.blk (fun ⟨a, ha, e⟩ => T2.gq a ha e)
              have hc43 := hg9.cell 3
              have hf43 := hg9.frozen 3
              simp at hc43
              have T9 := T2.moreR (R' := fun j => R j ∨ ∃ a, A2 = some a ∧ j = a.block) (fun j hj => .inl hj) (fun j hw hr => by rcases hr with hr | ⟨a, ha, e⟩; exact T2.dis j hw hr; exact hW2 j hw a ha e) (fun j hr => by rcases hr with hr | ⟨a, ha, e⟩; exact T2.rin j hr; (rw [e]; exact ⟨hFB a ha, hFr a ha⟩))
              have hpk9 : ∀ e : WE, e ∈ lq ++ [(⟨⟨n, z, at_⟩, A2, c2'⟩ : WE)] → Pkt wA (fun j => R j ∨ ∃ a, A2 = some a ∧ j = a.block) e.A e.v.n e.c e.v.z := fun e he => by
                have hx : Pkt w2' (fun j => R j ∨ ∃ a, A2 = some a ∧ j = a.block) e.A e.v.n e.c e.v.z := by
                  rcases List.mem_append.1 he with he | he
                  · exact T9.qe e he
                  · have : e = (⟨⟨n, z, at_⟩, A2, c2'⟩ : WE) := by simpa using he
                    rw [this]
                    exact Pkt.of_clone hp1 hp9 hc2 HBY.out hR2
                exact hx.keep hK9 (fun j ⟨a, ha, e2⟩ hr => T9.dis j (by rw [e2]; exact T9.wq a ha) hr)
              have hlen9 : (lq ++ [(⟨⟨n, z, at_⟩, A2, c2'⟩ : WE)]).length = pl + 1 := by rw [List.length_append, HPL2.out]; rfl
              have hSL9' : SL wA 46 1 A9 (lq ++ [(⟨⟨n, z, at_⟩, A2, c2'⟩ : WE)]).length c9 ((lq ++ [(⟨⟨n, z, at_⟩, A2, c2'⟩ : WE)]).flatMap WE.cc) := by
                rw [hlen9, List.flatMap_append]
                exact hSL9
              have TF := T9.setQ hK9 hA9n hSL9' hpk9
              rw [hlen9] at TF
              have hbA : Below Bn w wA := KeepF.below ((show Below Bn w W6 from B6.out).trans (hb2.mono hs6)) (hK9.mono (G := W) (fun j ⟨a, ha, e2⟩ => by rw [e2]; exact T2.wq a ha)) (fun j hj => (T2.win j hj).1) (Nat.le_trans hs6 hb2.size)
              have HTF := Lib.hid TF
              have HBF := Lib.hid (show Below Bn w (wA.setCell ⟨Bn, 3, none⟩ (.slice A9 (pl + 1) c9)) from hbA.setCell (p := ⟨Bn, 3, none⟩) (Nat.le_refl _) _)
              have HVF := Lib.hid (show (lq ++ [(⟨⟨n, z, at_⟩, A2, c2'⟩ : WE)]).map (·.v) = (lq0.take (j + 1)).map (·.v) from by rw [HTK.out, List.map_append, VV.out]; rfl)
              have hS9 : KeepF (fun j => j = Bn ∨ ∃ a, qA = some a ∧ j = a.block) W6 (wA.setCell ⟨Bn, 3, none⟩ (.slice A9 (pl + 1) c9)) := hHeld.setCell (p := ⟨Bn, 3, none⟩) (.inl rfl) _
              clear TF hSL9 hSL9' hpk9 hK9 hA9 hA9n T9 hg9 hSL hbA
              go_simp
              refine hK.out _ _ hS9 (fun hHeld => ?_)
              clear hK K hS9
              try simp only [Act.put]
              refine wpAnyH_done (by kernel_rfl) ?_ _
              go_wp2
              go_roundw
              case rel => first | exact ⟨j + 1, _, _, _, _, _, by omega, by go_num, HTF.out, HVF.out, HBF.out⟩ | ((repeat apply Exists.intro); exact ⟨⟨by omega, by go_num, HTF.out, HVF.out, HBF.out⟩, rfl⟩)
              case measure => simp [intOf]; omega
            · rw [if_pos (by rfl)]
              go_simp
              obtain ⟨w2', hv⟩ : ∃ X, X = w1'.alloc (.cells #[.slice A2 n c2'] 46) := ⟨_, rfl⟩
              obtain ⟨nb, hnb⟩ : ∃ nb, nb = w1'.heap.size := ⟨_, rfl⟩
              have hbk : Below w1'.heap.size w1' w2' := by rw [hv]; exact (Below.refl _ _).alloc (Nat.le_refl _) _
              have hNB : Blk w2' nb 46 #[.slice A2 n c2'] := by rw [hv, hnb]; exact Blk.new _ _ _
              have T2 := T1.below hbk
              have hb2 : Below W6.heap.size W6 w2' := hb1.trans (hbk.mono hb1.size)
              replace hR2 := hR2.next hbk
              replace hFr : ∀ a, A2 = some a → a.block < w2'.heap.size := fun a e => Nat.lt_of_lt_of_le (hFr a e) hbk.size
              rw [← hv, ← hnb]
              refine hK.out _ _ (hHeld.more hbk) (fun hHeld => ?_)
              clear hK K hbk hv hnb
              try simp only [Act.put, List.setIfInBounds_toArray, List.set_cons_zero, List.set_cons_succ]
              refine wpAnyH_ready (rs := [1]) (by kernel_rfl) (by simp) ?_
              refine AllReadyH.cons (o := ⟨some 55, _, _, _, _, _⟩) rfl (fun K hK => ?_) AllReadyH.nil
              rw [if_pos (by rfl)]
              have h43 := T2.blk.cell 3
              simp at h43
              rw [← HPL2.out] at h43
              go_simp
              refine hK.out _ _ hHeld (fun hHeld => ?_)
              clear hK K h43
              try simp only [Act.put, List.setIfInBounds_toArray, List.set_cons_zero, List.set_cons_succ]
              refine wpAnyH_ready (rs := [6]) (by kernel_rfl) (by simp) ?_
              refine AllReadyH.cons (o := ⟨some 60, _, _, _, _, _⟩) rfl (fun K hK => ?_) AllReadyH.nil
              rw [if_pos (by rfl)]
              have hSL := T2.q
              rw [← HPL2.out] at hSL
              refine wp_sl_append _ _ _ _ rfl w2' 46 is (.slice none 0 0) 1 24 Tryz.underlying28 his hisz hiss hisb rfl qA pl qc (lq.flatMap WE.cc) rfl hSL _ rfl 1 [.slice A2 n c2'] (Src.ofSlice _ Tryz.underlying28 ⟨nb, 0, none⟩ 1 1 _ rfl (fun j u hu => by
                  have hj : j < 1 := (List.getElem?_eq_some_iff.1 hu).1
                  rw [Addr.add_lit, Nat.zero_add, hNB.cell j]
                  simpa using hu) (by simp [Value.oneCell'])) (by decide) (by unfold maxLen; have := HPL.out; have := HM6.out; have := HQ6.out; omega) (by have := HPL.out; have := HM6.out; have := HQ6.out; omega) ?_
              intro A9 c9 wA hSL9 hK9 hA9
              dsimp only
              have hA9n : ∀ a, A9 = some a → (∃ a', qA = some a' ∧ a.block = a'.block) ∨ w2'.heap.size ≤ a.block := hA9
              refine hK.out _ _ (hHeld.trans hK9 (fun j _ hj => .inr hj)) (fun hHeld => ?_)
              clear hK K
              try simp only [Act.put, List.setIfInBounds_toArray, List.set_cons_zero, List.set_cons_succ]
              refine wpAnyH_take (i := 7) (oi := ⟨some 61, _, _, _, _, _⟩) (v := .pointer (some ⟨Bn, 3, none⟩)) rfl (by kernel_rfl) (by kernel_rfl) (by kernel_rfl) (fun _ _ _ h => h) (Or.inl ⟨by rfl, fun W hW => (by go_simp)⟩) (by assumption) ?_
              try simp only [Act.put, List.setIfInBounds_toArray, List.set_cons_zero, List.set_cons_succ]
              refine wpAnyH_ready (rs := [8]) (by kernel_rfl) (by simp) ?_
              refine AllReadyH.cons (o := ⟨none, _, _, _, _, _⟩) rfl (fun K hK => ?_) AllReadyH.nil
              rw [if_pos (by rfl)]
              have hg9 : Blk wA Bn 30 _ := hK9.blk T2.blk (fun ⟨a, ha, e⟩ => T2.gq a ha e)
              have hc43 := hg9.cell 3
              have hf43 := hg9.frozen 3
              simp at hc43
              have T9 := T2.moreR (R' := fun j => R j ∨ ∃ a, A2 = some a ∧ j = a.block) (fun j hj => .inl hj) (fun j hw hr => by rcases hr with hr | ⟨a, ha, e⟩; exact T2.dis j hw hr; exact hW2 j hw a ha e) (fun j hr => by rcases hr with hr | ⟨a, ha, e⟩; exact T2.rin j hr; (rw [e]; exact ⟨hFB a ha, hFr a ha⟩))
              have hpk9 : ∀ e : WE, e ∈ lq ++ [(⟨⟨n, z, at_⟩, A2, c2'⟩ : WE)] → Pkt wA (fun j => R j ∨ ∃ a, A2 = some a ∧ j = a.block) e.A e.v.n e.c e.v.z := fun e he => by
                have hx : Pkt w2' (fun j => R j ∨ ∃ a, A2 = some a ∧ j = a.block) e.A e.v.n e.c e.v.z := by
                  rcases List.mem_append.1 he with he | he
                  · exact T9.qe e he
                  · have : e = (⟨⟨n, z, at_⟩, A2, c2'⟩ : WE) := by simpa using he
                    rw [this]
                    exact Pkt.of_clone hp1 hp9 hc2 HBY.out hR2
                exact hx.keep hK9 (fun j ⟨a, ha, e2⟩ hr => T9.dis j (by rw [e2]; exact T9.wq a ha) hr)
              have hlen9 : (lq ++ [(⟨⟨n, z, at_⟩, A2, c2'⟩ : WE)]).length = pl + 1 := by rw [List.length_append, HPL2.out]; rfl
              have hSL9' : SL wA 46 1 A9 (lq ++ [(⟨⟨n, z, at_⟩, A2, c2'⟩ : WE)]).length c9 ((lq ++ [(⟨⟨n, z, at_⟩, A2, c2'⟩ : WE)]).flatMap WE.cc) := by
                rw [hlen9, List.flatMap_append]
                exact hSL9
              have TF := T9.setQ hK9 hA9n hSL9' hpk9
              rw [hlen9] at TF
              have hbA : Below Bn w wA := KeepF.below ((show Below Bn w W6 from B6.out).trans (hb2.mono hs6)) (hK9.mono (G := W) (fun j ⟨a, ha, e2⟩ => by rw [e2]; exact T2.wq a ha)) (fun j hj => (T2.win j hj).1) (Nat.le_trans hs6 hb2.size)
              have HTF := Lib.hid TF
              have HBF := Lib.hid (show Below Bn w (wA.setCell ⟨Bn, 3, none⟩ (.slice A9 (pl + 1) c9)) from hbA.setCell (p := ⟨Bn, 3, none⟩) (Nat.le_refl _) _)
              have HVF := Lib.hid (show (lq ++ [(⟨⟨n, z, at_⟩, A2, c2'⟩ : WE)]).map (·.v) = (lq0.take (j + 1)).map (·.v) from by rw [HTK.out, List.map_append, VV.out]; rfl)
              have hS9 : KeepF (fun j => j = Bn ∨ ∃ a, qA = some a ∧ j = a.block) W6 (wA.setCell ⟨Bn, 3, none⟩ (.slice A9 (pl + 1) c9)) := hHeld.setCell (p := ⟨Bn, 3, none⟩) (.inl rfl) _
              clear TF hSL9 hSL9' hpk9 hK9 hA9 hA9n T9 hg9 hSL hbA
              go_simp
              refine hK.out _ _ hS9 (fun hHeld => ?_)
              clear hK K hS9
              try simp only [Act.put]
              refine wpAnyH_done (by kernel_rfl) ?_ _
              go_wp2
              go_roundw
              case rel => first | exact ⟨j + 1, _, _, _, _, _, by omega, by go_num, HTF.out, HVF.out, HBF.out⟩ | ((repeat apply Exists.intro); exact ⟨⟨by omega, by go_num, HTF.out, HVF.out, HBF.out⟩, rfl⟩)
              case measure => simp [intOf]; omega
        · obtain rfl : j = mq := by omega
          have hlq : lq.map (·.v) = s.Q := by rw [VV.out, ← TT.out.qv, HMQ.out, List.take_length]
          have HLQ := Lib.hid hlq
          have x0 := FF.out.blk.cell 0
          have x1 := FF.out.blk.cell 1
          have x2 := FF.out.blk.cell 2
          have x3 := FF.out.blk.cell 3
          simp at x0 x1 x2 x3
          have f0 := FF.out.blk.frozen 0
          have f1 := FF.out.blk.frozen 1
          have f2 := FF.out.blk.frozen 2
          have f3 := FF.out.blk.frozen 3
          clear hlq
          go_wp2
          have hB := ((((FF.out.blk.set_ 0 (.int .u32 ny)).set_ 1 (.bool us)).set_ 2 (.slice pA lp.length pc)).set_ 3 (.slice qA lq.length qc))
          have hB' : Blk ((((wr.setCell ⟨Bn, 0, none⟩ (.int .u32 ny)).setCell ⟨Bn, 1, none⟩ (.bool us)).setCell ⟨Bn, 2, none⟩ (.slice pA lp.length pc)).setCell ⟨Bn, 3, none⟩ (.slice qA lq.length qc)) Bn 30 #[.int .u32 ny, .bool us, .slice pA lp.length pc, .slice qA lq.length qc] := by simpa using hB
          have HB := Lib.hid hB'
          have hKF : KeepF (fun j => j = Bn) wr ((((wr.setCell ⟨Bn, 0, none⟩ (.int .u32 ny)).setCell ⟨Bn, 1, none⟩ (.bool us)).setCell ⟨Bn, 2, none⟩ (.slice pA lp.length pc)).setCell ⟨Bn, 3, none⟩ (.slice qA lq.length qc)) := ((((KeepF.refl (F := fun j => j = Bn)).setCell (p := ⟨Bn, 0, none⟩) rfl _).setCell (p := ⟨Bn, 1, none⟩) rfl _).setCell (p := ⟨Bn, 2, none⟩) rfl _).setCell (p := ⟨Bn, 3, none⟩) rfl _
          clear hB hB'
          refine bodyPost_ret (v := .agg #[.int .u32 ny, .bool us, .slice pA lp.length pc, .slice qA lq.length qc]) ?_ ?_ ?_
          case refine_1 => exact results_cell_row (g := Bn) (t := 30) (fr := (0, 0)) Tryz.results32 _ _ _ _ rfl HB.out Tryz.underlying30 rfl (by kernel_rfl)
          case refine_2 => rfl
          refine ⟨pA, pc, lp, qA, qc, lq, by rw [HNY.out, HUS.out], ?_, BB.out.mono (by rw [HBN.out]; exact Nat.le_refl _) |>.trans ?_⟩
          · rw [← HBN.out]
            have pk : ∀ {A : Option Addr} {n c : Nat} {z : Nat → Int}, Pkt wr R A n c z → Pkt ((((wr.setCell ⟨Bn, 0, none⟩ (.int .u32 ny)).setCell ⟨Bn, 1, none⟩ (.bool us)).setCell ⟨Bn, 2, none⟩ (.slice pA lp.length pc)).setCell ⟨Bn, 3, none⟩ (.slice qA lq.length qc)) (fun k => Bn ≤ k) A n c z := fun hp => (hp.keep hKF (fun k e hr => FF.out.dis k (by rw [e]; exact FF.out.wg) hr)).mono (fun k hr => (FF.out.rin k hr).1)
            exact ⟨HLV.out, HLQ.out, FF.out.p.keepF hKF (fun a e h2 => FF.out.gp a e h2.symm), FF.out.q.keepF hKF (fun a e h2 => FF.out.gq a e h2.symm), fun e he => pk (FF.out.pe e he), fun e he => pk (FF.out.qe e he), fun a e => (FF.out.win _ (FF.out.wp a e)).1, fun a e => (FF.out.win _ (FF.out.wq a e)).1⟩
          · exact (KeepF.below (Below.refl Bn wr) hKF (fun k e => by omega) hbs).mono (by rw [HBN.out]; exact Nat.le_refl _)
end Go.Proofs.YthadfbekfbfkpaaGreat
namespace Go.Proofs.YthadfbekfbfkpaaGreat
open Go.RowKit
set_option linter.unusedVariables false
attribute [local go_sem ↓] Go.wp_at_zero Go.wp_at_succ

section
variable {P : Program}
theorem run_clear_one (w : World) (t e ty : TypeId) (z : Value) (cs : List Value) (ht : P.underlying t = some (.slice e)) (hv : ∀ w, (zeroValue e).run P w = .ok z w) (hz : z.cells = cs.toArray) (h1 : ∀ v ∈ cs, v.oneCell' = true) (b o c : Nat)
    (hc : ∀ j, j < cs.length → (w.cell? ⟨b, o + j, none⟩).isSome = true) (hf : ∀ j, j < cs.length → w.frozen? ⟨b, o + j, none⟩ = false) :
    (Builtin.clear_ #[t] ty #[.slice (some ⟨b, o, none⟩) 1 c]).run P w = .ok (.tuple #[]) (w.setCells b o cs) := by
  have hzc : (Builtin.zeroCells z.cells 1).toList = cs := by
    rw [hz]
    simp only [Builtin.zeroCells]
    apply List.ext_getElem
    · simp
    · intro i h1 h2
      simp [Nat.mod_eq_of_lt h2, List.getElem?_eq_getElem h2]
  have hst := run_storeCells_cells (P := P) b o cs 0 w (by simpa using hc) (by simpa using hf) (by simpa using h1)
  simp only [Nat.add_zero] at hst
  simp [Builtin.clear_, run_underlying ht, hv, hzc, hst]
/-- append in place -/
theorem sl_append_room (w : World) (t tx ty e : TypeId) (i : TypeInfo) (sz : Nat) (ht : P.underlying t = some (.slice e)) (hi : P.info? e = some i) (hsize : i.size = sz)
    {b o n c : Nat} {xs : List Value} (h : SL w e sz (some ⟨b, o, none⟩) n c xs) (x : Value) (m : Nat) (news : List Value) (hs : Src P sz tx x m news w) (hroom : n + m ≤ c) :
    ∃ w', (Builtin.append_ #[t, tx] ty #[.slice (some ⟨b, o, none⟩) n c, x]).run P w = .ok (.slice (some ⟨b, o, none⟩) (n + m) c) w' ∧ SL w' e sz (some ⟨b, o, none⟩) (n + m) c (xs ++ news) ∧ KeepF (fun k => k = b) w w' := by
  subst hsize
  have hlen : (xs ++ news).length = (n + m) * i.size := by rw [List.length_append, h.len, hs.newsLen, Nat.add_mul]
  rcases h.at_ with ⟨hA, _⟩ | ⟨b', o', cur, hA, h2, h3, h4, h5, h6⟩
  · cases hA
  cases hA
  rcases Nat.eq_zero_or_pos m with rfl | hm
  · have hn0 : news = [] := List.eq_nil_of_length_eq_zero (by rw [hs.newsLen]; simp)
    subst hn0
    exact ⟨w, run_append_nothing w t tx ty e i ht hi _ n c h3 x hs, by simpa using h, KeepF.refl⟩
  have hB : Blk w b e cur := h2
  have hle : o + (n + m) * i.size ≤ cur.size := Nat.le_trans (Nat.add_le_add_left (Nat.mul_le_mul_right _ hroom) _) h5
  have hnl := hs.newsLen
  have hadd : (n + m) * i.size = n * i.size + news.length := by rw [Nat.add_mul, hnl]
  have hr := run_append_room_src (P := P) w t tx ty e i ht hi b o n c x m news hs hroom (fun j hj => by rw [hB.cell]; rw [Array.getElem?_eq_getElem (by omega)]; rfl) (fun j _ => hB.frozen _)
  refine ⟨_, hr, ⟨hlen, .inr ⟨b, o, _, rfl, ts_setCells news (o + n * i.size) w cur hB, hroom, h4, by rw [tsAll_size]; exact h5, fun j hj => ?_⟩⟩, ts_keep (F := fun k => k = b) (b := b) rfl news _ w⟩
  by_cases hjn : j < n * i.size
  · rw [tsAll_out news _ cur _ (.inl (by omega)), h6 j hjn, List.getElem?_append_left (by rw [h.len]; exact hjn)]
  · have := tsAll_in news (o + n * i.size) cur (j - n * i.size) (by omega) (by omega)
    rw [show o + n * i.size + (j - n * i.size) = o + j by omega] at this
    rw [this, List.getElem?_append_right (by rw [h.len]; omega), h.len]
end
theorem SL.take {w : World} {e : TypeId} {sz : Nat} {A : Option Addr} {n c : Nat} {xs : List Value} (h : SL w e sz A n c xs) (k : Nat) (hk : k ≤ n) : SL w e sz A k c (xs.take (k * sz)) := by
  have hm : k * sz ≤ n * sz := Nat.mul_le_mul_right _ hk
  refine ⟨by rw [List.length_take, h.len]; omega, ?_⟩
  rcases h.at_ with ⟨h1, h2, h3⟩ | ⟨b, o, cur, h1, h2, h3, h4, h5, h6⟩
  · exact .inl ⟨h1, by omega, h3⟩
  · exact .inr ⟨b, o, cur, h1, h2, by omega, h4, h5, fun j hj => by rw [h6 j (by omega), List.getElem?_take, if_pos hj]⟩
theorem zPend_run (w : World) : (zeroValue 149).run Tryz.prog w = .ok (.agg #[.int .u32 0, .slice none 0 0, .bool false]) w := by kernel_rfl
/-- cells written behind a slice's elements -/
theorem SL.past {w : World} {e : TypeId} {sz : Nat} {b o n c : Nat} {xs : List Value} (h : SL w e sz (some ⟨b, o, none⟩) n c xs) (k : Nat) (hk : n * sz ≤ k) (cs : List Value) : SL (w.setCells b (o + k) cs) e sz (some ⟨b, o, none⟩) n c xs := by
  refine ⟨h.len, ?_⟩
  rcases h.at_ with ⟨h1, h2, h3⟩ | ⟨b', o', cur, h1, h2, h3, h4, h5, h6⟩
  · cases h1
  · cases h1
    exact .inr ⟨b, o, _, rfl, ts_setCells cs (o + k) w cur h2, h3, h4, by rw [tsAll_size]; exact h5, fun j hj => by rw [tsAll_out cs _ cur _ (.inl (by omega)), h6 j hj]⟩
theorem SL.room {w : World} {e : TypeId} {sz : Nat} {b o n c : Nat} {xs : List Value} (h : SL w e sz (some ⟨b, o, none⟩) n c xs) {j : Nat} (hj : j < c * sz) : (w.cell? ⟨b, o + j, none⟩).isSome = true := by
  rcases h.at_ with ⟨h1, h2, h3⟩ | ⟨b', o', cur, h1, h2, h3, h4, h5, h6⟩
  · cases h1
  · cases h1
    rw [(show Blk w b e cur from h2).cell, Array.getElem?_eq_getElem (by omega)]
    rfl
theorem drop_flat (lp : List PE) (k : Nat) : (lp.flatMap PE.cells).drop (k * 3) = (lp.drop k).flatMap PE.cells := by
  induction lp generalizing k with
  | nil => simp
  | cons x r ih =>
    cases k with
    | zero => simp
    | succ k => rw [List.flatMap_cons, List.drop_succ_cons, ← ih k, show (k + 1) * 3 = (PE.cells x).length + k * 3 from by show _ = 3 + k * 3; omega, List.drop_length_add_append]
theorem take_flat (lp : List PE) (k : Nat) : (lp.flatMap PE.cells).take (k * 3) = (lp.take k).flatMap PE.cells := by
  induction lp generalizing k with
  | nil => simp
  | cons x r ih =>
    cases k with
    | zero => simp
    | succ k => rw [List.flatMap_cons, List.take_succ_cons, List.flatMap_cons, ← ih k, show (k + 1) * 3 = (PE.cells x).length + k * 3 from by show _ = 3 + k * 3; omega, List.take_length_add_append]
theorem firstP_eq (p : Nat → Bool) (n i : Nat) (hi : i < n) (hp : p i = true) (hno : ∀ j, j < i → p j = false) : firstP p 0 n = (i : Int) := by
  have : ∀ d k, k + d = n → k ≤ i → firstP p k d = (i : Int) := by
    intro d
    induction d with
    | zero => intro k h1 h2; omega
    | succ d ih =>
      intro k h1 h2
      rw [firstP]
      by_cases hk : k = i
      · subst hk; rw [if_pos hp]
      · rw [if_neg (by rw [hno k (by omega)]; decide)]
        exact ih (k + 1) (by omega) (by omega)
  exact this n 0 (by omega) (by omega)
/-- the count is asked for -/
def isCt (lp : List PE) (x : Int) (k : Nat) : Bool := match lp[k]? with | some e => e.v.ct == x | none => false
theorem tconf_ok (x y : Int) (A : Option Addr) (n c : Nat) (r : Bool) (xb : Nat) (w : World) (hx : w.cell? ⟨xb, 0, none⟩ = some (.int .u32 x)) (hlt : xb < w.heap.size) : Calls Tryz.prog 99 #[.agg #[.int .u32 y, .slice A n c, .bool r], .pointer (some ⟨xb, 0, none⟩)] w fun e w' => e = .returned (.bool (y == x)) ∧ Below w.heap.size w w' := by
  have hx' : ∀ o, (w.alloc o).cell? ⟨xb, 0, none⟩ = some (.int .u32 x) := fun o => Lib.cell?_alloc_some o hx
  go_enter Tryz.func99, Tryz.ntmps99
  go_wp2
  go_ret
  exact ⟨rfl, (Below.refl _ _).alloc (Nat.le_refl _) _⟩
theorem pindex_ok (A : Option Addr) (n c : Nat) (lp : List PE) (hn : n = lp.length) (x : Int) (xb : Nat) (w : World) (h : SL w 149 3 A n c (lp.flatMap PE.cells)) (hx : w.cell? ⟨xb, 0, none⟩ = some (.int .u32 x)) (hlt : xb < w.heap.size) :
    Calls Tryz.prog 95 #[.slice A n c, .func (.func 99) #[] #[.pointer (some ⟨xb, 0, none⟩)]] w fun e w' => e = .returned (.int .i64 (firstP (isCt lp x) 0 n)) ∧ Below w.heap.size w w' := by
  have hcm := h.cmax
  have hle := h.le
  unfold maxLen at hcm
  have HSL := Lib.hid h
  have HX := Lib.hid (fun (W : World) (hb : Below w.heap.size w W) (y : Int) (A' : Option Addr) (n' c' : Nat) (r : Bool) => tconf_ok x y A' n' c' r xb W ((hb.cell (p := ⟨xb, 0, none⟩) hlt).trans hx) (Nat.lt_of_lt_of_le hlt hb.size))
  obtain ⟨F, hF⟩ : ∃ F, F = isCt lp x := ⟨_, rfl⟩
  have HF0 := Lib.hid hF
  have HN := Lib.hid hn
  rw [← hF]
  clear h hx hF hn
  go_enter Tryz.func95, Tryz.ntmps95
  go_wp2
  go_loopw [8] (fun v wr => ∃ k : Nat, k ≤ n ∧ v = .int .i64 k ∧ firstP F 0 n = firstP F k (n - k) ∧ Below w.heap.size w wr) (fun v _ => n - (intOf v).toNat)
  case atStart => exact ⟨0, by omega, rfl, rfl, Below.refl _ _⟩
  case round =>
    obtain ⟨k, hk, rfl, hfw, hb⟩ := hrel
    have HF := Lib.hid hfw
    have HB := Lib.hid hb
    clear hfw hb
    by_cases hlt2 : k < n
    · obtain ⟨e0, he0⟩ : ∃ e0, lp[k]? = some e0 := ⟨lp[k]'(by have := HN.out; omega), by simp [HN.out ▸ hlt2]⟩
      have hS := HSL.out.next HB.out
      obtain ⟨b, o, hA, hbl⟩ := hS.some_ (by omega)
      have c0 := hS.cell hA (j := k * 3 + 0) (by omega)
      have c1 := hS.cell hA (j := k * 3 + 1) (by omega)
      have c2 := hS.cell hA (j := k * 3 + 2) (by omega)
      rw [flat_at PE.cells 3 PE.len lp k _ e0 he0 (by omega)] at c0 c1 c2
      have hFk : F k = (e0.v.ct == x) := by rw [HF0.out]; unfold isCt; rw [he0]
      obtain ⟨⟨y, pn, pz, pr⟩, PA, pc⟩ := e0
      simp only [PE.cells, List.getElem?_cons_zero, List.getElem?_cons_succ, Nat.add_zero] at c0 c1 c2
      dsimp only at hFk
      have HC := Lib.hid (HX.out wr HB.out y PA pn pc pr)
      have HST := Lib.hid (firstP_step F k n hlt2)
      obtain ⟨bb, hbb⟩ : ∃ bb, bb = (y == x) := ⟨_, rfl⟩
      rw [← hbb] at HC hFk
      have HFk := Lib.hid hFk
      subst hA
      have c1' : wr.cell? ⟨b, o + (k * 3 + 1), none⟩ = _ := c1
      clear hbb hFk hS he0
      have k0 : (0 : Int) ≤ (k : Int) := by omega
      have k1 : (k : Int) < (n : Int) := by omega
      rw [← Nat.add_assoc] at c1 c2
      cases bb
      · have HS2 := Lib.hid (HST.out.trans (if_neg (by rw [HFk.out]; decide)))
        go_wp2_with (go_at_call 99; refine (HC.out).mono ?_; rintro e w2 ⟨rfl, hB2⟩; have HB2 := Lib.hid (HB.out.trans (hB2.mono HB.out.size)); clear hB2)
        go_roundw
        case rel => exact ⟨k + 1, by omega, by go_num, by rw [HF.out, HS2.out], HB2.out⟩
        case measure => simp [intOf]; omega
      · have HS2 := Lib.hid (HST.out.trans (if_pos HFk.out))
        go_wp2_with (go_at_call 99; refine (HC.out).mono ?_; rintro e w2 ⟨rfl, hB2⟩; have HB2 := Lib.hid (HB.out.trans (hB2.mono HB.out.size)); clear hB2)
        go_ret
        exact ⟨ret_int (by rw [HF.out, HS2.out]), HB2.out⟩
    · obtain rfl : k = n := by omega
      have HF2 := Lib.hid (show firstP F 0 k = -1 by rw [HF.out, Nat.sub_self]; rfl)
      clear HF
      go_wp2
      go_ret
      exact ⟨ret_int HF2.out.symm, HB.out⟩
end Go.Proofs.YthadfbekfbfkpaaGreat
namespace Go.Proofs.YthadfbekfbfkpaaGreat
open Go.RowKit
set_option linter.unusedVariables false
attribute [local go_sem ↓] Go.wp_at_zero Go.wp_at_succ

theorem pe_one (lp : List PE) : ∀ u, u ∈ lp.flatMap PE.cells → u.oneCell' = true := fun u hu => by
  obtain ⟨e, _, he⟩ := List.mem_flatMap.1 hu
  simp only [PE.cells, List.mem_cons, List.not_mem_nil, or_false] at he
  rcases he with rfl | rfl | rfl <;> rfl
theorem wp_sl_room {P : Program} {op : Oper} {a : Act} {K : Act → World → Prop} {Q : Exit → Act → World → Prop} (s x : Operand) (t tx : TypeId) (ho : op.op = .call { callee := .builtin .append, args := #[s, x], argTypes := #[t, tx] })
    (w : World) (e : TypeId) (i : TypeInfo) (sz : Nat) (ht : P.underlying t = some (.slice e)) (hi : P.info? e = some i) (hsize : i.size = sz) (b o n c : Nat) (xs : List Value) (hsv : a.eval s = .slice (some ⟨b, o, none⟩) n c) (h : SL w e sz (some ⟨b, o, none⟩) n c xs)
    (xv : Value) (hxv : a.eval x = xv) (m : Nat) (news : List Value) (hs : Src P sz tx xv m news w) (hroom : n + m ≤ c)
    (hK : ∀ w', SL w' e sz (some ⟨b, o, none⟩) (n + m) c (xs ++ news) → KeepF (fun k => k = b) w w' → K (a.put op.dst (.slice (some ⟨b, o, none⟩) (n + m) c)) w') : op.wp P a w K Q := by
  have hf := fun ty => @sl_append_room P w t tx ty e i sz ht hi hsize b o n c xs h xv m news hs hroom
  obtain ⟨w', hrun, h1, h2⟩ := hf op.type
  unfold Oper.wp execOp
  simp only [ho, resolve, invoke, builtin, Sem.run_bind, Sem.run_pure, Result.andThen_ok, List.map_toArray, List.map_cons, List.map_nil, hsv, hxv, hrun]
  exact hK w' h1 h2
set_option maxRecDepth 100000 in
set_option maxHeartbeats 1600000 in
theorem tdelete_ok (b o n c i : Nat) (lp : List PE) (hn : n = lp.length) (hi : i < n) (w : World) (h : SL w 149 3 (some ⟨b, o, none⟩) n c (lp.flatMap PE.cells)) :
    Calls Tryz.prog 100 #[.slice (some ⟨b, o, none⟩) n c, .int .i64 i, .int .i64 ((i : Int) + 1)] w fun e w' => e = .returned (.slice (some ⟨b, o, none⟩) (n - 1) c) ∧ SL w' 149 3 (some ⟨b, o, none⟩) (n - 1) c ((lp.eraseIdx i).flatMap PE.cells) ∧ KeepF (fun k => k = b) w w' := by
  have hcm := h.cmax
  have hle := h.le
  unfold maxLen at hcm
  have HSL := Lib.hid h
  have HN := Lib.hid hn
  have h1 : (i : Int) + 1 ≤ (n : Int) := by omega
  have h2 : (n : Int) ≤ (c : Int) := by omega
  have h3 : (c : Int) ≤ 9223372036854775807 := by omega
  have h4 : (0 : Int) ≤ (i : Int) := by omega
  have HTAKE := Lib.hid (take_flat lp i ▸ h.take i (by omega))
  have HDROP := Lib.hid (drop_flat lp (i + 1))
  have hci : ¬ c < i := by omega
  have h5 : (0 : Int) ≤ (i : Int) + 1 := by omega
  clear h hn
  go_enter Tryz.func100, Tryz.ntmps100
  go_upto_region 5 with (fail)
  obtain ⟨ip, hip, hipz, hips, hipb⟩ := infoPend
  obtain ⟨w0, hw0⟩ : ∃ w0, w0 = w.drew := ⟨_, rfl⟩
  have hb0 : Below w.heap.size w w0 := by rw [hw0]; exact (Below.refl _ _).drew
  refine wp_region_held_drew (S := fun w' => KeepF (fun j => j = b) w w') (by kernel_rfl) ((KeepF.refl (w := w)).drew) (fun hHeld => ?_)
  rw [← hw0]
  rw [← hw0] at hHeld
  obtain ⟨SA, hSA⟩ : ∃ SA : Addr, SA = if c = i + 1 then ⟨b, o, none⟩ else ⟨b, o + (i + 1) * 3, none⟩ := ⟨_, rfl⟩
  have hSS : (if c = i + 1 then some (⟨b, o, none⟩ : Addr) else some ⟨b, o + (i + 1) * 3, none⟩) = some SA := by rw [hSA]; split <;> rfl
  have HAD := Lib.hid (show ∀ j, j < (n - (i + 1)) * 3 → SA = ⟨b, o + (i + 1) * 3, none⟩ from fun j hj => by rw [hSA, if_neg (by omega)])
  clear hw0 hSA
  refine wpAnyH_take (i := 0) (oi := ⟨some 20, _, _, _, _, _⟩) (v := .slice (some ⟨b, o, none⟩) n c) rfl (by kernel_rfl) (by kernel_rfl) (by kernel_rfl) (fun _ _ _ h => h) (Or.inl ⟨by rfl, fun W hW => (by rfl)⟩) (by assumption) ?_
  try simp only [Act.put, List.setIfInBounds_toArray, List.set_cons_zero, List.set_cons_succ]
  refine wpAnyH_take (i := 1) (oi := ⟨some 21, _, _, _, _, _⟩) (v := .int .i64 i) rfl (by kernel_rfl) (by kernel_rfl) (by kernel_rfl) (fun _ _ _ h => h) (Or.inl ⟨by rfl, fun W hW => (by rfl)⟩) (by assumption) ?_
  try simp only [Act.put, List.setIfInBounds_toArray, List.set_cons_zero, List.set_cons_succ]
  refine wpAnyH_take (i := 2) (oi := ⟨some 22, _, _, _, _, _⟩) (v := .slice (some ⟨b, o, none⟩) i c) rfl (by kernel_rfl) (by kernel_rfl) (by kernel_rfl) (fun _ _ _ h => h) (Or.inl ⟨by rfl, fun W hW => (by go_simp)⟩) (by assumption) ?_
  try simp only [Act.put, List.setIfInBounds_toArray, List.set_cons_zero, List.set_cons_succ]
  refine wpAnyH_take (i := 3) (oi := ⟨some 23, _, _, _, _, _⟩) (v := .slice (some ⟨b, o, none⟩) n c) rfl (by kernel_rfl) (by kernel_rfl) (by kernel_rfl) (fun _ _ _ h => h) (Or.inl ⟨by rfl, fun W hW => (by rfl)⟩) (by assumption) ?_
  try simp only [Act.put, List.setIfInBounds_toArray, List.set_cons_zero, List.set_cons_succ]
  refine wpAnyH_take (i := 4) (oi := ⟨some 24, _, _, _, _, _⟩) (v := .int .i64 ((i : Int) + 1)) rfl (by kernel_rfl) (by kernel_rfl) (by kernel_rfl) (fun _ _ _ h => h) (Or.inl ⟨by rfl, fun W hW => (by rfl)⟩) (by assumption) ?_
  try simp only [Act.put, List.setIfInBounds_toArray, List.set_cons_zero, List.set_cons_succ]
  refine wpAnyH_take (i := 5) (oi := ⟨some 25, _, _, _, _, _⟩) (v := .slice (some SA) (n - (i + 1)) (c - (i + 1))) rfl (by kernel_rfl) (by kernel_rfl) (by kernel_rfl) (fun _ _ _ h => h) (Or.inl ⟨by rfl, fun W hW => (by go_simp)⟩) (by assumption) ?_
  try simp only [Act.put, List.setIfInBounds_toArray, List.set_cons_zero, List.set_cons_succ]
  clear hSS
  refine wpAnyH_ready (rs := [6]) (by kernel_rfl) (by simp) ?_
  refine AllReadyH.cons (o := ⟨some 26, _, _, _, _, _⟩) rfl (fun K hK => ?_) AllReadyH.nil
  rw [if_pos (by rfl)]
  have hS0 := HTAKE.out.next hb0
  have hF0 := HSL.out.next hb0
  have hdl : ((lp.drop (i + 1)).flatMap PE.cells).length = (n - (i + 1)) * 3 := by rw [flat_len PE.cells 3 PE.len, List.length_drop, HN.out]
  refine wp_sl_room _ _ 61 61 rfl w0 149 ip 3 Tryz.underlying61 hip hips b o i c _ rfl hS0 (.slice (some SA) (n - (i + 1)) (c - (i + 1))) rfl (n - (i + 1)) ((lp.drop (i + 1)).flatMap PE.cells)
    (Src.ofSlice _ Tryz.underlying61 SA (n - (i + 1)) (c - (i + 1)) _ hdl (fun j u hu => by
      have hj : j < (n - (i + 1)) * 3 := by rw [← hdl]; exact (List.getElem?_eq_some_iff.1 hu).1
      rw [HAD.out j hj, Addr.add_lit, show o + (i + 1) * 3 + j = o + ((i + 1) * 3 + j) by omega, hF0.cell rfl (by omega)]
      rw [← HDROP.out, List.getElem?_drop] at hu
      exact hu) (pe_one _)) (by omega) ?_
  intro wA hSA hKA
  have hxs : (lp.take i).flatMap PE.cells ++ (lp.drop (i + 1)).flatMap PE.cells = (lp.eraseIdx i).flatMap PE.cells := by rw [← List.flatMap_append, List.eraseIdx_eq_take_drop_succ]
  rw [hxs] at hSA
  rw [show i + (n - (i + 1)) = n - 1 by omega] at hSA ⊢
  have HSA := Lib.hid hSA
  have HKA := Lib.hid ((KeepF.of_below (F := fun k => k = b) hb0).trans hKA (fun _ _ h => h))
  clear hS0 hF0 hdl hxs hSA hKA
  refine hK.out _ _ HKA.out (fun hHeld => ?_)
  clear hK K
  try simp only [Act.put, List.setIfInBounds_toArray]
  refine wpAnyH_take (i := 7) (oi := ⟨some 0, _, _, _, _, _⟩) (v := .slice (some ⟨b, o, none⟩) (n - 1) c) rfl (by kernel_rfl) (by kernel_rfl) (by kernel_rfl) (fun _ _ _ h => h) (Or.inl ⟨by rfl, fun W hW => (by go_simp)⟩) (by assumption) ?_
  try simp only [Act.put, List.setIfInBounds_toArray, List.set_cons_zero, List.set_cons_succ]
  refine wpAnyH_done (by kernel_rfl) ?_ _
  have hroom : ∀ j, j < 3 → (wA.cell? ⟨b, o + (n - 1) * 3 + j, none⟩).isSome = true := fun j hj => by
    have := HSA.out.room (j := (n - 1) * 3 + j) (by omega)
    rwa [← Nat.add_assoc] at this
  have hfr : ∀ j, j < 3 → wA.frozen? ⟨b, o + (n - 1) * 3 + j, none⟩ = false := fun j hj => HSA.out.frozen rfl _
  have hcl : ∀ ty, (Builtin.clear_ #[61] ty #[.slice (some ⟨b, o + (n - 1) * 3, none⟩) (n - (n - 1)) (c - (n - 1))]).run Tryz.prog wA = .ok (.tuple #[]) (wA.setCells b (o + (n - 1) * 3) [.int .u32 0, .slice none 0 0, .bool false]) := fun ty => by
    rw [show n - (n - 1) = 1 by omega]
    exact run_clear_one wA 61 149 ty _ [.int .u32 0, .slice none 0 0, .bool false] Tryz.underlying61 zPend_run rfl (by simp [Value.oneCell']) b (o + (n - 1) * 3) (c - (n - 1)) (fun j hj => hroom j hj) (fun j hj => hfr j hj)
  have HF := Lib.hid (HSA.out.past ((n - 1) * 3) (Nat.le_refl _) [.int .u32 0, .slice none 0 0, .bool false])
  have HG := Lib.hid (HKA.out.trans (ts_keep (F := fun k => k = b) (b := b) rfl [.int .u32 0, .slice none 0 0, .bool false] (o + (n - 1) * 3) wA) (fun _ _ h => h))
  obtain ⟨wB, hwB⟩ : ∃ wB, wB = wA.setCells b (o + (n - 1) * 3) [.int .u32 0, .slice none 0 0, .bool false] := ⟨_, rfl⟩
  rw [← hwB] at hcl HF HG
  clear hroom hfr hwB HSA HKA
  have hn1 : ((n - 1 : Nat) : Int) = (n : Int) - 1 := by omega
  go_wp2
  go_ret
  exact ⟨rfl, HF.out, HG.out⟩
set_option maxRecDepth 100000 in
set_option maxHeartbeats 1600000 in
theorem tconfirm_ok (g : Nat) (s : TS) (W R : Nat → Prop) (w : World) (h : TxI w g s W R) (x : Int) (i : Nat) (e0 : PV) (he : s.P[i]? = some e0) (hx : e0.ct = x) (hno : ∀ j, j < i → ∀ e, s.P[j]? = some e → e.ct ≠ x) :
    Calls Tryz.prog 37 #[.pointer (some ⟨g, 0, none⟩), .int .u32 x] w fun e w' => e = .returned (.int .i64 0) ∧ TxO W R w w' g { s with P := s.P.eraseIdx i } := by
  have HM := Lib.hid (fun (V : World) (hb : Below w.heap.size w V) => tmade_ok g s W R V (h.below hb))
  obtain ⟨qA, qc, lq, pA, pc, lp, ub, cb, hT⟩ := h
  have HT := Lib.hid hT
  obtain ⟨pe, hpe, hpev⟩ : ∃ pe, lp[i]? = some pe ∧ pe.v = e0 := by
    rw [← hT.pv, List.getElem?_map] at he
    cases hq : lp[i]? with
    | none => rw [hq] at he; cases he
    | some q => rw [hq] at he; exact ⟨q, rfl, by simpa using he⟩
  have hil : i < lp.length := (List.getElem?_eq_some_iff.1 hpe).1
  obtain ⟨b, o, hpA, hbl⟩ := hT.p.some_ (by omega)
  have hF0 : firstP (isCt lp x) 0 lp.length = (i : Int) := firstP_eq _ _ _ hil (by unfold isCt; rw [hpe]; simp [hpev, hx]) (fun j hj => by
    unfold isCt
    have hjl : j < lp.length := by omega
    rw [List.getElem?_eq_getElem hjl]
    have := hno j hj lp[j].v (by rw [← hT.pv, List.getElem?_map, List.getElem?_eq_getElem hjl]; rfl)
    simpa using this)
  subst hpA
  have hcm := hT.p.cmax
  unfold maxLen at hcm
  have hle := hT.p.le
  obtain ⟨n, hn⟩ : ∃ n, n = lp.length := ⟨_, rfl⟩
  have HN := Lib.hid hn
  have hgl := hT.blk.lt
  rw [← hn] at hle hil hF0
  have HF0 := Lib.hid hF0
  clear hT he hno hpe hF0 hn
  go_enter Tryz.func37, Tryz.ntmps37
  go_upto_region 1 with (fail)
  refine wp_let (fun V => V.cell? ⟨w.heap.size, 0, none⟩ = some (.int .u32 x) ∧ Below w.heap.size w V ∧ w.heap.size < V.heap.size) ⟨(Blk.new _ _ _).cell 0, (Below.refl _ w).alloc (Nat.le_refl _) _, by simp⟩ ?_
  rintro W1 ⟨b1, b2, b3⟩
  obtain ⟨xb, hxb⟩ : ∃ xb, xb = w.heap.size := ⟨_, rfl⟩
  have B2 := Lib.hid b2
  have T1 := Lib.hid (HT.out.below b2)
  have HI := Lib.hid (pindex_ok (some ⟨b, o, none⟩) lp.length pc lp rfl x xb W1 T1.out.p (by rw [hxb]; exact b1) (by omega))
  rw [← HN.out] at HI
  have c1 := T1.out.cp
  rw [← HN.out] at c1
  rw [← hxb]
  rw [HF0.out] at HI
  have i0 : (0 : Int) ≤ (i : Int) := by omega
  have i1 : (i : Int) < (n : Int) := by omega
  have i2 : (n : Int) ≤ 9223372036854775807 := by omega
  clear b1 b2 hxb
  go_upto_region 6 with (first
    | (go_at_call 88; refine (HM.out _ B2.out).mono ?_; rintro e w2 ⟨rfl, rfl⟩)
    | (go_at_call 95; refine (HI.out).mono ?_; rintro e w3 ⟨rfl, hB⟩; have E2 := Lib.hid hB; clear hB))
  have B3 := Lib.hid (B2.out.trans (E2.out.mono B2.out.size))
  have T3 := Lib.hid (T1.out.below E2.out)
  have c3 := T3.out.cp
  rw [← HN.out] at c3
  have HD := Lib.hid (tdelete_ok b o n pc i lp HN.out hil w3 (HN.out ▸ T3.out.p))
  clear c1
  have hgb : g ≠ b := T3.out.gp _ rfl
  have hel : (lp.eraseIdx i).length = n - 1 := by rw [List.length_eraseIdx, if_pos (by rw [← HN.out]; exact hil), HN.out]
  have HEL := Lib.hid hel
  clear hel
  go_wp2_with (go_at_call 100; refine (HD.out).mono ?_; rintro e w4 ⟨rfl, hS4, hK4⟩; have S4 := Lib.hid hS4; have K4 := Lib.hid hK4; have G4 := hK4.blk T3.out.blk hgb; have c4 := (G4.cell 43).trans (tArr_high s.C.arr_size 4); have f4 := G4.frozen 43; simp at c4; clear hS4 hK4 G4)
  go_ret
  have hK5 : KeepF (fun k => ∃ a, (some ⟨b, o, none⟩ : Option Addr) = some a ∧ k = a.block) w3 w4 := K4.out.mono (fun k e => ⟨_, rfl, e⟩)
  have TF := T3.out.setP (lp' := lp.eraseIdx i) (pA' := some ⟨b, o, none⟩) (pc' := pc) hK5 (fun a ha => .inl ⟨a, ha, rfl⟩) (by rw [HEL.out]; exact S4.out)
    (fun e he => (T3.out.pe e (List.mem_of_mem_eraseIdx he)).keep hK5 (fun k ⟨a, ha, e2⟩ hr => T3.out.dis k (by rw [e2]; exact T3.out.wp a ha) hr))
    (fun e he => T3.out.pr e.v (by rw [← T3.out.pv]; exact List.mem_map_of_mem (List.mem_of_mem_eraseIdx he)))
  rw [HEL.out] at TF
  have hpm : (lp.eraseIdx i).map (·.v) = s.P.eraseIdx i := by rw [List.eraseIdx_eq_take_drop_succ, List.map_append, List.map_take, List.map_drop, T3.out.pv, ← List.eraseIdx_eq_take_drop_succ]
  rw [hpm] at TF
  refine ⟨rfl, _, R, ⟨_, _, _, _, _, _, _, _, TF⟩, ?_, fun k hr => .inl hr, ?_⟩
  · rintro k (hk | ⟨a, ha, rfl⟩)
    · exact .inl hk
    · exact .inl (T3.out.wp a ha)
  · exact ((KeepF.of_below (F := W) B3.out).trans (K4.out.mono (G := W) (fun k e => by rw [e]; exact T3.out.wp _ rfl)) (fun _ _ h => h)).setCell (p := ⟨g, 43, none⟩) T3.out.wg _
end Go.Proofs.YthadfbekfbfkpaaGreat
