/- pdcprx.Resume of a whole state. -/
import Derived.Test.YtknlipjgehgihaaOD
import Derived.Deep.RegionHeld3
namespace Go.Proofs.Ytknlipjgehgihaa
open Go.RowKit

attribute [local go_sem ↓] Go.wp_at_zero Go.wp_at_succ

/-- a receiver's cells (zero configuration) -/
def rxArr (d nx : Int) (mS mU eb : Nat) : Array Value := #[.int .i64 0, .int .i64 0, .int .u8 0, .int .u8 0, .int .u8 0, .int .u8 0, .int .u8 0, .int .u8 0, .int .u8 0, .int .u8 0, .int .u8 0, .int .u8 0, .int .u8 0, .int .u8 0, .int .u8 0, .int .u8 0, .int .u8 0, .int .u8 0, .int .u8 0, .int .u8 0, .int .u8 0, .int .u8 0, .int .u8 0, .int .u8 0, .int .u8 0, .int .u8 0, .int .u8 0, .int .u8 0, .int .u8 0, .int .u8 0, .int .u8 0, .int .u8 0, .int .u8 0, .int .u8 0, .bool false, .bool false, .bool false, .int .i64 0, .int .i64 0, .bool true, .int .i64 0, .int .u64 d, .int .u64 nx, .map (some mS), .bool false, .int .u64 0, .int .i64 0, .map (some mU), .pointer (some ⟨eb, 0, none⟩), .slice none 0 0, .int .i64 0]
theorem kput (W : World) (m : Nat) (h : W.heap[m]? = some (.map #[] 0)) : (Instr.mapUpdate 68 (.map (some m)) (.agg k16) (.bool true)).run Try.prog W = .ok () (W.putObj m (.map #[{ key := .agg k16, val := .bool true, born := 0 }] 1)) := by
  have hf : ∀ W : World, (Instr.findKey 36 (.agg k16) []).run Try.prog W = .ok none W := fun W => by
    simp [Instr.findKey, run_underlying Try.underlying36, Instr.findNow, Result.andThen]
  simp [Instr.mapUpdate, run_underlying Try.underlying68, MapKept.run_getObj_map h, k16_check, hf, MapKept.run_setObj_map _ h, Result.andThen, World.putObj]
def KM (W : World) (g : Nat) (w' : World) : Prop := W.heap.size ≤ w'.heap.size ∧ ∀ b, b < W.heap.size → b ≠ g → w'.heap[b]? = W.heap[b]?
theorem KM.blk {W w' : World} {g b : Nat} {t : TypeId} {cs : Array Value} (k : KM W g w') (h : Blk W b t cs) (h1 : b ≠ g) : Blk w' b t cs := (k.2 b h.lt h1).trans h
theorem KM.below {W a b : World} {g : Nat} (k : KM W g a) (h : Below a.heap.size a b) : KM W g b := ⟨Nat.le_trans k.1 h.size, fun i hi h1 => (h.block i (Nat.lt_of_lt_of_le hi k.1)).trans (k.2 i hi h1)⟩
theorem KM.keep {W a b : World} {g : Nat} (k : KM W g a) (h : Keep1 g a b) : KM W g b := ⟨Nat.le_trans k.1 h.size, fun i hi h1 => (h.block i (Nat.lt_of_lt_of_le hi k.1) (fun e => by cases e; exact h1 rfl)).trans (k.2 i hi h1)⟩
theorem mem_put (ct : Nat → Int) (L : List Int) (k : Nat) (h : ∀ x, x ∈ L ↔ ∃ j, j < k ∧ ct j = x) : ∀ x, x ∈ (if ct k ∈ L then L else L ++ [ct k]) ↔ ∃ j, j < k + 1 ∧ ct j = x := by
  intro x
  have e : x ∈ (if ct k ∈ L then L else L ++ [ct k]) ↔ x ∈ L ∨ x = ct k := by
    by_cases hm : ct k ∈ L
    · rw [if_pos hm]
      exact ⟨.inl, fun h => by rcases h with h | h; exact h; rw [h]; exact hm⟩
    · rw [if_neg hm]; simp
  rw [e, h]
  constructor
  · rintro (⟨j, hj, rfl⟩ | rfl)
    · exact ⟨j, by omega, rfl⟩
    · exact ⟨k, by omega, rfl⟩
  · rintro ⟨j, hj, rfl⟩
    by_cases e : j = k
    · subst e; exact .inr rfl
    · exact .inl ⟨j, by omega, rfl⟩
/-- what stands behind the literal -/
def RxNew (d nx : Int) (B : Nat) (w : World) (v : Value) (W : World) : Prop :=
  ∃ rb mS mU eb, v = .pointer (some ⟨rb, 0, none⟩) ∧ Blk W rb 75 (rxArr d nx mS mU eb) ∧ UB W mS [] ∧ B ≤ rb ∧ B ≤ mS ∧ rb ≠ mS ∧ Below B w W

set_option maxRecDepth 100000 in
set_option maxHeartbeats 6400000 in
theorem rresume_yes (A : Option Addr) (m c : Nat) (d nx : Int) (ct : Nat → Int) (PA : Nat → Option Addr) (pn pc : Nat → Nat) (z : Nat → Nat → Int) (w : World) (hd : 0 ≤ d) (hm : m ≤ maxLen) (h : Cnts w A m ct PA pn pc z) (hw : Whole d nx m ct pn) :
    Calls Try.prog 7 #[.agg z39, .agg #[.int .u64 d, .int .u64 nx, .slice A m c]] w fun e w' => ∃ rb mS mU eb L, e = .returned (.tuple #[.pointer (some ⟨rb, 0, none⟩), .int .i64 0]) ∧ Blk w' rb 75 (rxArr d nx mS mU eb) ∧ UB w' mS L ∧ (∀ x, x ∈ L ↔ ∃ j, j < m ∧ ct j = x) ∧ Below w.heap.size w w' := by
  have HV := Lib.hid (fun W => rvalid_zero W)
  have HW := Lib.hid (fun W (hW : Cnts W A m ct PA pn pc z) => whole_yes A m c d nx ct PA pn pc z W hd hm hW hw)
  have HC := Lib.hid h
  have HWH := Lib.hid hw
  have HS : Hid ((Try.prog.info? 38).map (·.size) = some z39.size) := Lib.hid sizePd
  have HU := Lib.hid Try.underlying38
  have HUK := Lib.hid Try.underlying36
  have hmm := @run_makeMap Try.prog
  clear h hw
  go_enter Try.func7, Try.ntmps7
  go_upto_region 1 with (fail)
  refine wp_world (fun W => Blk W w.heap.size 38 z39 ∧ Blk W (w.heap.size + 1) 25 #[.int .u64 d, .int .u64 nx, .slice A m c] ∧ Below w.heap.size w W) ⟨(Blk.new _ _ _).alloc _, blk_at _ _ _ _ (by simp), ((Below.refl _ w).alloc (Nat.le_refl _) _).alloc (by simp) _⟩ ?_
  rintro W1 ⟨b1, b2, b3⟩
  have B1 := Lib.hid b1
  have B2 := Lib.hid b2
  have B3 := Lib.hid b3
  clear b1 b2 b3
  go_upto_region 3 with (first
    | (refine wpList_load_row rfl _ _ rfl w.heap.size rfl 38 z39 (0, 0) _ B1.out HU.out rfl HS.out ?_)
    | (go_at_call 25; refine (HV.out _).mono ?_; rintro e w2 ⟨rfl, hB⟩; have E2 := Lib.hid hB; have D2 := Lib.hid (below_step B3.out hB); have x0 := (B2.out.below hB B2.out.lt).cell 0; have x1 := (B2.out.below hB B2.out.lt).cell 1; have x2 := (B2.out.below hB B2.out.lt).cell 2; simp at x0 x1 x2; clear hB)
    | (go_at_call 26; refine (HW.out _ (HC.out.below D2.out)).mono ?_; rintro e w3 ⟨rfl, hB⟩; have E3 := Lib.hid (below_step E2.out hB); clear hB))
  have BZ := Lib.hid (B1.out.below E3.out B1.out.lt)
  have BS := Lib.hid (B2.out.below E3.out B2.out.lt)
  have D3 := Lib.hid (below_step B3.out E3.out)
  obtain ⟨zb, hzb⟩ : ∃ zb, zb = w.heap.size := ⟨_, rfl⟩
  obtain ⟨Bn, hBn⟩ : ∃ Bn, Bn = w3.heap.size := ⟨_, rfl⟩
  rw [← hzb] at BZ BS x0 x1 x2 ⊢
  have HZB := Lib.hid hzb
  have hzl : zb + 1 < Bn := by rw [hBn]; exact BS.out.lt
  have HZR := Lib.hid (show ∀ W, Below Bn w3 W → W.rangeAt zb 0 z39.toList from fun W hW => ((BZ.out.below hW (by omega)).range z39.toList (by simp)))
  have HKR := Lib.hid (show ∀ W, Below Bn w3 W → W.rangeAt zb 2 k16.toList from fun W hW j v hv => by
    have hj : j < 16 := by have := (List.getElem?_eq_some_iff.1 hv).1; simpa [k16] using this
    rw [(BZ.out.below hW (by omega)).cell (2 + j)]
    have : ∀ j, j < 16 → z39[2 + j]? = k16.toList[j]? := fun j hj => by
      rcases (by omega : j = 0 ∨ j = 1 ∨ j = 2 ∨ j = 3 ∨ j = 4 ∨ j = 5 ∨ j = 6 ∨ j = 7 ∨ j = 8 ∨ j = 9 ∨ j = 10 ∨ j = 11 ∨ j = 12 ∨ j = 13 ∨ j = 14 ∨ j = 15) with rfl | rfl | rfl | rfl | rfl | rfl | rfl | rfl | rfl | rfl | rfl | rfl | rfl | rfl | rfl | rfl <;> rfl
    rw [this j hj]; exact hv)
  have HSR := Lib.hid (show ∀ W, Below Bn w3 W → W.cell? ⟨zb + 1, 0, none⟩ = some (.int .u64 d) ∧ W.cell? ⟨zb + 1, 1, none⟩ = some (.int .u64 nx) from fun W hW => ⟨(BS.out.below hW hzl).cell 0, (BS.out.below hW hzl).cell 1⟩)
  have HS39 : Hid ((Try.prog.info? 38).map (·.size) = some z39.toList.length) := Lib.hid sizePd
  have HS16 : Hid ((Try.prog.info? 36).map (·.size) = some k16.toList.length) := Lib.hid (by kernel_rfl)
  clear x0 x1 x2 hzb
  go_cut [6] from 17 to 29 (fun v wx => RxNew d nx Bn w3 v wx)
  case first =>
    obtain ⟨w0, hw0⟩ : ∃ w0, w0 = w3.drew := ⟨_, rfl⟩
    have hb0 : Below Bn w3 w0 := by rw [hw0, hBn]; exact (Below.refl _ w3).drew
    have hz0 : Bn ≤ w0.heap.size := by rw [hw0, hBn]; exact Nat.le_refl _
    refine wp_region_held_drew (S := fun w' => Below Bn w3 w') (by kernel_rfl) (by rw [← hw0]; exact hb0) (fun hHeld => ?_)
    rw [← hw0]
    clear hw0 hHeld
    have hHeld := hb0
    refine' wpAnyH_take (i := 0) (oi := ⟨some 17, _, _, _, _, _⟩) (v := _) rfl (by kernel_rfl) (by kernel_rfl) (by kernel_rfl) (fun _ _ _ h => h) (yieldsIf_load_mid (by rfl) _ _ rfl zb 0 rfl z39.toList _ (fun w h => HZR.out w h) HU.out rfl HS39.out) (by assumption) ?_
    try simp only [Act.put, List.setIfInBounds_toArray, List.set_cons_zero, List.set_cons_succ]
    refine wpAnyH_take (i := 1) (oi := ⟨some 18, _, _, _, _, _⟩) (v := .pointer (some ⟨zb + 1, 0, none⟩)) rfl (by kernel_rfl) (by kernel_rfl) (by kernel_rfl) (fun _ _ _ h => h) (Or.inl ⟨by rfl, fun W hW => (by go_simp)⟩) (by assumption) ?_
    try simp only [Act.put, List.setIfInBounds_toArray, List.set_cons_zero, List.set_cons_succ]
    refine wpAnyH_take (i := 2) (oi := ⟨some 19, _, _, _, _, _⟩) (v := .int .u64 d) rfl (by kernel_rfl) (by kernel_rfl) (by kernel_rfl) (fun _ _ _ h => h) (Or.inl ⟨by rfl, fun W hW => (by obtain ⟨u0, u1⟩ := HSR.out W hW; go_simp)⟩) (by assumption) ?_
    try simp only [Act.put, List.setIfInBounds_toArray, List.set_cons_zero, List.set_cons_succ]
    refine wpAnyH_take (i := 3) (oi := ⟨some 20, _, _, _, _, _⟩) (v := .pointer (some ⟨zb + 1, 1, none⟩)) rfl (by kernel_rfl) (by kernel_rfl) (by kernel_rfl) (fun _ _ _ h => h) (Or.inl ⟨by rfl, fun W hW => (by go_simp)⟩) (by assumption) ?_
    try simp only [Act.put, List.setIfInBounds_toArray, List.set_cons_zero, List.set_cons_succ]
    refine wpAnyH_take (i := 4) (oi := ⟨some 21, _, _, _, _, _⟩) (v := .int .u64 nx) rfl (by kernel_rfl) (by kernel_rfl) (by kernel_rfl) (fun _ _ _ h => h) (Or.inl ⟨by rfl, fun W hW => (by obtain ⟨u0, u1⟩ := HSR.out W hW; go_simp)⟩) (by assumption) ?_
    try simp only [Act.put, List.setIfInBounds_toArray, List.set_cons_zero, List.set_cons_succ]
    refine wpAnyH_take (i := 7) (oi := ⟨some 24, _, _, _, _, _⟩) (v := .pointer (some ⟨zb, 2, none⟩)) rfl (by kernel_rfl) (by kernel_rfl) (by kernel_rfl) (fun _ _ _ h => h) (Or.inl ⟨by rfl, fun W hW => (by go_simp)⟩) (by assumption) ?_
    try simp only [Act.put, List.setIfInBounds_toArray, List.set_cons_zero, List.set_cons_succ]
    refine' wpAnyH_take (i := 8) (oi := ⟨some 25, _, _, _, _, _⟩) (v := _) rfl (by kernel_rfl) (by kernel_rfl) (by kernel_rfl) (fun _ _ _ h => h) (yieldsIf_load_mid (by rfl) _ _ rfl zb 2 rfl k16.toList _ (fun w h => HKR.out w h) HUK.out rfl HS16.out) (by assumption) ?_
    try simp only [Act.put, List.setIfInBounds_toArray, List.set_cons_zero, List.set_cons_succ]
    refine wpAnyH_ready (rs := [5, 6, 11]) (by kernel_rfl) (by simp) ?_
    refine AllReadyH.cons (o := ⟨some 22, _, _, _, _, _⟩) rfl (fun K hK => ?_) (AllReadyH.cons (o := ⟨some 23, _, _, _, _, _⟩) rfl (fun K hK => ?_) (AllReadyH.cons (o := ⟨some 27, _, _, _, _, _⟩) rfl (fun K hK => ?_) AllReadyH.nil))
    · rw [if_pos (by rfl)]
      go_simp
      obtain ⟨w1', hv⟩ : ∃ w1', w1' = w0.alloc (.map #[] 0) := ⟨_, rfl⟩
      obtain ⟨mS, hb⟩ : ∃ mS, mS = w0.heap.size := ⟨_, rfl⟩
      have hH2 : Below Bn w3 w1' := by rw [hv]; exact hHeld.alloc hz0 _
      have hz1 : Bn ≤ w1'.heap.size := by rw [hv, World.size_alloc]; omega
      have hbk : Below w0.heap.size w0 w1' := by rw [hv]; exact (Below.refl _ _).alloc (Nat.le_refl _) _
      have hS : UB w1' mS [] := ⟨#[], 0, by rw [hv, hb]; exact World.alloc_heap_new _ _, rfl⟩
      have hSl : Bn ≤ mS := by omega
      rw [← hv, ← hb]
      clear hv hb hbk
      refine hK.out _ _ hH2 (fun hHeld => ?_)
      clear hK K hH2
      try simp only [Act.put, List.setIfInBounds_toArray, List.set_cons_zero, List.set_cons_succ]
      refine wpAnyH_ready (rs := [6, 11]) (by kernel_rfl) (by simp) ?_
      refine AllReadyH.cons (o := ⟨some 23, _, _, _, _, _⟩) rfl (fun K hK => ?_) (AllReadyH.cons (o := ⟨some 27, _, _, _, _, _⟩) rfl (fun K hK => ?_) AllReadyH.nil)
      · rw [if_pos (by rfl)]
        go_simp
        obtain ⟨w2', hv⟩ : ∃ w2', w2' = w1'.alloc (.map #[] 0) := ⟨_, rfl⟩
        obtain ⟨mU, hb⟩ : ∃ mU, mU = w1'.heap.size := ⟨_, rfl⟩
        have hH2 : Below Bn w3 w2' := by rw [hv]; exact hHeld.alloc hz1 _
        have hz2 : Bn ≤ w2'.heap.size := by rw [hv, World.size_alloc]; omega
        have hbk : Below w1'.heap.size w1' w2' := by rw [hv]; exact (Below.refl _ _).alloc (Nat.le_refl _) _
        have hU : w2'.heap[mU]? = some (.map #[] 0) := by rw [hv, hb]; exact World.alloc_heap_new _ _
        have hUl : mU < w2'.heap.size := by rw [hv, hb, World.size_alloc]; omega
        have hUB : Bn ≤ mU := by omega
        have hSU : mS ≠ mU := by have := hS.lt; omega
        replace hS := hS.below hbk hS.lt
        rw [← hv, ← hb]
        clear hv hb hbk
        refine hK.out _ _ hH2 (fun hHeld => ?_)
        clear hK K hH2
        try simp only [Act.put, List.setIfInBounds_toArray, List.set_cons_zero, List.set_cons_succ]
        refine wpAnyH_ready (rs := [9, 11]) (by kernel_rfl) (by simp) ?_
        refine AllReadyH.cons (o := ⟨none, _, _, _, _, _⟩) rfl (fun K hK => ?_) (AllReadyH.cons (o := ⟨some 27, _, _, _, _, _⟩) rfl (fun K hK => ?_) AllReadyH.nil)
        · rw [if_pos (by rfl)]
          go_simp
          have hpu := kput w2' mU hU
          rw [show (.agg k16 : Value) = .agg k16.toList.toArray from rfl] at hpu
          obtain ⟨w3', hv⟩ : ∃ w3', w3' = w2'.putObj mU (.map #[{ key := .agg k16, val := .bool true, born := 0 }] 1) := ⟨_, rfl⟩
          have hkp : Keep1 mU w2' w3' := by rw [hv]; exact grownBy_putObj' _ _ _
          have hH2 : Below Bn w3 w3' := below_keep hHeld hkp hUB hz2
          have hz3 : Bn ≤ w3'.heap.size := Nat.le_trans hz2 hkp.size
          replace hS := hS.keep hkp hSU
          go_simp
          rw [← hv]
          clear hv hkp hpu
          refine hK.out _ _ hH2 (fun hHeld => ?_)
          clear hK K hH2
          try simp only [Act.put, List.setIfInBounds_toArray, List.set_cons_zero, List.set_cons_succ]
          refine wpAnyH_take (i := 10) (oi := ⟨some 26, _, _, _, _, _⟩) (v := .map (some mU)) rfl (by kernel_rfl) (by kernel_rfl) (by kernel_rfl) (fun _ _ _ h => h) (Or.inl ⟨by rfl, fun W hW => (by rfl)⟩) (by assumption) ?_
          try simp only [Act.put, List.setIfInBounds_toArray, List.set_cons_zero, List.set_cons_succ]
          refine wpAnyH_ready (rs := [11]) (by kernel_rfl) (by simp) ?_
          refine AllReadyH.cons (o := ⟨some 27, _, _, _, _, _⟩) rfl (fun K hK => ?_) AllReadyH.nil
          rw [if_pos (by rfl)]
          go_simp
          refine (exp_new w3').mono ?_
          rintro e w4' ⟨rfl, hbk⟩
          obtain ⟨eb, heb⟩ : ∃ eb, eb = w3'.heap.size := ⟨_, rfl⟩
          rw [← heb]
          dsimp only
          have hH2 : Below Bn w3 w4' := hHeld.trans (hbk.mono hz3)
          have hz4 : Bn ≤ w4'.heap.size := Nat.le_trans hz3 hbk.size
          replace hS := hS.below hbk hS.lt
          clear heb hbk
          refine hK.out _ _ hH2 (fun hHeld => ?_)
          clear hK K hH2
          try simp only [Act.put, List.setIfInBounds_toArray, List.set_cons_zero, List.set_cons_succ]
          refine wpAnyH_take (i := 12) (oi := ⟨some 28, _, _, _, _, _⟩) (v := .agg (rxArr d nx mS mU eb)) rfl (by kernel_rfl) (by kernel_rfl) (by kernel_rfl) (fun _ _ _ h => h) (Or.inl ⟨by rfl, fun W hW => (by kernel_rfl)⟩) (by assumption) ?_
          try simp only [Act.put, List.setIfInBounds_toArray, List.set_cons_zero, List.set_cons_succ]
          refine wpAnyH_ready (rs := [13]) (by kernel_rfl) (by simp) ?_
          refine AllReadyH.cons (o := ⟨some 29, _, _, _, _, _⟩) rfl (fun K hK => ?_) AllReadyH.nil
          rw [if_pos (by rfl)]
          go_simp
          obtain ⟨wv, hv⟩ : ∃ wv, wv = w4'.alloc (.cells (rxArr d nx mS mU eb) 75) := ⟨_, rfl⟩
          obtain ⟨rb, hrb⟩ : ∃ rb, rb = w4'.heap.size := ⟨_, rfl⟩
          have hR : Blk wv rb 75 (rxArr d nx mS mU eb) := by rw [hv, hrb]; exact Blk.new _ _ _
          have hH2 : Below Bn w3 wv := by rw [hv]; exact hHeld.alloc hz4 _
          have hUS : UB wv mS [] := by rw [hv]; exact hS.below ((Below.refl _ _).alloc (Nat.le_refl _) _) hS.lt
          have hne : rb ≠ mS := by have := hS.lt; omega
          rw [← hv, ← hrb]
          refine hK.out _ _ hH2 (fun hHeld => ?_)
          clear hK K
          try simp only [Act.put, List.setIfInBounds_toArray, List.set_cons_zero, List.set_cons_succ]
          refine wpAnyH_take (i := 14) (oi := ⟨some 6, _, _, _, _, _⟩) (v := .pointer (some ⟨rb, 0, none⟩)) rfl (by kernel_rfl) (by kernel_rfl) (by kernel_rfl) (fun _ _ _ h => h) (Or.inl ⟨by rfl, fun W hW => (by rfl)⟩) (by assumption) ?_
          try simp only [Act.put, List.setIfInBounds_toArray, List.set_cons_zero, List.set_cons_succ]
          refine wpAnyH_done (by kernel_rfl) ?_ _
          go_wp2
          go_meet
          exact ⟨rb, mS, mU, eb, rfl, hR, hUS, by omega, hSl, hne, hH2⟩
        · rw [if_pos (by rfl)]
          go_simp
          refine (exp_new w2').mono ?_
          rintro e w3' ⟨rfl, hbk⟩
          obtain ⟨eb, heb⟩ : ∃ eb, eb = w2'.heap.size := ⟨_, rfl⟩
          rw [← heb]
          dsimp only
          have hH2 : Below Bn w3 w3' := hHeld.trans (hbk.mono hz2)
          have hz3 : Bn ≤ w3'.heap.size := Nat.le_trans hz2 hbk.size
          replace hS := hS.below hbk hS.lt
          replace hU := (hbk.block mU hUl).trans hU
          replace hUl : mU < w3'.heap.size := Nat.lt_of_lt_of_le hUl hbk.size
          clear heb hbk
          refine hK.out _ _ hH2 (fun hHeld => ?_)
          clear hK K hH2
          try simp only [Act.put, List.setIfInBounds_toArray, List.set_cons_zero, List.set_cons_succ]
          refine wpAnyH_ready (rs := [9]) (by kernel_rfl) (by simp) ?_
          refine AllReadyH.cons (o := ⟨none, _, _, _, _, _⟩) rfl (fun K hK => ?_) AllReadyH.nil
          rw [if_pos (by rfl)]
          go_simp
          have hpu := kput w3' mU hU
          rw [show (.agg k16 : Value) = .agg k16.toList.toArray from rfl] at hpu
          obtain ⟨w4', hv⟩ : ∃ w4', w4' = w3'.putObj mU (.map #[{ key := .agg k16, val := .bool true, born := 0 }] 1) := ⟨_, rfl⟩
          have hkp : Keep1 mU w3' w4' := by rw [hv]; exact grownBy_putObj' _ _ _
          have hH2 : Below Bn w3 w4' := below_keep hHeld hkp hUB hz3
          have hz4 : Bn ≤ w4'.heap.size := Nat.le_trans hz3 hkp.size
          replace hS := hS.keep hkp hSU
          go_simp
          rw [← hv]
          clear hv hkp hpu
          refine hK.out _ _ hH2 (fun hHeld => ?_)
          clear hK K hH2
          try simp only [Act.put, List.setIfInBounds_toArray, List.set_cons_zero, List.set_cons_succ]
          refine wpAnyH_take (i := 10) (oi := ⟨some 26, _, _, _, _, _⟩) (v := .map (some mU)) rfl (by kernel_rfl) (by kernel_rfl) (by kernel_rfl) (fun _ _ _ h => h) (Or.inl ⟨by rfl, fun W hW => (by rfl)⟩) (by assumption) ?_
          try simp only [Act.put, List.setIfInBounds_toArray, List.set_cons_zero, List.set_cons_succ]
          refine wpAnyH_take (i := 12) (oi := ⟨some 28, _, _, _, _, _⟩) (v := .agg (rxArr d nx mS mU eb)) rfl (by kernel_rfl) (by kernel_rfl) (by kernel_rfl) (fun _ _ _ h => h) (Or.inl ⟨by rfl, fun W hW => (by kernel_rfl)⟩) (by assumption) ?_
          try simp only [Act.put, List.setIfInBounds_toArray, List.set_cons_zero, List.set_cons_succ]
          refine wpAnyH_ready (rs := [13]) (by kernel_rfl) (by simp) ?_
          refine AllReadyH.cons (o := ⟨some 29, _, _, _, _, _⟩) rfl (fun K hK => ?_) AllReadyH.nil
          rw [if_pos (by rfl)]
          go_simp
          obtain ⟨wv, hv⟩ : ∃ wv, wv = w4'.alloc (.cells (rxArr d nx mS mU eb) 75) := ⟨_, rfl⟩
          obtain ⟨rb, hrb⟩ : ∃ rb, rb = w4'.heap.size := ⟨_, rfl⟩
          have hR : Blk wv rb 75 (rxArr d nx mS mU eb) := by rw [hv, hrb]; exact Blk.new _ _ _
          have hH2 : Below Bn w3 wv := by rw [hv]; exact hHeld.alloc hz4 _
          have hUS : UB wv mS [] := by rw [hv]; exact hS.below ((Below.refl _ _).alloc (Nat.le_refl _) _) hS.lt
          have hne : rb ≠ mS := by have := hS.lt; omega
          rw [← hv, ← hrb]
          refine hK.out _ _ hH2 (fun hHeld => ?_)
          clear hK K
          try simp only [Act.put, List.setIfInBounds_toArray, List.set_cons_zero, List.set_cons_succ]
          refine wpAnyH_take (i := 14) (oi := ⟨some 6, _, _, _, _, _⟩) (v := .pointer (some ⟨rb, 0, none⟩)) rfl (by kernel_rfl) (by kernel_rfl) (by kernel_rfl) (fun _ _ _ h => h) (Or.inl ⟨by rfl, fun W hW => (by rfl)⟩) (by assumption) ?_
          try simp only [Act.put, List.setIfInBounds_toArray, List.set_cons_zero, List.set_cons_succ]
          refine wpAnyH_done (by kernel_rfl) ?_ _
          go_wp2
          go_meet
          exact ⟨rb, mS, mU, eb, rfl, hR, hUS, by omega, hSl, hne, hH2⟩
      · rw [if_pos (by rfl)]
        go_simp
        refine (exp_new w1').mono ?_
        rintro e w2' ⟨rfl, hbk⟩
        obtain ⟨eb, heb⟩ : ∃ eb, eb = w1'.heap.size := ⟨_, rfl⟩
        rw [← heb]
        dsimp only
        have hH2 : Below Bn w3 w2' := hHeld.trans (hbk.mono hz1)
        have hz2 : Bn ≤ w2'.heap.size := Nat.le_trans hz1 hbk.size
        replace hS := hS.below hbk hS.lt
        clear heb hbk
        refine hK.out _ _ hH2 (fun hHeld => ?_)
        clear hK K hH2
        try simp only [Act.put, List.setIfInBounds_toArray, List.set_cons_zero, List.set_cons_succ]
        refine wpAnyH_ready (rs := [6]) (by kernel_rfl) (by simp) ?_
        refine AllReadyH.cons (o := ⟨some 23, _, _, _, _, _⟩) rfl (fun K hK => ?_) AllReadyH.nil
        rw [if_pos (by rfl)]
        go_simp
        obtain ⟨w3', hv⟩ : ∃ w3', w3' = w2'.alloc (.map #[] 0) := ⟨_, rfl⟩
        obtain ⟨mU, hb⟩ : ∃ mU, mU = w2'.heap.size := ⟨_, rfl⟩
        have hH2 : Below Bn w3 w3' := by rw [hv]; exact hHeld.alloc hz2 _
        have hz3 : Bn ≤ w3'.heap.size := by rw [hv, World.size_alloc]; omega
        have hbk : Below w2'.heap.size w2' w3' := by rw [hv]; exact (Below.refl _ _).alloc (Nat.le_refl _) _
        have hU : w3'.heap[mU]? = some (.map #[] 0) := by rw [hv, hb]; exact World.alloc_heap_new _ _
        have hUl : mU < w3'.heap.size := by rw [hv, hb, World.size_alloc]; omega
        have hUB : Bn ≤ mU := by omega
        have hSU : mS ≠ mU := by have := hS.lt; omega
        replace hS := hS.below hbk hS.lt
        rw [← hv, ← hb]
        clear hv hb hbk
        refine hK.out _ _ hH2 (fun hHeld => ?_)
        clear hK K hH2
        try simp only [Act.put, List.setIfInBounds_toArray, List.set_cons_zero, List.set_cons_succ]
        refine wpAnyH_ready (rs := [9]) (by kernel_rfl) (by simp) ?_
        refine AllReadyH.cons (o := ⟨none, _, _, _, _, _⟩) rfl (fun K hK => ?_) AllReadyH.nil
        rw [if_pos (by rfl)]
        go_simp
        have hpu := kput w3' mU hU
        rw [show (.agg k16 : Value) = .agg k16.toList.toArray from rfl] at hpu
        obtain ⟨w4', hv⟩ : ∃ w4', w4' = w3'.putObj mU (.map #[{ key := .agg k16, val := .bool true, born := 0 }] 1) := ⟨_, rfl⟩
        have hkp : Keep1 mU w3' w4' := by rw [hv]; exact grownBy_putObj' _ _ _
        have hH2 : Below Bn w3 w4' := below_keep hHeld hkp hUB hz3
        have hz4 : Bn ≤ w4'.heap.size := Nat.le_trans hz3 hkp.size
        replace hS := hS.keep hkp hSU
        go_simp
        rw [← hv]
        clear hv hkp hpu
        refine hK.out _ _ hH2 (fun hHeld => ?_)
        clear hK K hH2
        try simp only [Act.put, List.setIfInBounds_toArray, List.set_cons_zero, List.set_cons_succ]
        refine wpAnyH_take (i := 10) (oi := ⟨some 26, _, _, _, _, _⟩) (v := .map (some mU)) rfl (by kernel_rfl) (by kernel_rfl) (by kernel_rfl) (fun _ _ _ h => h) (Or.inl ⟨by rfl, fun W hW => (by rfl)⟩) (by assumption) ?_
        try simp only [Act.put, List.setIfInBounds_toArray, List.set_cons_zero, List.set_cons_succ]
        refine wpAnyH_take (i := 12) (oi := ⟨some 28, _, _, _, _, _⟩) (v := .agg (rxArr d nx mS mU eb)) rfl (by kernel_rfl) (by kernel_rfl) (by kernel_rfl) (fun _ _ _ h => h) (Or.inl ⟨by rfl, fun W hW => (by kernel_rfl)⟩) (by assumption) ?_
        try simp only [Act.put, List.setIfInBounds_toArray, List.set_cons_zero, List.set_cons_succ]
        refine wpAnyH_ready (rs := [13]) (by kernel_rfl) (by simp) ?_
        refine AllReadyH.cons (o := ⟨some 29, _, _, _, _, _⟩) rfl (fun K hK => ?_) AllReadyH.nil
        rw [if_pos (by rfl)]
        go_simp
        obtain ⟨wv, hv⟩ : ∃ wv, wv = w4'.alloc (.cells (rxArr d nx mS mU eb) 75) := ⟨_, rfl⟩
        obtain ⟨rb, hrb⟩ : ∃ rb, rb = w4'.heap.size := ⟨_, rfl⟩
        have hR : Blk wv rb 75 (rxArr d nx mS mU eb) := by rw [hv, hrb]; exact Blk.new _ _ _
        have hH2 : Below Bn w3 wv := by rw [hv]; exact hHeld.alloc hz4 _
        have hUS : UB wv mS [] := by rw [hv]; exact hS.below ((Below.refl _ _).alloc (Nat.le_refl _) _) hS.lt
        have hne : rb ≠ mS := by have := hS.lt; omega
        rw [← hv, ← hrb]
        refine hK.out _ _ hH2 (fun hHeld => ?_)
        clear hK K
        try simp only [Act.put, List.setIfInBounds_toArray, List.set_cons_zero, List.set_cons_succ]
        refine wpAnyH_take (i := 14) (oi := ⟨some 6, _, _, _, _, _⟩) (v := .pointer (some ⟨rb, 0, none⟩)) rfl (by kernel_rfl) (by kernel_rfl) (by kernel_rfl) (fun _ _ _ h => h) (Or.inl ⟨by rfl, fun W hW => (by rfl)⟩) (by assumption) ?_
        try simp only [Act.put, List.setIfInBounds_toArray, List.set_cons_zero, List.set_cons_succ]
        refine wpAnyH_done (by kernel_rfl) ?_ _
        go_wp2
        go_meet
        exact ⟨rb, mS, mU, eb, rfl, hR, hUS, by omega, hSl, hne, hH2⟩
    · rw [if_pos (by rfl)]
      go_simp
      obtain ⟨w1', hv⟩ : ∃ w1', w1' = w0.alloc (.map #[] 0) := ⟨_, rfl⟩
      obtain ⟨mU, hb⟩ : ∃ mU, mU = w0.heap.size := ⟨_, rfl⟩
      have hH2 : Below Bn w3 w1' := by rw [hv]; exact hHeld.alloc hz0 _
      have hz1 : Bn ≤ w1'.heap.size := by rw [hv, World.size_alloc]; omega
      have hbk : Below w0.heap.size w0 w1' := by rw [hv]; exact (Below.refl _ _).alloc (Nat.le_refl _) _
      have hU : w1'.heap[mU]? = some (.map #[] 0) := by rw [hv, hb]; exact World.alloc_heap_new _ _
      have hUl : mU < w1'.heap.size := by rw [hv, hb, World.size_alloc]; omega
      have hUB : Bn ≤ mU := by omega
      rw [← hv, ← hb]
      clear hv hb hbk
      refine hK.out _ _ hH2 (fun hHeld => ?_)
      clear hK K hH2
      try simp only [Act.put, List.setIfInBounds_toArray, List.set_cons_zero, List.set_cons_succ]
      refine wpAnyH_ready (rs := [5, 9, 11]) (by kernel_rfl) (by simp) ?_
      refine AllReadyH.cons (o := ⟨some 22, _, _, _, _, _⟩) rfl (fun K hK => ?_) (AllReadyH.cons (o := ⟨none, _, _, _, _, _⟩) rfl (fun K hK => ?_) (AllReadyH.cons (o := ⟨some 27, _, _, _, _, _⟩) rfl (fun K hK => ?_) AllReadyH.nil))
      · rw [if_pos (by rfl)]
        go_simp
        obtain ⟨w2', hv⟩ : ∃ w2', w2' = w1'.alloc (.map #[] 0) := ⟨_, rfl⟩
        obtain ⟨mS, hb⟩ : ∃ mS, mS = w1'.heap.size := ⟨_, rfl⟩
        have hH2 : Below Bn w3 w2' := by rw [hv]; exact hHeld.alloc hz1 _
        have hz2 : Bn ≤ w2'.heap.size := by rw [hv, World.size_alloc]; omega
        have hbk : Below w1'.heap.size w1' w2' := by rw [hv]; exact (Below.refl _ _).alloc (Nat.le_refl _) _
        have hS : UB w2' mS [] := ⟨#[], 0, by rw [hv, hb]; exact World.alloc_heap_new _ _, rfl⟩
        have hSl : Bn ≤ mS := by omega
        replace hU := (hbk.block mU hUl).trans hU
        have hSU : mS ≠ mU := by omega
        replace hUl : mU < w2'.heap.size := Nat.lt_of_lt_of_le hUl hbk.size
        rw [← hv, ← hb]
        clear hv hb hbk
        refine hK.out _ _ hH2 (fun hHeld => ?_)
        clear hK K hH2
        try simp only [Act.put, List.setIfInBounds_toArray, List.set_cons_zero, List.set_cons_succ]
        refine wpAnyH_ready (rs := [9, 11]) (by kernel_rfl) (by simp) ?_
        refine AllReadyH.cons (o := ⟨none, _, _, _, _, _⟩) rfl (fun K hK => ?_) (AllReadyH.cons (o := ⟨some 27, _, _, _, _, _⟩) rfl (fun K hK => ?_) AllReadyH.nil)
        · rw [if_pos (by rfl)]
          go_simp
          have hpu := kput w2' mU hU
          rw [show (.agg k16 : Value) = .agg k16.toList.toArray from rfl] at hpu
          obtain ⟨w3', hv⟩ : ∃ w3', w3' = w2'.putObj mU (.map #[{ key := .agg k16, val := .bool true, born := 0 }] 1) := ⟨_, rfl⟩
          have hkp : Keep1 mU w2' w3' := by rw [hv]; exact grownBy_putObj' _ _ _
          have hH2 : Below Bn w3 w3' := below_keep hHeld hkp hUB hz2
          have hz3 : Bn ≤ w3'.heap.size := Nat.le_trans hz2 hkp.size
          replace hS := hS.keep hkp hSU
          go_simp
          rw [← hv]
          clear hv hkp hpu
          refine hK.out _ _ hH2 (fun hHeld => ?_)
          clear hK K hH2
          try simp only [Act.put, List.setIfInBounds_toArray, List.set_cons_zero, List.set_cons_succ]
          refine wpAnyH_take (i := 10) (oi := ⟨some 26, _, _, _, _, _⟩) (v := .map (some mU)) rfl (by kernel_rfl) (by kernel_rfl) (by kernel_rfl) (fun _ _ _ h => h) (Or.inl ⟨by rfl, fun W hW => (by rfl)⟩) (by assumption) ?_
          try simp only [Act.put, List.setIfInBounds_toArray, List.set_cons_zero, List.set_cons_succ]
          refine wpAnyH_ready (rs := [11]) (by kernel_rfl) (by simp) ?_
          refine AllReadyH.cons (o := ⟨some 27, _, _, _, _, _⟩) rfl (fun K hK => ?_) AllReadyH.nil
          rw [if_pos (by rfl)]
          go_simp
          refine (exp_new w3').mono ?_
          rintro e w4' ⟨rfl, hbk⟩
          obtain ⟨eb, heb⟩ : ∃ eb, eb = w3'.heap.size := ⟨_, rfl⟩
          rw [← heb]
          dsimp only
          have hH2 : Below Bn w3 w4' := hHeld.trans (hbk.mono hz3)
          have hz4 : Bn ≤ w4'.heap.size := Nat.le_trans hz3 hbk.size
          replace hS := hS.below hbk hS.lt
          clear heb hbk
          refine hK.out _ _ hH2 (fun hHeld => ?_)
          clear hK K hH2
          try simp only [Act.put, List.setIfInBounds_toArray, List.set_cons_zero, List.set_cons_succ]
          refine wpAnyH_take (i := 12) (oi := ⟨some 28, _, _, _, _, _⟩) (v := .agg (rxArr d nx mS mU eb)) rfl (by kernel_rfl) (by kernel_rfl) (by kernel_rfl) (fun _ _ _ h => h) (Or.inl ⟨by rfl, fun W hW => (by kernel_rfl)⟩) (by assumption) ?_
          try simp only [Act.put, List.setIfInBounds_toArray, List.set_cons_zero, List.set_cons_succ]
          refine wpAnyH_ready (rs := [13]) (by kernel_rfl) (by simp) ?_
          refine AllReadyH.cons (o := ⟨some 29, _, _, _, _, _⟩) rfl (fun K hK => ?_) AllReadyH.nil
          rw [if_pos (by rfl)]
          go_simp
          obtain ⟨wv, hv⟩ : ∃ wv, wv = w4'.alloc (.cells (rxArr d nx mS mU eb) 75) := ⟨_, rfl⟩
          obtain ⟨rb, hrb⟩ : ∃ rb, rb = w4'.heap.size := ⟨_, rfl⟩
          have hR : Blk wv rb 75 (rxArr d nx mS mU eb) := by rw [hv, hrb]; exact Blk.new _ _ _
          have hH2 : Below Bn w3 wv := by rw [hv]; exact hHeld.alloc hz4 _
          have hUS : UB wv mS [] := by rw [hv]; exact hS.below ((Below.refl _ _).alloc (Nat.le_refl _) _) hS.lt
          have hne : rb ≠ mS := by have := hS.lt; omega
          rw [← hv, ← hrb]
          refine hK.out _ _ hH2 (fun hHeld => ?_)
          clear hK K
          try simp only [Act.put, List.setIfInBounds_toArray, List.set_cons_zero, List.set_cons_succ]
          refine wpAnyH_take (i := 14) (oi := ⟨some 6, _, _, _, _, _⟩) (v := .pointer (some ⟨rb, 0, none⟩)) rfl (by kernel_rfl) (by kernel_rfl) (by kernel_rfl) (fun _ _ _ h => h) (Or.inl ⟨by rfl, fun W hW => (by rfl)⟩) (by assumption) ?_
          try simp only [Act.put, List.setIfInBounds_toArray, List.set_cons_zero, List.set_cons_succ]
          refine wpAnyH_done (by kernel_rfl) ?_ _
          go_wp2
          go_meet
          exact ⟨rb, mS, mU, eb, rfl, hR, hUS, by omega, hSl, hne, hH2⟩
        · rw [if_pos (by rfl)]
          go_simp
          refine (exp_new w2').mono ?_
          rintro e w3' ⟨rfl, hbk⟩
          obtain ⟨eb, heb⟩ : ∃ eb, eb = w2'.heap.size := ⟨_, rfl⟩
          rw [← heb]
          dsimp only
          have hH2 : Below Bn w3 w3' := hHeld.trans (hbk.mono hz2)
          have hz3 : Bn ≤ w3'.heap.size := Nat.le_trans hz2 hbk.size
          replace hS := hS.below hbk hS.lt
          replace hU := (hbk.block mU hUl).trans hU
          replace hUl : mU < w3'.heap.size := Nat.lt_of_lt_of_le hUl hbk.size
          clear heb hbk
          refine hK.out _ _ hH2 (fun hHeld => ?_)
          clear hK K hH2
          try simp only [Act.put, List.setIfInBounds_toArray, List.set_cons_zero, List.set_cons_succ]
          refine wpAnyH_ready (rs := [9]) (by kernel_rfl) (by simp) ?_
          refine AllReadyH.cons (o := ⟨none, _, _, _, _, _⟩) rfl (fun K hK => ?_) AllReadyH.nil
          rw [if_pos (by rfl)]
          go_simp
          have hpu := kput w3' mU hU
          rw [show (.agg k16 : Value) = .agg k16.toList.toArray from rfl] at hpu
          obtain ⟨w4', hv⟩ : ∃ w4', w4' = w3'.putObj mU (.map #[{ key := .agg k16, val := .bool true, born := 0 }] 1) := ⟨_, rfl⟩
          have hkp : Keep1 mU w3' w4' := by rw [hv]; exact grownBy_putObj' _ _ _
          have hH2 : Below Bn w3 w4' := below_keep hHeld hkp hUB hz3
          have hz4 : Bn ≤ w4'.heap.size := Nat.le_trans hz3 hkp.size
          replace hS := hS.keep hkp hSU
          go_simp
          rw [← hv]
          clear hv hkp hpu
          refine hK.out _ _ hH2 (fun hHeld => ?_)
          clear hK K hH2
          try simp only [Act.put, List.setIfInBounds_toArray, List.set_cons_zero, List.set_cons_succ]
          refine wpAnyH_take (i := 10) (oi := ⟨some 26, _, _, _, _, _⟩) (v := .map (some mU)) rfl (by kernel_rfl) (by kernel_rfl) (by kernel_rfl) (fun _ _ _ h => h) (Or.inl ⟨by rfl, fun W hW => (by rfl)⟩) (by assumption) ?_
          try simp only [Act.put, List.setIfInBounds_toArray, List.set_cons_zero, List.set_cons_succ]
          refine wpAnyH_take (i := 12) (oi := ⟨some 28, _, _, _, _, _⟩) (v := .agg (rxArr d nx mS mU eb)) rfl (by kernel_rfl) (by kernel_rfl) (by kernel_rfl) (fun _ _ _ h => h) (Or.inl ⟨by rfl, fun W hW => (by kernel_rfl)⟩) (by assumption) ?_
          try simp only [Act.put, List.setIfInBounds_toArray, List.set_cons_zero, List.set_cons_succ]
          refine wpAnyH_ready (rs := [13]) (by kernel_rfl) (by simp) ?_
          refine AllReadyH.cons (o := ⟨some 29, _, _, _, _, _⟩) rfl (fun K hK => ?_) AllReadyH.nil
          rw [if_pos (by rfl)]
          go_simp
          obtain ⟨wv, hv⟩ : ∃ wv, wv = w4'.alloc (.cells (rxArr d nx mS mU eb) 75) := ⟨_, rfl⟩
          obtain ⟨rb, hrb⟩ : ∃ rb, rb = w4'.heap.size := ⟨_, rfl⟩
          have hR : Blk wv rb 75 (rxArr d nx mS mU eb) := by rw [hv, hrb]; exact Blk.new _ _ _
          have hH2 : Below Bn w3 wv := by rw [hv]; exact hHeld.alloc hz4 _
          have hUS : UB wv mS [] := by rw [hv]; exact hS.below ((Below.refl _ _).alloc (Nat.le_refl _) _) hS.lt
          have hne : rb ≠ mS := by have := hS.lt; omega
          rw [← hv, ← hrb]
          refine hK.out _ _ hH2 (fun hHeld => ?_)
          clear hK K
          try simp only [Act.put, List.setIfInBounds_toArray, List.set_cons_zero, List.set_cons_succ]
          refine wpAnyH_take (i := 14) (oi := ⟨some 6, _, _, _, _, _⟩) (v := .pointer (some ⟨rb, 0, none⟩)) rfl (by kernel_rfl) (by kernel_rfl) (by kernel_rfl) (fun _ _ _ h => h) (Or.inl ⟨by rfl, fun W hW => (by rfl)⟩) (by assumption) ?_
          try simp only [Act.put, List.setIfInBounds_toArray, List.set_cons_zero, List.set_cons_succ]
          refine wpAnyH_done (by kernel_rfl) ?_ _
          go_wp2
          go_meet
          exact ⟨rb, mS, mU, eb, rfl, hR, hUS, by omega, hSl, hne, hH2⟩
      · rw [if_pos (by rfl)]
        go_simp
        have hpu := kput w1' mU hU
        rw [show (.agg k16 : Value) = .agg k16.toList.toArray from rfl] at hpu
        obtain ⟨w2', hv⟩ : ∃ w2', w2' = w1'.putObj mU (.map #[{ key := .agg k16, val := .bool true, born := 0 }] 1) := ⟨_, rfl⟩
        have hkp : Keep1 mU w1' w2' := by rw [hv]; exact grownBy_putObj' _ _ _
        have hH2 : Below Bn w3 w2' := below_keep hHeld hkp hUB hz1
        have hz2 : Bn ≤ w2'.heap.size := Nat.le_trans hz1 hkp.size
        go_simp
        rw [← hv]
        clear hv hkp hpu
        refine hK.out _ _ hH2 (fun hHeld => ?_)
        clear hK K hH2
        try simp only [Act.put, List.setIfInBounds_toArray, List.set_cons_zero, List.set_cons_succ]
        refine wpAnyH_take (i := 10) (oi := ⟨some 26, _, _, _, _, _⟩) (v := .map (some mU)) rfl (by kernel_rfl) (by kernel_rfl) (by kernel_rfl) (fun _ _ _ h => h) (Or.inl ⟨by rfl, fun W hW => (by rfl)⟩) (by assumption) ?_
        try simp only [Act.put, List.setIfInBounds_toArray, List.set_cons_zero, List.set_cons_succ]
        refine wpAnyH_ready (rs := [5, 11]) (by kernel_rfl) (by simp) ?_
        refine AllReadyH.cons (o := ⟨some 22, _, _, _, _, _⟩) rfl (fun K hK => ?_) (AllReadyH.cons (o := ⟨some 27, _, _, _, _, _⟩) rfl (fun K hK => ?_) AllReadyH.nil)
        · rw [if_pos (by rfl)]
          go_simp
          obtain ⟨w3', hv⟩ : ∃ w3', w3' = w2'.alloc (.map #[] 0) := ⟨_, rfl⟩
          obtain ⟨mS, hb⟩ : ∃ mS, mS = w2'.heap.size := ⟨_, rfl⟩
          have hH2 : Below Bn w3 w3' := by rw [hv]; exact hHeld.alloc hz2 _
          have hz3 : Bn ≤ w3'.heap.size := by rw [hv, World.size_alloc]; omega
          have hbk : Below w2'.heap.size w2' w3' := by rw [hv]; exact (Below.refl _ _).alloc (Nat.le_refl _) _
          have hS : UB w3' mS [] := ⟨#[], 0, by rw [hv, hb]; exact World.alloc_heap_new _ _, rfl⟩
          have hSl : Bn ≤ mS := by omega
          rw [← hv, ← hb]
          clear hv hb hbk
          refine hK.out _ _ hH2 (fun hHeld => ?_)
          clear hK K hH2
          try simp only [Act.put, List.setIfInBounds_toArray, List.set_cons_zero, List.set_cons_succ]
          refine wpAnyH_ready (rs := [11]) (by kernel_rfl) (by simp) ?_
          refine AllReadyH.cons (o := ⟨some 27, _, _, _, _, _⟩) rfl (fun K hK => ?_) AllReadyH.nil
          rw [if_pos (by rfl)]
          go_simp
          refine (exp_new w3').mono ?_
          rintro e w4' ⟨rfl, hbk⟩
          obtain ⟨eb, heb⟩ : ∃ eb, eb = w3'.heap.size := ⟨_, rfl⟩
          rw [← heb]
          dsimp only
          have hH2 : Below Bn w3 w4' := hHeld.trans (hbk.mono hz3)
          have hz4 : Bn ≤ w4'.heap.size := Nat.le_trans hz3 hbk.size
          replace hS := hS.below hbk hS.lt
          clear heb hbk
          refine hK.out _ _ hH2 (fun hHeld => ?_)
          clear hK K hH2
          try simp only [Act.put, List.setIfInBounds_toArray, List.set_cons_zero, List.set_cons_succ]
          refine wpAnyH_take (i := 12) (oi := ⟨some 28, _, _, _, _, _⟩) (v := .agg (rxArr d nx mS mU eb)) rfl (by kernel_rfl) (by kernel_rfl) (by kernel_rfl) (fun _ _ _ h => h) (Or.inl ⟨by rfl, fun W hW => (by kernel_rfl)⟩) (by assumption) ?_
          try simp only [Act.put, List.setIfInBounds_toArray, List.set_cons_zero, List.set_cons_succ]
          refine wpAnyH_ready (rs := [13]) (by kernel_rfl) (by simp) ?_
          refine AllReadyH.cons (o := ⟨some 29, _, _, _, _, _⟩) rfl (fun K hK => ?_) AllReadyH.nil
          rw [if_pos (by rfl)]
          go_simp
          obtain ⟨wv, hv⟩ : ∃ wv, wv = w4'.alloc (.cells (rxArr d nx mS mU eb) 75) := ⟨_, rfl⟩
          obtain ⟨rb, hrb⟩ : ∃ rb, rb = w4'.heap.size := ⟨_, rfl⟩
          have hR : Blk wv rb 75 (rxArr d nx mS mU eb) := by rw [hv, hrb]; exact Blk.new _ _ _
          have hH2 : Below Bn w3 wv := by rw [hv]; exact hHeld.alloc hz4 _
          have hUS : UB wv mS [] := by rw [hv]; exact hS.below ((Below.refl _ _).alloc (Nat.le_refl _) _) hS.lt
          have hne : rb ≠ mS := by have := hS.lt; omega
          rw [← hv, ← hrb]
          refine hK.out _ _ hH2 (fun hHeld => ?_)
          clear hK K
          try simp only [Act.put, List.setIfInBounds_toArray, List.set_cons_zero, List.set_cons_succ]
          refine wpAnyH_take (i := 14) (oi := ⟨some 6, _, _, _, _, _⟩) (v := .pointer (some ⟨rb, 0, none⟩)) rfl (by kernel_rfl) (by kernel_rfl) (by kernel_rfl) (fun _ _ _ h => h) (Or.inl ⟨by rfl, fun W hW => (by rfl)⟩) (by assumption) ?_
          try simp only [Act.put, List.setIfInBounds_toArray, List.set_cons_zero, List.set_cons_succ]
          refine wpAnyH_done (by kernel_rfl) ?_ _
          go_wp2
          go_meet
          exact ⟨rb, mS, mU, eb, rfl, hR, hUS, by omega, hSl, hne, hH2⟩
        · rw [if_pos (by rfl)]
          go_simp
          refine (exp_new w2').mono ?_
          rintro e w3' ⟨rfl, hbk⟩
          obtain ⟨eb, heb⟩ : ∃ eb, eb = w2'.heap.size := ⟨_, rfl⟩
          rw [← heb]
          dsimp only
          have hH2 : Below Bn w3 w3' := hHeld.trans (hbk.mono hz2)
          have hz3 : Bn ≤ w3'.heap.size := Nat.le_trans hz2 hbk.size
          clear heb hbk
          refine hK.out _ _ hH2 (fun hHeld => ?_)
          clear hK K hH2
          try simp only [Act.put, List.setIfInBounds_toArray, List.set_cons_zero, List.set_cons_succ]
          refine wpAnyH_ready (rs := [5]) (by kernel_rfl) (by simp) ?_
          refine AllReadyH.cons (o := ⟨some 22, _, _, _, _, _⟩) rfl (fun K hK => ?_) AllReadyH.nil
          rw [if_pos (by rfl)]
          go_simp
          obtain ⟨w4', hv⟩ : ∃ w4', w4' = w3'.alloc (.map #[] 0) := ⟨_, rfl⟩
          obtain ⟨mS, hb⟩ : ∃ mS, mS = w3'.heap.size := ⟨_, rfl⟩
          have hH2 : Below Bn w3 w4' := by rw [hv]; exact hHeld.alloc hz3 _
          have hz4 : Bn ≤ w4'.heap.size := by rw [hv, World.size_alloc]; omega
          have hbk : Below w3'.heap.size w3' w4' := by rw [hv]; exact (Below.refl _ _).alloc (Nat.le_refl _) _
          have hS : UB w4' mS [] := ⟨#[], 0, by rw [hv, hb]; exact World.alloc_heap_new _ _, rfl⟩
          have hSl : Bn ≤ mS := by omega
          rw [← hv, ← hb]
          clear hv hb hbk
          refine hK.out _ _ hH2 (fun hHeld => ?_)
          clear hK K hH2
          try simp only [Act.put, List.setIfInBounds_toArray, List.set_cons_zero, List.set_cons_succ]
          refine wpAnyH_take (i := 12) (oi := ⟨some 28, _, _, _, _, _⟩) (v := .agg (rxArr d nx mS mU eb)) rfl (by kernel_rfl) (by kernel_rfl) (by kernel_rfl) (fun _ _ _ h => h) (Or.inl ⟨by rfl, fun W hW => (by kernel_rfl)⟩) (by assumption) ?_
          try simp only [Act.put, List.setIfInBounds_toArray, List.set_cons_zero, List.set_cons_succ]
          refine wpAnyH_ready (rs := [13]) (by kernel_rfl) (by simp) ?_
          refine AllReadyH.cons (o := ⟨some 29, _, _, _, _, _⟩) rfl (fun K hK => ?_) AllReadyH.nil
          rw [if_pos (by rfl)]
          go_simp
          obtain ⟨wv, hv⟩ : ∃ wv, wv = w4'.alloc (.cells (rxArr d nx mS mU eb) 75) := ⟨_, rfl⟩
          obtain ⟨rb, hrb⟩ : ∃ rb, rb = w4'.heap.size := ⟨_, rfl⟩
          have hR : Blk wv rb 75 (rxArr d nx mS mU eb) := by rw [hv, hrb]; exact Blk.new _ _ _
          have hH2 : Below Bn w3 wv := by rw [hv]; exact hHeld.alloc hz4 _
          have hUS : UB wv mS [] := by rw [hv]; exact hS.below ((Below.refl _ _).alloc (Nat.le_refl _) _) hS.lt
          have hne : rb ≠ mS := by have := hS.lt; omega
          rw [← hv, ← hrb]
          refine hK.out _ _ hH2 (fun hHeld => ?_)
          clear hK K
          try simp only [Act.put, List.setIfInBounds_toArray, List.set_cons_zero, List.set_cons_succ]
          refine wpAnyH_take (i := 14) (oi := ⟨some 6, _, _, _, _, _⟩) (v := .pointer (some ⟨rb, 0, none⟩)) rfl (by kernel_rfl) (by kernel_rfl) (by kernel_rfl) (fun _ _ _ h => h) (Or.inl ⟨by rfl, fun W hW => (by rfl)⟩) (by assumption) ?_
          try simp only [Act.put, List.setIfInBounds_toArray, List.set_cons_zero, List.set_cons_succ]
          refine wpAnyH_done (by kernel_rfl) ?_ _
          go_wp2
          go_meet
          exact ⟨rb, mS, mU, eb, rfl, hR, hUS, by omega, hSl, hne, hH2⟩
      · rw [if_pos (by rfl)]
        go_simp
        refine (exp_new w1').mono ?_
        rintro e w2' ⟨rfl, hbk⟩
        obtain ⟨eb, heb⟩ : ∃ eb, eb = w1'.heap.size := ⟨_, rfl⟩
        rw [← heb]
        dsimp only
        have hH2 : Below Bn w3 w2' := hHeld.trans (hbk.mono hz1)
        have hz2 : Bn ≤ w2'.heap.size := Nat.le_trans hz1 hbk.size
        replace hU := (hbk.block mU hUl).trans hU
        replace hUl : mU < w2'.heap.size := Nat.lt_of_lt_of_le hUl hbk.size
        clear heb hbk
        refine hK.out _ _ hH2 (fun hHeld => ?_)
        clear hK K hH2
        try simp only [Act.put, List.setIfInBounds_toArray, List.set_cons_zero, List.set_cons_succ]
        refine wpAnyH_ready (rs := [5, 9]) (by kernel_rfl) (by simp) ?_
        refine AllReadyH.cons (o := ⟨some 22, _, _, _, _, _⟩) rfl (fun K hK => ?_) (AllReadyH.cons (o := ⟨none, _, _, _, _, _⟩) rfl (fun K hK => ?_) AllReadyH.nil)
        · rw [if_pos (by rfl)]
          go_simp
          obtain ⟨w3', hv⟩ : ∃ w3', w3' = w2'.alloc (.map #[] 0) := ⟨_, rfl⟩
          obtain ⟨mS, hb⟩ : ∃ mS, mS = w2'.heap.size := ⟨_, rfl⟩
          have hH2 : Below Bn w3 w3' := by rw [hv]; exact hHeld.alloc hz2 _
          have hz3 : Bn ≤ w3'.heap.size := by rw [hv, World.size_alloc]; omega
          have hbk : Below w2'.heap.size w2' w3' := by rw [hv]; exact (Below.refl _ _).alloc (Nat.le_refl _) _
          have hS : UB w3' mS [] := ⟨#[], 0, by rw [hv, hb]; exact World.alloc_heap_new _ _, rfl⟩
          have hSl : Bn ≤ mS := by omega
          replace hU := (hbk.block mU hUl).trans hU
          have hSU : mS ≠ mU := by omega
          replace hUl : mU < w3'.heap.size := Nat.lt_of_lt_of_le hUl hbk.size
          rw [← hv, ← hb]
          clear hv hb hbk
          refine hK.out _ _ hH2 (fun hHeld => ?_)
          clear hK K hH2
          try simp only [Act.put, List.setIfInBounds_toArray, List.set_cons_zero, List.set_cons_succ]
          refine wpAnyH_ready (rs := [9]) (by kernel_rfl) (by simp) ?_
          refine AllReadyH.cons (o := ⟨none, _, _, _, _, _⟩) rfl (fun K hK => ?_) AllReadyH.nil
          rw [if_pos (by rfl)]
          go_simp
          have hpu := kput w3' mU hU
          rw [show (.agg k16 : Value) = .agg k16.toList.toArray from rfl] at hpu
          obtain ⟨w4', hv⟩ : ∃ w4', w4' = w3'.putObj mU (.map #[{ key := .agg k16, val := .bool true, born := 0 }] 1) := ⟨_, rfl⟩
          have hkp : Keep1 mU w3' w4' := by rw [hv]; exact grownBy_putObj' _ _ _
          have hH2 : Below Bn w3 w4' := below_keep hHeld hkp hUB hz3
          have hz4 : Bn ≤ w4'.heap.size := Nat.le_trans hz3 hkp.size
          replace hS := hS.keep hkp hSU
          go_simp
          rw [← hv]
          clear hv hkp hpu
          refine hK.out _ _ hH2 (fun hHeld => ?_)
          clear hK K hH2
          try simp only [Act.put, List.setIfInBounds_toArray, List.set_cons_zero, List.set_cons_succ]
          refine wpAnyH_take (i := 10) (oi := ⟨some 26, _, _, _, _, _⟩) (v := .map (some mU)) rfl (by kernel_rfl) (by kernel_rfl) (by kernel_rfl) (fun _ _ _ h => h) (Or.inl ⟨by rfl, fun W hW => (by rfl)⟩) (by assumption) ?_
          try simp only [Act.put, List.setIfInBounds_toArray, List.set_cons_zero, List.set_cons_succ]
          refine wpAnyH_take (i := 12) (oi := ⟨some 28, _, _, _, _, _⟩) (v := .agg (rxArr d nx mS mU eb)) rfl (by kernel_rfl) (by kernel_rfl) (by kernel_rfl) (fun _ _ _ h => h) (Or.inl ⟨by rfl, fun W hW => (by kernel_rfl)⟩) (by assumption) ?_
          try simp only [Act.put, List.setIfInBounds_toArray, List.set_cons_zero, List.set_cons_succ]
          refine wpAnyH_ready (rs := [13]) (by kernel_rfl) (by simp) ?_
          refine AllReadyH.cons (o := ⟨some 29, _, _, _, _, _⟩) rfl (fun K hK => ?_) AllReadyH.nil
          rw [if_pos (by rfl)]
          go_simp
          obtain ⟨wv, hv⟩ : ∃ wv, wv = w4'.alloc (.cells (rxArr d nx mS mU eb) 75) := ⟨_, rfl⟩
          obtain ⟨rb, hrb⟩ : ∃ rb, rb = w4'.heap.size := ⟨_, rfl⟩
          have hR : Blk wv rb 75 (rxArr d nx mS mU eb) := by rw [hv, hrb]; exact Blk.new _ _ _
          have hH2 : Below Bn w3 wv := by rw [hv]; exact hHeld.alloc hz4 _
          have hUS : UB wv mS [] := by rw [hv]; exact hS.below ((Below.refl _ _).alloc (Nat.le_refl _) _) hS.lt
          have hne : rb ≠ mS := by have := hS.lt; omega
          rw [← hv, ← hrb]
          refine hK.out _ _ hH2 (fun hHeld => ?_)
          clear hK K
          try simp only [Act.put, List.setIfInBounds_toArray, List.set_cons_zero, List.set_cons_succ]
          refine wpAnyH_take (i := 14) (oi := ⟨some 6, _, _, _, _, _⟩) (v := .pointer (some ⟨rb, 0, none⟩)) rfl (by kernel_rfl) (by kernel_rfl) (by kernel_rfl) (fun _ _ _ h => h) (Or.inl ⟨by rfl, fun W hW => (by rfl)⟩) (by assumption) ?_
          try simp only [Act.put, List.setIfInBounds_toArray, List.set_cons_zero, List.set_cons_succ]
          refine wpAnyH_done (by kernel_rfl) ?_ _
          go_wp2
          go_meet
          exact ⟨rb, mS, mU, eb, rfl, hR, hUS, by omega, hSl, hne, hH2⟩
        · rw [if_pos (by rfl)]
          go_simp
          have hpu := kput w2' mU hU
          rw [show (.agg k16 : Value) = .agg k16.toList.toArray from rfl] at hpu
          obtain ⟨w3', hv⟩ : ∃ w3', w3' = w2'.putObj mU (.map #[{ key := .agg k16, val := .bool true, born := 0 }] 1) := ⟨_, rfl⟩
          have hkp : Keep1 mU w2' w3' := by rw [hv]; exact grownBy_putObj' _ _ _
          have hH2 : Below Bn w3 w3' := below_keep hHeld hkp hUB hz2
          have hz3 : Bn ≤ w3'.heap.size := Nat.le_trans hz2 hkp.size
          go_simp
          rw [← hv]
          clear hv hkp hpu
          refine hK.out _ _ hH2 (fun hHeld => ?_)
          clear hK K hH2
          try simp only [Act.put, List.setIfInBounds_toArray, List.set_cons_zero, List.set_cons_succ]
          refine wpAnyH_take (i := 10) (oi := ⟨some 26, _, _, _, _, _⟩) (v := .map (some mU)) rfl (by kernel_rfl) (by kernel_rfl) (by kernel_rfl) (fun _ _ _ h => h) (Or.inl ⟨by rfl, fun W hW => (by rfl)⟩) (by assumption) ?_
          try simp only [Act.put, List.setIfInBounds_toArray, List.set_cons_zero, List.set_cons_succ]
          refine wpAnyH_ready (rs := [5]) (by kernel_rfl) (by simp) ?_
          refine AllReadyH.cons (o := ⟨some 22, _, _, _, _, _⟩) rfl (fun K hK => ?_) AllReadyH.nil
          rw [if_pos (by rfl)]
          go_simp
          obtain ⟨w4', hv⟩ : ∃ w4', w4' = w3'.alloc (.map #[] 0) := ⟨_, rfl⟩
          obtain ⟨mS, hb⟩ : ∃ mS, mS = w3'.heap.size := ⟨_, rfl⟩
          have hH2 : Below Bn w3 w4' := by rw [hv]; exact hHeld.alloc hz3 _
          have hz4 : Bn ≤ w4'.heap.size := by rw [hv, World.size_alloc]; omega
          have hbk : Below w3'.heap.size w3' w4' := by rw [hv]; exact (Below.refl _ _).alloc (Nat.le_refl _) _
          have hS : UB w4' mS [] := ⟨#[], 0, by rw [hv, hb]; exact World.alloc_heap_new _ _, rfl⟩
          have hSl : Bn ≤ mS := by omega
          rw [← hv, ← hb]
          clear hv hb hbk
          refine hK.out _ _ hH2 (fun hHeld => ?_)
          clear hK K hH2
          try simp only [Act.put, List.setIfInBounds_toArray, List.set_cons_zero, List.set_cons_succ]
          refine wpAnyH_take (i := 12) (oi := ⟨some 28, _, _, _, _, _⟩) (v := .agg (rxArr d nx mS mU eb)) rfl (by kernel_rfl) (by kernel_rfl) (by kernel_rfl) (fun _ _ _ h => h) (Or.inl ⟨by rfl, fun W hW => (by kernel_rfl)⟩) (by assumption) ?_
          try simp only [Act.put, List.setIfInBounds_toArray, List.set_cons_zero, List.set_cons_succ]
          refine wpAnyH_ready (rs := [13]) (by kernel_rfl) (by simp) ?_
          refine AllReadyH.cons (o := ⟨some 29, _, _, _, _, _⟩) rfl (fun K hK => ?_) AllReadyH.nil
          rw [if_pos (by rfl)]
          go_simp
          obtain ⟨wv, hv⟩ : ∃ wv, wv = w4'.alloc (.cells (rxArr d nx mS mU eb) 75) := ⟨_, rfl⟩
          obtain ⟨rb, hrb⟩ : ∃ rb, rb = w4'.heap.size := ⟨_, rfl⟩
          have hR : Blk wv rb 75 (rxArr d nx mS mU eb) := by rw [hv, hrb]; exact Blk.new _ _ _
          have hH2 : Below Bn w3 wv := by rw [hv]; exact hHeld.alloc hz4 _
          have hUS : UB wv mS [] := by rw [hv]; exact hS.below ((Below.refl _ _).alloc (Nat.le_refl _) _) hS.lt
          have hne : rb ≠ mS := by have := hS.lt; omega
          rw [← hv, ← hrb]
          refine hK.out _ _ hH2 (fun hHeld => ?_)
          clear hK K
          try simp only [Act.put, List.setIfInBounds_toArray, List.set_cons_zero, List.set_cons_succ]
          refine wpAnyH_take (i := 14) (oi := ⟨some 6, _, _, _, _, _⟩) (v := .pointer (some ⟨rb, 0, none⟩)) rfl (by kernel_rfl) (by kernel_rfl) (by kernel_rfl) (fun _ _ _ h => h) (Or.inl ⟨by rfl, fun W hW => (by rfl)⟩) (by assumption) ?_
          try simp only [Act.put, List.setIfInBounds_toArray, List.set_cons_zero, List.set_cons_succ]
          refine wpAnyH_done (by kernel_rfl) ?_ _
          go_wp2
          go_meet
          exact ⟨rb, mS, mU, eb, rfl, hR, hUS, by omega, hSl, hne, hH2⟩
    · rw [if_pos (by rfl)]
      go_simp
      refine (exp_new w0).mono ?_
      rintro e w1' ⟨rfl, hbk⟩
      obtain ⟨eb, heb⟩ : ∃ eb, eb = w0.heap.size := ⟨_, rfl⟩
      rw [← heb]
      dsimp only
      have hH2 : Below Bn w3 w1' := hHeld.trans (hbk.mono hz0)
      have hz1 : Bn ≤ w1'.heap.size := Nat.le_trans hz0 hbk.size
      clear heb hbk
      refine hK.out _ _ hH2 (fun hHeld => ?_)
      clear hK K hH2
      try simp only [Act.put, List.setIfInBounds_toArray, List.set_cons_zero, List.set_cons_succ]
      refine wpAnyH_ready (rs := [5, 6]) (by kernel_rfl) (by simp) ?_
      refine AllReadyH.cons (o := ⟨some 22, _, _, _, _, _⟩) rfl (fun K hK => ?_) (AllReadyH.cons (o := ⟨some 23, _, _, _, _, _⟩) rfl (fun K hK => ?_) AllReadyH.nil)
      · rw [if_pos (by rfl)]
        go_simp
        obtain ⟨w2', hv⟩ : ∃ w2', w2' = w1'.alloc (.map #[] 0) := ⟨_, rfl⟩
        obtain ⟨mS, hb⟩ : ∃ mS, mS = w1'.heap.size := ⟨_, rfl⟩
        have hH2 : Below Bn w3 w2' := by rw [hv]; exact hHeld.alloc hz1 _
        have hz2 : Bn ≤ w2'.heap.size := by rw [hv, World.size_alloc]; omega
        have hbk : Below w1'.heap.size w1' w2' := by rw [hv]; exact (Below.refl _ _).alloc (Nat.le_refl _) _
        have hS : UB w2' mS [] := ⟨#[], 0, by rw [hv, hb]; exact World.alloc_heap_new _ _, rfl⟩
        have hSl : Bn ≤ mS := by omega
        rw [← hv, ← hb]
        clear hv hb hbk
        refine hK.out _ _ hH2 (fun hHeld => ?_)
        clear hK K hH2
        try simp only [Act.put, List.setIfInBounds_toArray, List.set_cons_zero, List.set_cons_succ]
        refine wpAnyH_ready (rs := [6]) (by kernel_rfl) (by simp) ?_
        refine AllReadyH.cons (o := ⟨some 23, _, _, _, _, _⟩) rfl (fun K hK => ?_) AllReadyH.nil
        rw [if_pos (by rfl)]
        go_simp
        obtain ⟨w3', hv⟩ : ∃ w3', w3' = w2'.alloc (.map #[] 0) := ⟨_, rfl⟩
        obtain ⟨mU, hb⟩ : ∃ mU, mU = w2'.heap.size := ⟨_, rfl⟩
        have hH2 : Below Bn w3 w3' := by rw [hv]; exact hHeld.alloc hz2 _
        have hz3 : Bn ≤ w3'.heap.size := by rw [hv, World.size_alloc]; omega
        have hbk : Below w2'.heap.size w2' w3' := by rw [hv]; exact (Below.refl _ _).alloc (Nat.le_refl _) _
        have hU : w3'.heap[mU]? = some (.map #[] 0) := by rw [hv, hb]; exact World.alloc_heap_new _ _
        have hUl : mU < w3'.heap.size := by rw [hv, hb, World.size_alloc]; omega
        have hUB : Bn ≤ mU := by omega
        have hSU : mS ≠ mU := by have := hS.lt; omega
        replace hS := hS.below hbk hS.lt
        rw [← hv, ← hb]
        clear hv hb hbk
        refine hK.out _ _ hH2 (fun hHeld => ?_)
        clear hK K hH2
        try simp only [Act.put, List.setIfInBounds_toArray, List.set_cons_zero, List.set_cons_succ]
        refine wpAnyH_ready (rs := [9]) (by kernel_rfl) (by simp) ?_
        refine AllReadyH.cons (o := ⟨none, _, _, _, _, _⟩) rfl (fun K hK => ?_) AllReadyH.nil
        rw [if_pos (by rfl)]
        go_simp
        have hpu := kput w3' mU hU
        rw [show (.agg k16 : Value) = .agg k16.toList.toArray from rfl] at hpu
        obtain ⟨w4', hv⟩ : ∃ w4', w4' = w3'.putObj mU (.map #[{ key := .agg k16, val := .bool true, born := 0 }] 1) := ⟨_, rfl⟩
        have hkp : Keep1 mU w3' w4' := by rw [hv]; exact grownBy_putObj' _ _ _
        have hH2 : Below Bn w3 w4' := below_keep hHeld hkp hUB hz3
        have hz4 : Bn ≤ w4'.heap.size := Nat.le_trans hz3 hkp.size
        replace hS := hS.keep hkp hSU
        go_simp
        rw [← hv]
        clear hv hkp hpu
        refine hK.out _ _ hH2 (fun hHeld => ?_)
        clear hK K hH2
        try simp only [Act.put, List.setIfInBounds_toArray, List.set_cons_zero, List.set_cons_succ]
        refine wpAnyH_take (i := 10) (oi := ⟨some 26, _, _, _, _, _⟩) (v := .map (some mU)) rfl (by kernel_rfl) (by kernel_rfl) (by kernel_rfl) (fun _ _ _ h => h) (Or.inl ⟨by rfl, fun W hW => (by rfl)⟩) (by assumption) ?_
        try simp only [Act.put, List.setIfInBounds_toArray, List.set_cons_zero, List.set_cons_succ]
        refine wpAnyH_take (i := 12) (oi := ⟨some 28, _, _, _, _, _⟩) (v := .agg (rxArr d nx mS mU eb)) rfl (by kernel_rfl) (by kernel_rfl) (by kernel_rfl) (fun _ _ _ h => h) (Or.inl ⟨by rfl, fun W hW => (by kernel_rfl)⟩) (by assumption) ?_
        try simp only [Act.put, List.setIfInBounds_toArray, List.set_cons_zero, List.set_cons_succ]
        refine wpAnyH_ready (rs := [13]) (by kernel_rfl) (by simp) ?_
        refine AllReadyH.cons (o := ⟨some 29, _, _, _, _, _⟩) rfl (fun K hK => ?_) AllReadyH.nil
        rw [if_pos (by rfl)]
        go_simp
        obtain ⟨wv, hv⟩ : ∃ wv, wv = w4'.alloc (.cells (rxArr d nx mS mU eb) 75) := ⟨_, rfl⟩
        obtain ⟨rb, hrb⟩ : ∃ rb, rb = w4'.heap.size := ⟨_, rfl⟩
        have hR : Blk wv rb 75 (rxArr d nx mS mU eb) := by rw [hv, hrb]; exact Blk.new _ _ _
        have hH2 : Below Bn w3 wv := by rw [hv]; exact hHeld.alloc hz4 _
        have hUS : UB wv mS [] := by rw [hv]; exact hS.below ((Below.refl _ _).alloc (Nat.le_refl _) _) hS.lt
        have hne : rb ≠ mS := by have := hS.lt; omega
        rw [← hv, ← hrb]
        refine hK.out _ _ hH2 (fun hHeld => ?_)
        clear hK K
        try simp only [Act.put, List.setIfInBounds_toArray, List.set_cons_zero, List.set_cons_succ]
        refine wpAnyH_take (i := 14) (oi := ⟨some 6, _, _, _, _, _⟩) (v := .pointer (some ⟨rb, 0, none⟩)) rfl (by kernel_rfl) (by kernel_rfl) (by kernel_rfl) (fun _ _ _ h => h) (Or.inl ⟨by rfl, fun W hW => (by rfl)⟩) (by assumption) ?_
        try simp only [Act.put, List.setIfInBounds_toArray, List.set_cons_zero, List.set_cons_succ]
        refine wpAnyH_done (by kernel_rfl) ?_ _
        go_wp2
        go_meet
        exact ⟨rb, mS, mU, eb, rfl, hR, hUS, by omega, hSl, hne, hH2⟩
      · rw [if_pos (by rfl)]
        go_simp
        obtain ⟨w2', hv⟩ : ∃ w2', w2' = w1'.alloc (.map #[] 0) := ⟨_, rfl⟩
        obtain ⟨mU, hb⟩ : ∃ mU, mU = w1'.heap.size := ⟨_, rfl⟩
        have hH2 : Below Bn w3 w2' := by rw [hv]; exact hHeld.alloc hz1 _
        have hz2 : Bn ≤ w2'.heap.size := by rw [hv, World.size_alloc]; omega
        have hbk : Below w1'.heap.size w1' w2' := by rw [hv]; exact (Below.refl _ _).alloc (Nat.le_refl _) _
        have hU : w2'.heap[mU]? = some (.map #[] 0) := by rw [hv, hb]; exact World.alloc_heap_new _ _
        have hUl : mU < w2'.heap.size := by rw [hv, hb, World.size_alloc]; omega
        have hUB : Bn ≤ mU := by omega
        rw [← hv, ← hb]
        clear hv hb hbk
        refine hK.out _ _ hH2 (fun hHeld => ?_)
        clear hK K hH2
        try simp only [Act.put, List.setIfInBounds_toArray, List.set_cons_zero, List.set_cons_succ]
        refine wpAnyH_ready (rs := [5, 9]) (by kernel_rfl) (by simp) ?_
        refine AllReadyH.cons (o := ⟨some 22, _, _, _, _, _⟩) rfl (fun K hK => ?_) (AllReadyH.cons (o := ⟨none, _, _, _, _, _⟩) rfl (fun K hK => ?_) AllReadyH.nil)
        · rw [if_pos (by rfl)]
          go_simp
          obtain ⟨w3', hv⟩ : ∃ w3', w3' = w2'.alloc (.map #[] 0) := ⟨_, rfl⟩
          obtain ⟨mS, hb⟩ : ∃ mS, mS = w2'.heap.size := ⟨_, rfl⟩
          have hH2 : Below Bn w3 w3' := by rw [hv]; exact hHeld.alloc hz2 _
          have hz3 : Bn ≤ w3'.heap.size := by rw [hv, World.size_alloc]; omega
          have hbk : Below w2'.heap.size w2' w3' := by rw [hv]; exact (Below.refl _ _).alloc (Nat.le_refl _) _
          have hS : UB w3' mS [] := ⟨#[], 0, by rw [hv, hb]; exact World.alloc_heap_new _ _, rfl⟩
          have hSl : Bn ≤ mS := by omega
          replace hU := (hbk.block mU hUl).trans hU
          have hSU : mS ≠ mU := by omega
          replace hUl : mU < w3'.heap.size := Nat.lt_of_lt_of_le hUl hbk.size
          rw [← hv, ← hb]
          clear hv hb hbk
          refine hK.out _ _ hH2 (fun hHeld => ?_)
          clear hK K hH2
          try simp only [Act.put, List.setIfInBounds_toArray, List.set_cons_zero, List.set_cons_succ]
          refine wpAnyH_ready (rs := [9]) (by kernel_rfl) (by simp) ?_
          refine AllReadyH.cons (o := ⟨none, _, _, _, _, _⟩) rfl (fun K hK => ?_) AllReadyH.nil
          rw [if_pos (by rfl)]
          go_simp
          have hpu := kput w3' mU hU
          rw [show (.agg k16 : Value) = .agg k16.toList.toArray from rfl] at hpu
          obtain ⟨w4', hv⟩ : ∃ w4', w4' = w3'.putObj mU (.map #[{ key := .agg k16, val := .bool true, born := 0 }] 1) := ⟨_, rfl⟩
          have hkp : Keep1 mU w3' w4' := by rw [hv]; exact grownBy_putObj' _ _ _
          have hH2 : Below Bn w3 w4' := below_keep hHeld hkp hUB hz3
          have hz4 : Bn ≤ w4'.heap.size := Nat.le_trans hz3 hkp.size
          replace hS := hS.keep hkp hSU
          go_simp
          rw [← hv]
          clear hv hkp hpu
          refine hK.out _ _ hH2 (fun hHeld => ?_)
          clear hK K hH2
          try simp only [Act.put, List.setIfInBounds_toArray, List.set_cons_zero, List.set_cons_succ]
          refine wpAnyH_take (i := 10) (oi := ⟨some 26, _, _, _, _, _⟩) (v := .map (some mU)) rfl (by kernel_rfl) (by kernel_rfl) (by kernel_rfl) (fun _ _ _ h => h) (Or.inl ⟨by rfl, fun W hW => (by rfl)⟩) (by assumption) ?_
          try simp only [Act.put, List.setIfInBounds_toArray, List.set_cons_zero, List.set_cons_succ]
          refine wpAnyH_take (i := 12) (oi := ⟨some 28, _, _, _, _, _⟩) (v := .agg (rxArr d nx mS mU eb)) rfl (by kernel_rfl) (by kernel_rfl) (by kernel_rfl) (fun _ _ _ h => h) (Or.inl ⟨by rfl, fun W hW => (by kernel_rfl)⟩) (by assumption) ?_
          try simp only [Act.put, List.setIfInBounds_toArray, List.set_cons_zero, List.set_cons_succ]
          refine wpAnyH_ready (rs := [13]) (by kernel_rfl) (by simp) ?_
          refine AllReadyH.cons (o := ⟨some 29, _, _, _, _, _⟩) rfl (fun K hK => ?_) AllReadyH.nil
          rw [if_pos (by rfl)]
          go_simp
          obtain ⟨wv, hv⟩ : ∃ wv, wv = w4'.alloc (.cells (rxArr d nx mS mU eb) 75) := ⟨_, rfl⟩
          obtain ⟨rb, hrb⟩ : ∃ rb, rb = w4'.heap.size := ⟨_, rfl⟩
          have hR : Blk wv rb 75 (rxArr d nx mS mU eb) := by rw [hv, hrb]; exact Blk.new _ _ _
          have hH2 : Below Bn w3 wv := by rw [hv]; exact hHeld.alloc hz4 _
          have hUS : UB wv mS [] := by rw [hv]; exact hS.below ((Below.refl _ _).alloc (Nat.le_refl _) _) hS.lt
          have hne : rb ≠ mS := by have := hS.lt; omega
          rw [← hv, ← hrb]
          refine hK.out _ _ hH2 (fun hHeld => ?_)
          clear hK K
          try simp only [Act.put, List.setIfInBounds_toArray, List.set_cons_zero, List.set_cons_succ]
          refine wpAnyH_take (i := 14) (oi := ⟨some 6, _, _, _, _, _⟩) (v := .pointer (some ⟨rb, 0, none⟩)) rfl (by kernel_rfl) (by kernel_rfl) (by kernel_rfl) (fun _ _ _ h => h) (Or.inl ⟨by rfl, fun W hW => (by rfl)⟩) (by assumption) ?_
          try simp only [Act.put, List.setIfInBounds_toArray, List.set_cons_zero, List.set_cons_succ]
          refine wpAnyH_done (by kernel_rfl) ?_ _
          go_wp2
          go_meet
          exact ⟨rb, mS, mU, eb, rfl, hR, hUS, by omega, hSl, hne, hH2⟩
        · rw [if_pos (by rfl)]
          go_simp
          have hpu := kput w2' mU hU
          rw [show (.agg k16 : Value) = .agg k16.toList.toArray from rfl] at hpu
          obtain ⟨w3', hv⟩ : ∃ w3', w3' = w2'.putObj mU (.map #[{ key := .agg k16, val := .bool true, born := 0 }] 1) := ⟨_, rfl⟩
          have hkp : Keep1 mU w2' w3' := by rw [hv]; exact grownBy_putObj' _ _ _
          have hH2 : Below Bn w3 w3' := below_keep hHeld hkp hUB hz2
          have hz3 : Bn ≤ w3'.heap.size := Nat.le_trans hz2 hkp.size
          go_simp
          rw [← hv]
          clear hv hkp hpu
          refine hK.out _ _ hH2 (fun hHeld => ?_)
          clear hK K hH2
          try simp only [Act.put, List.setIfInBounds_toArray, List.set_cons_zero, List.set_cons_succ]
          refine wpAnyH_take (i := 10) (oi := ⟨some 26, _, _, _, _, _⟩) (v := .map (some mU)) rfl (by kernel_rfl) (by kernel_rfl) (by kernel_rfl) (fun _ _ _ h => h) (Or.inl ⟨by rfl, fun W hW => (by rfl)⟩) (by assumption) ?_
          try simp only [Act.put, List.setIfInBounds_toArray, List.set_cons_zero, List.set_cons_succ]
          refine wpAnyH_ready (rs := [5]) (by kernel_rfl) (by simp) ?_
          refine AllReadyH.cons (o := ⟨some 22, _, _, _, _, _⟩) rfl (fun K hK => ?_) AllReadyH.nil
          rw [if_pos (by rfl)]
          go_simp
          obtain ⟨w4', hv⟩ : ∃ w4', w4' = w3'.alloc (.map #[] 0) := ⟨_, rfl⟩
          obtain ⟨mS, hb⟩ : ∃ mS, mS = w3'.heap.size := ⟨_, rfl⟩
          have hH2 : Below Bn w3 w4' := by rw [hv]; exact hHeld.alloc hz3 _
          have hz4 : Bn ≤ w4'.heap.size := by rw [hv, World.size_alloc]; omega
          have hbk : Below w3'.heap.size w3' w4' := by rw [hv]; exact (Below.refl _ _).alloc (Nat.le_refl _) _
          have hS : UB w4' mS [] := ⟨#[], 0, by rw [hv, hb]; exact World.alloc_heap_new _ _, rfl⟩
          have hSl : Bn ≤ mS := by omega
          rw [← hv, ← hb]
          clear hv hb hbk
          refine hK.out _ _ hH2 (fun hHeld => ?_)
          clear hK K hH2
          try simp only [Act.put, List.setIfInBounds_toArray, List.set_cons_zero, List.set_cons_succ]
          refine wpAnyH_take (i := 12) (oi := ⟨some 28, _, _, _, _, _⟩) (v := .agg (rxArr d nx mS mU eb)) rfl (by kernel_rfl) (by kernel_rfl) (by kernel_rfl) (fun _ _ _ h => h) (Or.inl ⟨by rfl, fun W hW => (by kernel_rfl)⟩) (by assumption) ?_
          try simp only [Act.put, List.setIfInBounds_toArray, List.set_cons_zero, List.set_cons_succ]
          refine wpAnyH_ready (rs := [13]) (by kernel_rfl) (by simp) ?_
          refine AllReadyH.cons (o := ⟨some 29, _, _, _, _, _⟩) rfl (fun K hK => ?_) AllReadyH.nil
          rw [if_pos (by rfl)]
          go_simp
          obtain ⟨wv, hv⟩ : ∃ wv, wv = w4'.alloc (.cells (rxArr d nx mS mU eb) 75) := ⟨_, rfl⟩
          obtain ⟨rb, hrb⟩ : ∃ rb, rb = w4'.heap.size := ⟨_, rfl⟩
          have hR : Blk wv rb 75 (rxArr d nx mS mU eb) := by rw [hv, hrb]; exact Blk.new _ _ _
          have hH2 : Below Bn w3 wv := by rw [hv]; exact hHeld.alloc hz4 _
          have hUS : UB wv mS [] := by rw [hv]; exact hS.below ((Below.refl _ _).alloc (Nat.le_refl _) _) hS.lt
          have hne : rb ≠ mS := by have := hS.lt; omega
          rw [← hv, ← hrb]
          refine hK.out _ _ hH2 (fun hHeld => ?_)
          clear hK K
          try simp only [Act.put, List.setIfInBounds_toArray, List.set_cons_zero, List.set_cons_succ]
          refine wpAnyH_take (i := 14) (oi := ⟨some 6, _, _, _, _, _⟩) (v := .pointer (some ⟨rb, 0, none⟩)) rfl (by kernel_rfl) (by kernel_rfl) (by kernel_rfl) (fun _ _ _ h => h) (Or.inl ⟨by rfl, fun W hW => (by rfl)⟩) (by assumption) ?_
          try simp only [Act.put, List.setIfInBounds_toArray, List.set_cons_zero, List.set_cons_succ]
          refine wpAnyH_done (by kernel_rfl) ?_ _
          go_wp2
          go_meet
          exact ⟨rb, mS, mU, eb, rfl, hR, hUS, by omega, hSl, hne, hH2⟩
  case rest =>
    obtain ⟨rb, mS, mU, eb, rfl, hR, hS, hrb, hmS, hne, hB⟩ := hcut
    have HR := Lib.hid hR
    have HSS := Lib.hid hS
    have HB := Lib.hid hB
    have xs2 : wc.cell? ⟨zb + 1, 2, none⟩ = some (.slice A m c) := (BS.out.below hB hzl).cell 2
    have hm' : (m : Int) ≤ 9223372036854775807 := by unfold maxLen at hm; omega
    clear hR hS hB
    go_wp2
    go_loopw [33] (fun v wr => ∃ (k : Nat) (L : List Int), k ≤ m ∧ v = .int .i64 k ∧ Blk wr rb 75 (rxArr d nx mS mU eb) ∧ UB wr mS L ∧ (∀ x, x ∈ L ↔ ∃ j, j < k ∧ ct j = x) ∧ Below Bn w3 wr) (fun v _ => m - (intOf v).toNat)
    case atStart => exact ⟨0, [], by omega, rfl, HR.out, HSS.out, fun x => ⟨fun h => (by cases h), fun ⟨j, hj, _⟩ => (by omega)⟩, HB.out⟩
    case round =>
      obtain ⟨k, L, hk, rfl, hR, hS, hL, hB⟩ := hrel
      have RR := Lib.hid hR
      have SR := Lib.hid hS
      have LR := Lib.hid hL
      have BR := Lib.hid hB
      clear hR hS hL hB
      have hbs : Bn ≤ wr.heap.size := by have := BR.out.size; omega
      by_cases hlt : k < m
      · obtain ⟨lb, lo, rfl, hlb, hlc⟩ := HC.out.at_ (by omega)
        obtain ⟨c0, c1⟩ := hlc k hlt
        have hw3 : lb < Bn := by have := D3.out.size; omega
        have q0 : wr.cell? ⟨lb, lo + k * 2, none⟩ = some (.int .u32 (ct k)) := (BR.out.cell (p := ⟨lb, lo + k * 2, none⟩) hw3).trans ((D3.out.cell (p := ⟨lb, lo + k * 2, none⟩) hlb).trans c0)
        have q1 : wr.cell? ⟨lb, lo + k * 2 + 1, none⟩ = some (.slice (PA k) (pn k) (pc k)) := (BR.out.cell (p := ⟨lb, lo + k * 2 + 1, none⟩) hw3).trans ((D3.out.cell (p := ⟨lb, lo + k * 2 + 1, none⟩) hlb).trans c1)
        obtain ⟨r0, r1⟩ := HC.out.rng k hlt
        have hp9 : pn k ≤ 9000 := (HWH.out.2.1 k hlt).2.2.2
        have hwb : w.heap.size ≤ Bn := by have := D3.out.size; omega
        have RK := Lib.hid (show Row wr wr.heap.size (PA k) (pn k) (fun j => .int .u8 (z k j)) from (((HC.out.row k hlt).below D3.out).below (BR.out.mono hwb)).more (Nat.le_trans hwb hbs))
        have HMP := Lib.hid (mem_put ct L k LR.out)
        obtain ⟨x, hx⟩ : ∃ x, x = ct k := ⟨_, rfl⟩
        rw [← hx] at q0 r0 r1 HMP
        have k0 : (0 : Int) ≤ (k : Int) := by omega
        have k1 : (k : Int) < (m : Int) := by omega
        clear hx hlc c0 c1
        go_upto_region 7 with (fail)
        refine wp_world (fun W => Blk W wr.heap.size 30 #[.int .u32 x, .slice (PA k) (pn k) (pc k)] ∧ Below wr.heap.size wr W) ⟨Blk.new _ _ _, (Below.refl _ wr).alloc (Nat.le_refl _) _⟩ ?_
        rintro W6 ⟨b6, b7⟩
        obtain ⟨xb, hxb⟩ : ∃ xb, xb = wr.heap.size := ⟨_, rfl⟩
        have hrl := RR.out.lt
        have hml := SR.out.lt
        have hxS : xb ≠ mS := by omega
        have R6 := Lib.hid (RR.out.below b7 hrl)
        have S6 := Lib.hid (SR.out.below b7 hml)
        have B6 := Lib.hid (BR.out.trans (b7.mono hbs))
        have hb6 : Bn ≤ W6.drew.heap.size := Nat.le_trans hbs b7.size
        have K6 := Lib.hid (RK.out.next b7)
        rw [← hxb] at b6 ⊢
        have X6 := Lib.hid b6
        clear b6 b7 hxb q0 q1
        have tw : IntKind.u64.wrap x = x := by simp [IntKind.wrap_u64]; omega
        have HQ := Lib.hid (show ∀ W, KM W6 mS W → W.cell? ⟨rb, 43, none⟩ = some (.map (some mS)) ∧ W.cell? ⟨xb, 0, none⟩ = some (.int .u32 x) ∧ W.cell? ⟨xb, 1, none⟩ = some (.slice (PA k) (pn k) (pc k)) from fun W hW => ⟨(hW.blk R6.out hne).cell 43, (hW.blk X6.out hxS).cell 0, (hW.blk X6.out hxS).cell 1⟩)
        refine wp_region_held_drew (S := fun w' => KM W6 mS w') (by kernel_rfl) ⟨Nat.le_refl _, fun _ _ _ => rfl⟩ (fun hHeld => ?_)
        refine wpAnyH_take (i := 0) (oi := ⟨some 37, _, _, _, _, _⟩) (v := .pointer (some ⟨rb, 0, none⟩)) rfl (by kernel_rfl) (by kernel_rfl) (by kernel_rfl) (fun _ _ _ h => h) (Or.inl ⟨by rfl, fun W hW => (by rfl)⟩) (by assumption) ?_
        try simp only [Act.put, List.setIfInBounds_toArray, List.set_cons_zero, List.set_cons_succ]
        refine wpAnyH_take (i := 1) (oi := ⟨some 38, _, _, _, _, _⟩) (v := .pointer (some ⟨rb, 0, none⟩)) rfl (by kernel_rfl) (by kernel_rfl) (by kernel_rfl) (fun _ _ _ h => h) (Or.inl ⟨by rfl, fun W hW => (by go_simp)⟩) (by assumption) ?_
        try simp only [Act.put, List.setIfInBounds_toArray, List.set_cons_zero, List.set_cons_succ]
        refine wpAnyH_take (i := 2) (oi := ⟨some 39, _, _, _, _, _⟩) (v := .pointer (some ⟨rb, 43, none⟩)) rfl (by kernel_rfl) (by kernel_rfl) (by kernel_rfl) (fun _ _ _ h => h) (Or.inl ⟨by rfl, fun W hW => (by go_simp)⟩) (by assumption) ?_
        try simp only [Act.put, List.setIfInBounds_toArray, List.set_cons_zero, List.set_cons_succ]
        refine wpAnyH_take (i := 3) (oi := ⟨some 40, _, _, _, _, _⟩) (v := .map (some mS)) rfl (by kernel_rfl) (by kernel_rfl) (by kernel_rfl) (fun _ _ _ h => h) (Or.inl ⟨by rfl, fun W hW => (by obtain ⟨u0, u1, u2⟩ := HQ.out W hW; go_simp)⟩) (by assumption) ?_
        try simp only [Act.put, List.setIfInBounds_toArray, List.set_cons_zero, List.set_cons_succ]
        refine wpAnyH_take (i := 4) (oi := ⟨some 41, _, _, _, _, _⟩) (v := .pointer (some ⟨xb, 0, none⟩)) rfl (by kernel_rfl) (by kernel_rfl) (by kernel_rfl) (fun _ _ _ h => h) (Or.inl ⟨by rfl, fun W hW => (by go_simp)⟩) (by assumption) ?_
        try simp only [Act.put, List.setIfInBounds_toArray, List.set_cons_zero, List.set_cons_succ]
        refine wpAnyH_take (i := 5) (oi := ⟨some 42, _, _, _, _, _⟩) (v := .int .u32 x) rfl (by kernel_rfl) (by kernel_rfl) (by kernel_rfl) (fun _ _ _ h => h) (Or.inl ⟨by rfl, fun W hW => (by obtain ⟨u0, u1, u2⟩ := HQ.out W hW; go_simp)⟩) (by assumption) ?_
        try simp only [Act.put, List.setIfInBounds_toArray, List.set_cons_zero, List.set_cons_succ]
        refine wpAnyH_take (i := 6) (oi := ⟨some 43, _, _, _, _, _⟩) (v := .int .u64 x) rfl (by kernel_rfl) (by kernel_rfl) (by kernel_rfl) (fun _ _ _ h => h) (Or.inl ⟨by rfl, fun W hW => (by go_simp)⟩) (by assumption) ?_
        try simp only [Act.put, List.setIfInBounds_toArray, List.set_cons_zero, List.set_cons_succ]
        refine wpAnyH_take (i := 7) (oi := ⟨some 44, _, _, _, _, _⟩) (v := .pointer (some ⟨xb, 1, none⟩)) rfl (by kernel_rfl) (by kernel_rfl) (by kernel_rfl) (fun _ _ _ h => h) (Or.inl ⟨by rfl, fun W hW => (by go_simp)⟩) (by assumption) ?_
        try simp only [Act.put, List.setIfInBounds_toArray, List.set_cons_zero, List.set_cons_succ]
        refine wpAnyH_take (i := 8) (oi := ⟨some 45, _, _, _, _, _⟩) (v := .slice (PA k) (pn k) (pc k)) rfl (by kernel_rfl) (by kernel_rfl) (by kernel_rfl) (fun _ _ _ h => h) (Or.inl ⟨by rfl, fun W hW => (by obtain ⟨u0, u1, u2⟩ := HQ.out W hW; go_simp)⟩) (by assumption) ?_
        try simp only [Act.put, List.setIfInBounds_toArray, List.set_cons_zero, List.set_cons_succ]
        refine wpAnyH_ready (rs := [9]) (by kernel_rfl) (by simp) ?_
        refine AllReadyH.cons (o := ⟨some 46, _, _, _, _, _⟩) rfl (fun K hK => ?_) AllReadyH.nil
        go_simp
        refine (clone_any (PA k) (pn k) (pc k) (z k) W6.drew (by omega) K6.out.drew).mono ?_
        rintro e w7 ⟨A2, c2, rfl, hc2, _, _, hb⟩
        dsimp only
        refine hK.out _ _ (hHeld.below hb) (fun hHeld => ?_)
        clear hK K
        try simp only [Act.put, List.setIfInBounds_toArray, List.set_cons_zero, List.set_cons_succ]
        obtain ⟨w8, hmu, hU8, hK8⟩ := uput w7 mS L x (.slice A2 (pn k) c2) ((show UB W6.drew mS L from S6.out).below hb (by have := S6.out.lt; exact this))
        refine wpAnyH_ready (rs := [10]) (by kernel_rfl) (by simp) ?_
        refine AllReadyH.cons (o := ⟨none, _, _, _, _, _⟩) rfl (fun K hK => ?_) AllReadyH.nil
        go_simp
        have hb2 := Lib.hid hb
        have hK2 := Lib.hid hK8
        have hU2 := Lib.hid hU8
        refine hK.out _ _ (hHeld.keep hK8) (fun hHeld => ?_)
        clear hK K hb hK8 hU8 hmu
        try simp only [Act.put]
        refine wpAnyH_done (by kernel_rfl) ?_ _
        have RF := Lib.hid (hHeld.blk R6.out hne)
        have BF := Lib.hid (show Below Bn w3 w8 from below_keep ((show Below Bn w3 W6.drew from B6.out.drew).trans (hb2.out.mono hb6)) hK2.out hmS (Nat.le_trans hb6 hb2.out.size))
        go_wp2
        go_roundw
        case rel => first | exact ⟨k + 1, _, by omega, by go_num, RF.out, hU2.out, HMP.out, BF.out⟩ | ((repeat apply Exists.intro); exact ⟨⟨k + 1, _, by omega, by go_num, RF.out, hU2.out, HMP.out, BF.out⟩, rfl⟩)
        case measure => simp [intOf]; omega
      · obtain rfl : k = m := by omega
        go_wp2
        go_ret2
        exact ⟨rb, mS, mU, eb, L, rfl, RR.out, SR.out, LR.out, D3.out.trans (BR.out.mono (by have := D3.out.size; omega))⟩
end Go.Proofs.Ytknlipjgehgihaa
