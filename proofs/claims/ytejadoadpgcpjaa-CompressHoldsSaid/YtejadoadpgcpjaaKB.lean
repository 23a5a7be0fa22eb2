/- compress: act of law 43: feedback, reset, clone. compress: a list of acts; few; act. The walk of CompressPlays. -/
import Derived.Test.YtejadoadpgcpjaaKA
import Derived.Deep.SlicePairs
namespace Go.Proofs.Ytejadoadpgcpjaa
open Go.RowKit

attribute [local go_sem ↓] Go.wp_at_zero Go.wp_at_succ

/-- the blocks of W but g and o are as they were -/
def KB (W : World) (g o : Nat) (w' : World) : Prop := W.heap.size ≤ w'.heap.size ∧ ∀ b, b < W.heap.size → b ≠ g → b ≠ o → w'.heap[b]? = W.heap[b]?
theorem KB.blk {W w' : World} {g o b : Nat} {t : TypeId} {cs : Array Value} (k : KB W g o w') (h : Blk W b t cs) (h1 : b ≠ g ∧ b ≠ o) : Blk w' b t cs := (k.2 b h.lt h1.1 h1.2).trans h
theorem KB.keep {W a b : World} {g o : Nat} (k : KB W g o a) (h : Keep1 g a b) : KB W g o b := ⟨Nat.le_trans k.1 h.size, fun i hi h1 h2 => (h.block i (Nat.lt_of_lt_of_le hi k.1) (fun e => by cases e; exact h1 rfl)).trans (k.2 i hi h1 h2)⟩
theorem KB.keepo {W a b : World} {g o : Nat} (k : KB W g o a) (h : Keep1 o a b) : KB W g o b := ⟨Nat.le_trans k.1 h.size, fun i hi h1 h2 => (h.block i (Nat.lt_of_lt_of_le hi k.1) (fun e => by cases e; exact h2 rfl)).trans (k.2 i hi h1 h2)⟩

set_option maxRecDepth 100000 in
set_option maxHeartbeats 6400000 in
theorem act_feedback (g : Nat) (S : Nat → Rx) (T : Int) (C : Nat → Cx) (what : Int) (A : Option Addr) (n c : Nat) (z : Nat → Int) (hw : what = 4) (hn : n ≤ 100) (hz : ∀ j, j < n → 0 ≤ z j ∧ z j < 256) (hT : 0 ≤ T) (H : ∀ k, Alike (S k) (C k)) (w : World) (h : CB w g true S T) (hr : Row w w.heap.size A n (fun j => .int .u8 (z j))) (hg : ∀ a, A = some a → n ≠ 0 → a.block ≠ g) :
    Calls Try.prog 39 #[.pointer (some ⟨g, 0, none⟩), .agg (rcArr C T), .agg #[.int .i64 what, .slice A n c]] w (AOut g T w) := by
  subst hw
  have HFB := Lib.hid (fun (W : World) (hK : CB W g true S T) (hR : Row W W.heap.size A n (fun j => .int .u8 (z j))) => feedback_ok g S T A n c z (by unfold maxLen; omega) hz W hK hR hg)
  have HRF := Lib.hid (fun (W : World) (hR : Row W W.heap.size A n (fun j => .int .u8 (z j))) => rfeed_ok C T A n c z (by unfold maxLen; omega) hz W hR)
  unfold FOut at HFB
  obtain ⟨E, hE⟩ : ∃ E, E = feedErr z n := ⟨_, rfl⟩
  obtain ⟨S2, hS2⟩ : ∃ S2, S2 = feedS S z n := ⟨_, rfl⟩
  obtain ⟨C2, hC2⟩ : ∃ C2, C2 = feedC C z n := ⟨_, rfl⟩
  have HAL := Lib.hid (show ∀ k, Alike (S2 k) (C2 k) from by rw [hS2, hC2]; exact alike_feed S C z n H)
  rw [← hE, ← hS2] at HFB
  rw [← hE, ← hC2] at HRF
  obtain ⟨L2, hL2⟩ : ∃ L2, L2 = rcArr C2 T := ⟨_, rfl⟩
  rw [← hL2] at HRF
  have HL2 := Lib.hid hL2
  have HR := Lib.hid hr
  have HSZ2 : Hid ((Try.prog.info? 70).map (·.size) = some L2.size) := Lib.hid (by rw [hL2, rcArr_size]; exact size70)
  have HO2 : Hid (L2.all (·.oneCell') = true) := Lib.hid (by rw [hL2]; exact rc_one _ _)
  clear hE hS2 hC2 hL2 hr hg hz H
  have hz0 := zero70
  obtain ⟨L, hL⟩ : ∃ L, L = rcArr C T := ⟨_, rfl⟩
  obtain ⟨Z, hZ⟩ : ∃ Z, Z = rcArr (fun _ => zeroC) 0 := ⟨_, rfl⟩
  have HL := Lib.hid hL
  have HZZ := Lib.hid hZ
  rw [← hZ] at hz0
  rw [← hL]
  have HK := Lib.hid h
  have hgl := h.lt
  clear hL hZ h
  have HSZ : Hid ((Try.prog.info? 70).map (·.size) = some L.size) := Lib.hid (by rw [HL.out, rcArr_size]; exact size70)
  have HZ2 : Hid (Z.size = L2.size) := Lib.hid (by rw [HL2.out, HZZ.out, rcArr_size, rcArr_size])
  rw [← HL.out] at HRF
  go_enter Try.func39, Try.ntmps39
  go_upto_region 7 with (fail)
  obtain ⟨W1, hW1⟩ : ∃ W1, W1 = ((w.alloc (.cells L 70)).alloc (.cells #[.int .i64 4, .slice A n c] 75)).alloc (.cells Z 70) := ⟨_, rfl⟩
  have B1 := Lib.hid (show Below w.heap.size w W1 from by rw [hW1]; exact (((Below.refl _ w).alloc (Nat.le_refl _) _).alloc (by simp) _).alloc (by simp; omega) _)
  have P1 := Lib.hid (show Blk W1 w.heap.size 70 L from by rw [hW1]; exact ((Blk.new w _ _).alloc _).alloc _)
  have Q1 := Lib.hid (show Blk W1 (w.heap.size + 1) 75 #[.int .i64 4, .slice A n c] from by rw [hW1]; exact (blk_at _ _ _ _ (by simp)).alloc _)
  have O1 := Lib.hid (show Blk W1 (w.heap.size + 1 + 1) 70 Z from by rw [hW1]; exact blk_at _ _ _ _ (by simp))
  rw [← hW1]
  clear hW1
  have q1 := Q1.out.cell 1
  have R1 := Lib.hid ((HR.out.below B1.out).more B1.out.size)
  go_upto_region 8 with (first
    | (refine wpList_load_row rfl _ _ rfl w.heap.size rfl 70 L (0, 0) _ P1.out Try.underlying70 rfl HSZ.out ?_)
    | (go_at_call 70; refine (HRF.out W1 R1.out).mono ?_; rintro e w4 ⟨rfl, hB4⟩; have B4 := Lib.hid hB4; clear hB4)
    | (refine wpList_store_row rfl _ _ _ rfl w4.heap.size L2 rfl rfl 70 Z (Blk.new w4 _ _) HSZ2.out HZ2.out HO2.out ?_))
  obtain ⟨W5, hW5⟩ : ∃ W5, W5 = (w4.alloc (.cells Z 70)).setRow w4.heap.size L2 := ⟨_, rfl⟩
  have B45 := Lib.hid (show Below w4.heap.size w4 W5 from by rw [hW5]; exact belowRow ((Below.refl _ w4).alloc (Nat.le_refl _) _) (Nat.le_refl _) _)
  have B15 := Lib.hid (show Below W1.heap.size W1 W5 from B4.out.trans (B45.out.mono B4.out.size))
  have V5 := Lib.hid (show Blk W5 w4.heap.size 70 L2 from by rw [hW5]; exact Blk.setRow (Blk.new w4 _ _))
  rw [← hW5]
  clear hW5 q1
  have n1 := B1.out.size
  have n4 := B4.out.size
  have n1b := O1.out.lt
  have Q5 := Lib.hid (Q1.out.below B15.out Q1.out.lt)
  have O5 := Lib.hid (O1.out.below B15.out O1.out.lt)
  have BW5 := Lib.hid (show Below w.heap.size w W5 from B1.out.trans (B15.out.mono n1))
  have K5 := Lib.hid (HK.out.below BW5.out hgl)
  have R5 := Lib.hid ((HR.out.below BW5.out).more BW5.out.size)
  obtain ⟨ob, hob⟩ : ∃ ob, ob = w.heap.size + 1 + 1 := ⟨_, rfl⟩
  obtain ⟨vb, hvb⟩ : ∃ vb, vb = w4.heap.size := ⟨_, rfl⟩
  obtain ⟨L2l, hL2l⟩ : ∃ L2l : List Value, L2l = L2.toList := ⟨_, rfl⟩
  have hL2a : L2 = L2l.toArray := by rw [hL2l]
  have hl225 : L2l.length = 225 := by rw [hL2l, Array.length_toList, HL2.out, rcArr_size]
  have hiz : (Try.prog.info? 70).map (·.size) = some L2l.length := by rw [hl225]; exact size70
  have hu := Try.underlying70
  have HOl : Hid (∀ v ∈ L2l, v.oneCell' = true) := Lib.hid (by
    intro v hv
    have h1 : L2.all (·.oneCell') = true := by rw [HL2.out]; exact rc_one _ _
    rw [Array.all_eq_true] at h1
    rw [hL2l] at hv
    obtain ⟨i, hi, e⟩ := List.getElem_of_mem hv
    rw [← e]
    simpa using h1 i (by simpa using hi))
  have V5b := Lib.hid (show Blk W5 vb 70 L2l.toArray from by rw [hvb, ← hL2a]; exact V5.out)
  have O5b := Lib.hid (show Blk W5 ob 70 Z from by rw [hob]; exact O5.out)
  have HZS := Lib.hid (show Z.size = 225 from by rw [HZZ.out, rcArr_size])
  have hvo : vb ≠ g ∧ vb ≠ ob := by omega
  have hqo : w.heap.size + 1 ≠ g ∧ w.heap.size + 1 ≠ ob := by omega
  have hgo : g ≠ ob := by omega
  have hobw : w.heap.size ≤ ob := by omega
  rw [← hob, ← hvb]
  have HL2A := Lib.hid hL2a
  have HQC := Lib.hid (show ∀ W : World, KB W5 g ob W → W.cell? ⟨w.heap.size + 1, 1, none⟩ = some (.slice A n c) from fun W hW => (hW.blk Q5.out hqo).cell 1)
  clear hob hvb hL2l hL2a n1 n4 n1b
  refine wp_region_held_drew (S := fun w' => KB W5 g ob w' ∧ w'.there ob 0 225) (by kernel_rfl) ⟨⟨Nat.le_refl _, fun _ _ _ _ => rfl⟩, by simpa using O5b.out.there 225 (by rw [HZS.out]; exact Nat.le_refl _)⟩ (fun hHeld => ?_)
  refine wpAnyH_take (i := 0) (oi := ⟨some 84, _, _, _, _, _⟩) (v := .pointer (some ⟨g, 0, none⟩)) rfl (by kernel_rfl) (by kernel_rfl) (by kernel_rfl) (fun _ _ _ h => h) (Or.inl ⟨by rfl, fun W hW => by rfl⟩) (by assumption) ?_
  simp only [Act.put, List.setIfInBounds_toArray, List.set_cons_zero, List.set_cons_succ]
  refine' wpAnyH_take (i := 1) (oi := ⟨some 85, _, _, _, _, _⟩) (v := _) rfl (by kernel_rfl) (by kernel_rfl) (by kernel_rfl) (fun _ _ _ h => h) (yieldsIf_load_mid (by rfl) _ _ rfl _ _ rfl L2l _ (fun w h => (h.1.blk V5b.out hvo).range L2l rfl) hu rfl hiz) (by assumption) ?_
  simp only [Act.put, List.setIfInBounds_toArray, List.set_cons_zero, List.set_cons_succ]
  refine wpAnyH_take (i := 2) (oi := ⟨some 86, _, _, _, _, _⟩) (v := .pointer (some ⟨g, 0, none⟩)) rfl (by kernel_rfl) (by kernel_rfl) (by kernel_rfl) (fun _ _ _ h => h) (Or.inl ⟨by rfl, fun W hW => by rfl⟩) (by assumption) ?_
  simp only [Act.put, List.setIfInBounds_toArray, List.set_cons_zero, List.set_cons_succ]
  refine wpAnyH_take (i := 3) (oi := ⟨some 87, _, _, _, _, _⟩) (v := .pointer (some ⟨w.heap.size + 1, 1, none⟩)) rfl (by kernel_rfl) (by kernel_rfl) (by kernel_rfl) (fun _ _ _ h => h) (Or.inl ⟨by rfl, fun W hW => (by go_simp)⟩) (by assumption) ?_
  simp only [Act.put, List.setIfInBounds_toArray, List.set_cons_zero, List.set_cons_succ]
  refine wpAnyH_take (i := 4) (oi := ⟨some 88, _, _, _, _, _⟩) (v := .slice A n c) rfl (by kernel_rfl) (by kernel_rfl) (by kernel_rfl) (fun _ _ _ h => h) (Or.inl ⟨by rfl, fun W hW => (by have s := HQC.out W hW.1; go_simp)⟩) (by assumption) ?_
  simp only [Act.put, List.setIfInBounds_toArray, List.set_cons_zero, List.set_cons_succ]
  refine wpAnyH_take (i := 7) (oi := ⟨some 91, _, _, _, _, _⟩) (v := .int .i64 E) rfl (by kernel_rfl) (by kernel_rfl) (by kernel_rfl) (fun _ _ _ h => h) (Or.inl ⟨by rfl, fun W hW => by rfl⟩) (by assumption) ?_
  simp only [Act.put, List.setIfInBounds_toArray, List.set_cons_zero, List.set_cons_succ]
  refine wpAnyH_ready (rs := [5]) (by kernel_rfl) (by simp) ?_
  refine AllReadyH.cons (o := ⟨some 89, _, _, _, _, _⟩) rfl (fun K hK => ?_) AllReadyH.nil
  go_simp
  refine (HFB.out W5.drew K5.out.drew R5.out.drew).mono ?_
  rintro e w6 ⟨rfl, hK6, hE6⟩
  have K6 := Lib.hid hK6
  have E6 := Lib.hid hE6
  have O6 := Lib.hid (hE6.blk O5b.out.drew (fun e => hgo e.symm))
  clear hK6 hE6
  dsimp only
  refine hK.out _ _ ⟨(show KB W5 g ob W5.drew from ⟨Nat.le_refl _, fun _ _ _ _ => rfl⟩).keep E6.out, O6.out.there 225 (by rw [HZS.out]; exact Nat.le_refl _)⟩ (fun hHeld => ?_)
  clear hK K
  refine wpAnyH_ready (rs := [6]) (by kernel_rfl) (by simp) ?_
  refine AllReadyH.cons (o := ⟨some 90, _, _, _, _, _⟩) rfl (fun K hK => ?_) AllReadyH.nil
  go_simp
  refine (num43_ok _ _).mono ?_
  rintro e w7 ⟨rfl, rfl⟩
  dsimp only
  refine hK.out _ _ (by assumption) (fun hHeld => ?_)
  clear hK K
  refine wpAnyH_take (i := 8) (oi := ⟨some 92, _, _, _, _, _⟩) (v := .bool true) rfl (by kernel_rfl) (by kernel_rfl) (by kernel_rfl) (fun _ _ _ h => h) (Or.inl ⟨by rfl, fun W hW => (by go_simp)⟩) (by assumption) ?_
  simp only [Act.put, List.setIfInBounds_toArray, List.set_cons_zero, List.set_cons_succ]
  refine wpAnyH_take (i := 9) (oi := ⟨some 6, _, _, _, _, _⟩) (v := .pointer (some ⟨g, 0, none⟩)) rfl (by kernel_rfl) (by kernel_rfl) (by kernel_rfl) (fun _ _ _ h => h) (Or.inl ⟨by rfl, fun W hW => by rfl⟩) (by assumption) ?_
  simp only [Act.put, List.setIfInBounds_toArray, List.set_cons_zero, List.set_cons_succ]
  refine wpAnyH_ready (rs := [10]) (by kernel_rfl) (by simp) ?_
  refine AllReadyH.cons (o := ⟨none, _, _, _, _, _⟩) rfl (fun K hK => ?_) AllReadyH.nil
  rw [if_pos (by rfl)]
  refine wp_store_mid _ _ _ rfl _ _ L2l.toArray rfl rfl (by have := hHeld.2; simpa [hl225] using this) (by simpa using hiz) (all_oneCell_toArray HOl.out) ?_
  refine hK.out _ _ ⟨hHeld.1.keepo (grownBy_setCells ob _ 0 _), World.there_setCells hHeld.2 _ _ _⟩ (fun hHeld => ?_)
  clear hK K
  simp only [Act.put]
  refine wpAnyH_take (i := 11) (oi := ⟨some 8, _, _, _, _, _⟩) (v := .bool true) rfl (by kernel_rfl) (by kernel_rfl) (by kernel_rfl) (fun _ _ _ h => h) (Or.inl ⟨by rfl, fun W hW => by rfl⟩) (by assumption) ?_
  simp only [Act.put, List.setIfInBounds_toArray, List.set_cons_zero, List.set_cons_succ]
  refine wpAnyH_done (by kernel_rfl) ?_ _
  go_wp2
  have hKo : Keep1 ob w6 (w6.setCells ob 0 L2l) := grownBy_setCells ob L2l 0 w6
  have G6 : Keep1 g w w6 := (grownBy_drew (keep_of_below BW5.out) : Keep1 g w W5.drew).trans E6.out
  refine bodyPost_ret (v := .tuple #[.pointer (some ⟨g, 0, none⟩), .agg L2l.toArray, .bool true]) (results_tmp_cell_tmp (g := ob) (t := 70) (fr := (0, 0)) Try.results39 _ _ L2l.toArray _ rfl (Blk.setWhole O6.out L2l (by rw [HZS.out, hl225])) Try.underlying70 rfl (by simpa using hiz) _ _ rfl rfl) rfl ⟨g, S2, C2, T, by rw [← HL2A.out, HL2.out], hKo.blk K6.out hgo, HAL.out, hT, by omega, .inl rfl, ?_⟩
  exact keep_own (H := ob) (n := 0) (c := 0) G6 (show w6.grownBy _ (some ob) from hKo) hobw

set_option maxRecDepth 100000 in
set_option maxHeartbeats 6400000 in
theorem act_reset (g : Nat) (S : Nat → Rx) (T : Int) (C : Nat → Cx) (what : Int) (A : Option Addr) (n c : Nat) (hw : what = 5) (hn : n = 0) (hT : 0 ≤ T) (w : World) (h : CB w g true S T) :
    Calls Try.prog 39 #[.pointer (some ⟨g, 0, none⟩), .agg (rcArr C T), .agg #[.int .i64 what, .slice A n c]] w (AOut g T w) := by
  subst hw hn
  have HNW := Lib.hid (fun W => rnew_ok W)
  have HRS := Lib.hid (fun (W : World) (hK : CB W g true S T) => reset_ok g S T W hK)
  unfold FOut at HRS
  obtain ⟨L2, hL2⟩ : ∃ L2, L2 = rcArr (fun _ => Cx.new) 0 := ⟨_, rfl⟩
  rw [← hL2] at HNW
  have HL2 := Lib.hid hL2
  have HSZ2 : Hid ((Try.prog.info? 70).map (·.size) = some L2.size) := Lib.hid (by rw [hL2, rcArr_size]; exact size70)
  have HO2 : Hid (L2.all (·.oneCell') = true) := Lib.hid (by rw [hL2]; exact rc_one _ _)
  clear hL2
  have hz0 := zero70
  obtain ⟨L, hL⟩ : ∃ L, L = rcArr C T := ⟨_, rfl⟩
  obtain ⟨Z, hZ⟩ : ∃ Z, Z = rcArr (fun _ => zeroC) 0 := ⟨_, rfl⟩
  have HL := Lib.hid hL
  have HZZ := Lib.hid hZ
  rw [← hZ] at hz0
  rw [← hL]
  have HK := Lib.hid h
  have hgl := h.lt
  clear hL hZ h
  have HZ2 : Hid (Z.size = L2.size) := Lib.hid (by rw [HL2.out, HZZ.out, rcArr_size, rcArr_size])
  go_enter Try.func39, Try.ntmps39
  go_upto_region 10 with (fail)
  obtain ⟨W1, hW1⟩ : ∃ W1, W1 = ((w.alloc (.cells L 70)).alloc (.cells #[.int .i64 5, .slice A 0 c] 75)).alloc (.cells Z 70) := ⟨_, rfl⟩
  have B1 := Lib.hid (show Below w.heap.size w W1 from by rw [hW1]; exact (((Below.refl _ w).alloc (Nat.le_refl _) _).alloc (by simp) _).alloc (by simp; omega) _)
  have P1 := Lib.hid (show Blk W1 w.heap.size 70 L from by rw [hW1]; exact ((Blk.new w _ _).alloc _).alloc _)
  have Q1 := Lib.hid (show Blk W1 (w.heap.size + 1) 75 #[.int .i64 5, .slice A 0 c] from by rw [hW1]; exact (blk_at _ _ _ _ (by simp)).alloc _)
  have O1 := Lib.hid (show Blk W1 (w.heap.size + 1 + 1) 70 Z from by rw [hW1]; exact blk_at _ _ _ _ (by simp))
  rw [← hW1]
  clear hW1
  have n1 := B1.out.size
  have n1b := O1.out.lt
  go_wp2_with (first
    | (go_at_call 33; refine (num43_ok _ _).mono ?_; rintro e w0 ⟨rfl, rfl⟩)
    | (go_at_call 38; refine (HNW.out W1).mono ?_; rintro e w4 ⟨rfl, hB4⟩; have B4 := Lib.hid hB4; clear hB4)
    | (go_at_call 46; refine (HRS.out w4 ((HK.out.below B1.out hgl).below B4.out (by omega))).mono ?_; rintro e w6 ⟨rfl, hK6, hE6⟩; have K6 := Lib.hid hK6; have E6 := Lib.hid hE6; have O6 := Lib.hid (hE6.blk (O1.out.below B4.out O1.out.lt) (by omega)); clear hK6 hE6)
    | (refine wpList_store_row rfl _ _ _ rfl (w.heap.size + 1 + 1) L2 rfl rfl 70 Z O6.out HSZ2.out HZ2.out HO2.out ?_))
  have G6 : Keep1 g w w6 := (keep_of_below (B1.out.trans (B4.out.mono n1))).trans E6.out
  refine bodyPost_ret (v := .tuple #[.pointer (some ⟨g, 0, none⟩), .agg L2, .bool true]) (results_tmp_cell_tmp (g := w.heap.size + 1 + 1) (t := 70) (fr := (0, 0)) Try.results39 _ _ L2 _ rfl (Blk.setRow O6.out) Try.underlying70 rfl HSZ2.out _ _ rfl rfl) rfl ⟨g, fun _ => Rx.zero, fun _ => Cx.new, 0, by rw [HL2.out], Blk.farRow K6.out (by omega), fun _ => alike_new, Int.le_refl _, by omega, .inl rfl, ?_⟩
  exact ⟨G6.os, G6.tape, G6.output, by rw [size_setRow]; exact G6.size, fun i hi hne => (setRow_other w6 (w.heap.size + 1 + 1) i L2 (by omega)).trans (G6.block i hi hne)⟩

set_option maxRecDepth 100000 in
set_option maxHeartbeats 6400000 in
theorem act_clone (g : Nat) (S : Nat → Rx) (T : Int) (C : Nat → Cx) (what : Int) (A : Option Addr) (n c : Nat) (hw : ¬ (0 ≤ what ∧ what < 4)) (hw4 : ¬ what = 4) (hw5 : ¬ (what = 5 ∧ n = 0)) (hT : 0 ≤ T) (H : ∀ k, Alike (S k) (C k)) (w : World) (h : CB w g true S T) :
    Calls Try.prog 39 #[.pointer (some ⟨g, 0, none⟩), .agg (rcArr C T), .agg #[.int .i64 what, .slice A n c]] w (AOut g T w) := by
  have HCL := Lib.hid (fun (W : World) (hK : CB W g true S T) => clone_made g S T W hK)
  have HAL := Lib.hid H
  have HW := Lib.hid hw
  have HW5 := Lib.hid hw5
  clear H hw hw5
  have hz0 := zero70
  obtain ⟨L, hL⟩ : ∃ L, L = rcArr C T := ⟨_, rfl⟩
  obtain ⟨Z, hZ⟩ : ∃ Z, Z = rcArr (fun _ => zeroC) 0 := ⟨_, rfl⟩
  have HL := Lib.hid hL
  have HZZ := Lib.hid hZ
  rw [← hZ] at hz0
  rw [← hL]
  have HK := Lib.hid h
  have hgl := h.lt
  clear hL hZ h
  have HSZ : Hid ((Try.prog.info? 70).map (·.size) = some L.size) := Lib.hid (by rw [HL.out, rcArr_size]; exact size70)
  have h4 : (what == 4) = false := by simpa using hw4
  clear hw4
  go_enter Try.func39, Try.ntmps39
  go_upto_region 1 with (fail)
  obtain ⟨W1, hW1⟩ : ∃ W1, W1 = ((w.alloc (.cells L 70)).alloc (.cells #[.int .i64 what, .slice A n c] 75)).alloc (.cells Z 70) := ⟨_, rfl⟩
  have B1 := Lib.hid (show Below w.heap.size w W1 from by rw [hW1]; exact (((Below.refl _ w).alloc (Nat.le_refl _) _).alloc (by simp) _).alloc (by simp; omega) _)
  have P1 := Lib.hid (show Blk W1 w.heap.size 70 L from by rw [hW1]; exact ((Blk.new w _ _).alloc _).alloc _)
  have Q1 := Lib.hid (show Blk W1 (w.heap.size + 1) 75 #[.int .i64 what, .slice A n c] from by rw [hW1]; exact (blk_at _ _ _ _ (by simp)).alloc _)
  have O1 := Lib.hid (show Blk W1 (w.heap.size + 1 + 1) 70 Z from by rw [hW1]; exact blk_at _ _ _ _ (by simp))
  rw [← hW1]
  clear hW1
  have q0 := Q1.out.cell 0
  have q1 := Q1.out.cell 1
  have n1 := B1.out.size
  have n1b := O1.out.lt
  go_cut [17] from 18 to 25 (fun v wx => v = .bool false ∧ W1 = wx)
  case first =>
    by_cases h0 : what < 0
    · go_wp2
      go_meet
      exact ⟨rfl, rfl⟩
    · have h3 : (4 : Int) ≤ what := by have := HW.out; omega
      go_wp2
      go_meet
      exact ⟨congrArg Value.bool (decide_eq_false (by omega)), rfl⟩
  case rest =>
  obtain ⟨rfl, rfl⟩ := hcut
  go_upto_region 9 with (fail)
  go_cut [93] from 94 to 102 (fun v wx => v = .bool false ∧ W1 = wx)
  case first =>
    by_cases h5 : what = 5
    · have hn0 : ((n : Int) == 0) = false := by have := HW5.out; simp; omega
      have h51 : (what == 5) = true := by simpa using h5
      clear h5
      go_wp2
      go_meet
      exact ⟨rfl, rfl⟩
    · have h51 : (what == 5) = false := by simpa using h5
      clear h5
      go_wp2
      go_meet
      exact ⟨rfl, rfl⟩
  case rest =>
  obtain ⟨rfl, rfl⟩ := hcut
  go_upto_region 11 with (fail)
  obtain ⟨ob, hob⟩ : ∃ ob, ob = w.heap.size + 1 + 1 := ⟨_, rfl⟩
  obtain ⟨Ll, hLl⟩ : ∃ Ll : List Value, Ll = L.toList := ⟨_, rfl⟩
  have hLa : L = Ll.toArray := by rw [hLl]
  have hl225 : Ll.length = 225 := by rw [hLl, Array.length_toList, HL.out, rcArr_size]
  have hiz : (Try.prog.info? 70).map (·.size) = some Ll.length := by rw [hl225]; exact size70
  have hu := Try.underlying70
  have HOl : Hid (∀ v ∈ Ll, v.oneCell' = true) := Lib.hid (by
    intro v hv
    have h1 : L.all (·.oneCell') = true := by rw [HL.out]; exact rc_one _ _
    rw [Array.all_eq_true] at h1
    rw [hLl] at hv
    obtain ⟨i, hi, e⟩ := List.getElem_of_mem hv
    rw [← e]
    simpa using h1 i (by simpa using hi))
  have P1b := Lib.hid (show Blk W1 w.heap.size 70 Ll.toArray from by rw [← hLa]; exact P1.out)
  have O1b := Lib.hid (show Blk W1 ob 70 Z from by rw [hob]; exact O1.out)
  have HZS := Lib.hid (show Z.size = 225 from by rw [HZZ.out, rcArr_size])
  have hpo : w.heap.size ≠ g ∧ w.heap.size ≠ ob := by omega
  have hgo : g ≠ ob := by omega
  have hobw : w.heap.size ≤ ob := by omega
  rw [← hob]
  have HLA := Lib.hid hLa
  have K1 := Lib.hid (HK.out.below B1.out hgl)
  have hob1 : ob < W1.heap.size := by omega
  clear hob hLl hLa n1b q0 q1
  refine wp_region_held_drew (S := fun w' => KB W1 g ob w' ∧ w'.there ob 0 225) (by kernel_rfl) ⟨⟨Nat.le_refl _, fun _ _ _ _ => rfl⟩, by simpa using O1b.out.there 225 (by rw [HZS.out]; exact Nat.le_refl _)⟩ (fun hHeld => ?_)
  refine wpAnyH_take (i := 0) (oi := ⟨some 109, _, _, _, _, _⟩) (v := .pointer (some ⟨g, 0, none⟩)) rfl (by kernel_rfl) (by kernel_rfl) (by kernel_rfl) (fun _ _ _ h => h) (Or.inl ⟨by rfl, fun W hW => by rfl⟩) (by assumption) ?_
  simp only [Act.put, List.setIfInBounds_toArray, List.set_cons_zero, List.set_cons_succ]
  refine' wpAnyH_take (i := 2) (oi := ⟨some 111, _, _, _, _, _⟩) (v := _) rfl (by kernel_rfl) (by kernel_rfl) (by kernel_rfl) (fun _ _ _ h => h) (yieldsIf_load_mid (by rfl) _ _ rfl _ _ rfl Ll _ (fun w h => (h.1.blk P1b.out hpo).range Ll rfl) hu rfl hiz) (by assumption) ?_
  simp only [Act.put, List.setIfInBounds_toArray, List.set_cons_zero, List.set_cons_succ]
  refine wpAnyH_ready (rs := [1]) (by kernel_rfl) (by simp) ?_
  refine AllReadyH.cons (o := ⟨some 110, _, _, _, _, _⟩) rfl (fun K hK => ?_) AllReadyH.nil
  go_simp
  refine (HCL.out W1.drew K1.out.drew).mono ?_
  rintro e w6 ⟨rfl, hK6, hB6⟩
  have K6 := Lib.hid hK6
  have B6 := Lib.hid hB6
  have O6 := Lib.hid (O1b.out.drew.below hB6 hob1)
  clear hK6 hB6
  dsimp only
  refine hK.out _ _ ⟨(show KB W1 g ob W1.drew from ⟨Nat.le_refl _, fun _ _ _ _ => rfl⟩).keep (keep_of_below B6.out), O6.out.there 225 (by rw [HZS.out]; exact Nat.le_refl _)⟩ (fun hHeld => ?_)
  clear hK K
  refine wpAnyH_take (i := 3) (oi := ⟨some 6, _, _, _, _, _⟩) (v := .pointer (some ⟨W1.heap.size, 0, none⟩)) rfl (by kernel_rfl) (by kernel_rfl) (by kernel_rfl) (fun _ _ _ h => h) (Or.inl ⟨by rfl, fun W hW => by rfl⟩) (by assumption) ?_
  simp only [Act.put, List.setIfInBounds_toArray, List.set_cons_zero, List.set_cons_succ]
  refine wpAnyH_ready (rs := [4]) (by kernel_rfl) (by simp) ?_
  refine AllReadyH.cons (o := ⟨none, _, _, _, _, _⟩) rfl (fun K hK => ?_) AllReadyH.nil
  rw [if_pos (by rfl)]
  refine wp_store_mid _ _ _ rfl _ _ Ll.toArray rfl rfl (by have := hHeld.2; simpa [hl225] using this) (by simpa using hiz) (all_oneCell_toArray HOl.out) ?_
  refine hK.out _ _ ⟨hHeld.1.keepo (grownBy_setCells ob _ 0 _), World.there_setCells hHeld.2 _ _ _⟩ (fun hHeld => ?_)
  clear hK K
  simp only [Act.put]
  refine wpAnyH_take (i := 5) (oi := ⟨some 8, _, _, _, _, _⟩) (v := .bool true) rfl (by kernel_rfl) (by kernel_rfl) (by kernel_rfl) (fun _ _ _ h => h) (Or.inl ⟨by rfl, fun W hW => by rfl⟩) (by assumption) ?_
  simp only [Act.put, List.setIfInBounds_toArray, List.set_cons_zero, List.set_cons_succ]
  refine wpAnyH_done (by kernel_rfl) ?_ _
  go_wp2
  have hKo : Keep1 ob w6 (w6.setCells ob 0 Ll) := grownBy_setCells ob Ll 0 w6
  have G6 : Keep1 g w w6 := (grownBy_drew (keep_of_below B1.out) : Keep1 g w W1.drew).trans (keep_of_below B6.out)
  refine bodyPost_ret (v := .tuple #[.pointer (some ⟨W1.heap.size, 0, none⟩), .agg Ll.toArray, .bool true]) (results_tmp_cell_tmp (g := ob) (t := 70) (fr := (0, 0)) Try.results39 _ _ Ll.toArray _ rfl (Blk.setWhole O6.out Ll (by rw [HZS.out, hl225])) Try.underlying70 rfl (by simpa using hiz) _ _ rfl rfl) rfl ⟨W1.heap.size, S, C, T, by rw [← HLA.out, HL.out], hKo.blk K6.out (by show W1.heap.size ≠ ob; omega), HAL.out, hT, by omega, .inr n1, ?_⟩
  exact keep_own (H := ob) (n := 0) (c := 0) G6 (show w6.grownBy _ (some ob) from hKo) hobw
end Go.Proofs.Ytejadoadpgcpjaa
namespace Go.Proofs.Ytejadoadpgcpjaa
open Go.RowKit Go.ChangeShapes Go.WideShapes

attribute [local go_sem ↓] Go.wp_at_zero Go.wp_at_succ

/-- a slice of m calls -/
structure Acts (w : World) (A : Option Addr) (m : Nat) (wh : Nat → Int) (PA : Nat → Option Addr) (pn pc : Nat → Nat) (z : Nat → Nat → Int) : Prop where
  at_ : m ≠ 0 → ∃ lb lo, A = some ⟨lb, lo, none⟩ ∧ lb < w.heap.size ∧ ∀ k, k < m → w.cell? ⟨lb, lo + k * 2, none⟩ = some (.int .i64 (wh k)) ∧ w.cell? ⟨lb, lo + k * 2 + 1, none⟩ = some (.slice (PA k) (pn k) (pc k))
  cap : ∀ k, k < m → pn k ≤ pc k
  byte : ∀ k, k < m → ∀ j, j < pn k → 0 ≤ z k j ∧ z k j < 256
  row : ∀ k, k < m → Row w w.heap.size (PA k) (pn k) (fun j => .int .u8 (z k j))
theorem open_bytes_row {H : Type} {enc : TypeId × Value → H} {w : World} {base : Nat} {spare : Nat → Bool} {held : Bool} {fuel : Nat} {v : Value} {x : DataW H × List MemPlace} (h : DataW.trod enc Try.prog w base spare held fuel 22 [v] = some x) (hsp : ∀ b, spare b = true) :
    ∃ a len cap zs, v = .slice a len cap ∧ IsRow .u8 w a len cap zs := by
  rcases open_ints Try.underlying22 Try.underlying5 (by kernel_rfl) h with ⟨hcs, _⟩ | ⟨x, l, c, zs, hcs, _, hl, hm, hz, _, hcell, hwz⟩
  · simp at hcs
    subst hcs
    exact ⟨none, 0, 0, [], rfl, .inl ⟨rfl, rfl, rfl, rfl⟩⟩
  · simp at hcs
    subst hcs
    rw [if_pos (hsp _)] at hz
    exact ⟨some x, l, c, zs, rfl, .inr ⟨x, rfl, hl, hm, hz, hcell, hwz⟩⟩
theorem open_acts {H : Type} {enc : TypeId × Value → H} {w : World} {base : Nat} {spare : Nat → Bool} {held : Bool} {fuel : Nat} {a : Option Addr} {len cap : Nat} {x : DataW H × List MemPlace}
    (h : DataW.trod enc Try.prog w base spare held fuel 64 [.slice a len cap] = some x) (hsp : ∀ b, spare b = true) :
    len ≤ maxLen ∧ len ≤ cap ∧ ∃ wh PA pn pc z, Acts w a len wh PA pn pc z := by
  rcases Go.Deep.open_slice_pairs Try.underlying64 Try.underlying75 (by kernel_rfl) rfl rfl (by kernel_rfl) (by kernel_rfl) h with ⟨hcs, _⟩ | ⟨ad, l, c, m, n, V0, V1, D0, D1, P0, P1, hcs, _, hl, hm, hmm, _, hf⟩
  · simp at hcs
    obtain ⟨rfl, rfl, rfl⟩ := hcs
    exact ⟨by unfold maxLen; omega, Nat.le_refl _, fun _ => 0, fun _ => none, fun _ => 0, fun _ => 0, fun _ _ => 0, ⟨fun h => absurd rfl h, fun k hk => by omega, fun k hk => by omega, fun k hk => by omega⟩⟩
  · simp at hcs
    obtain ⟨rfl, rfl, rfl⟩ := hcs
    rw [if_pos (hsp _)] at hmm
    subst hmm
    have h0 : ∀ i, ∃ q : Int, i < len → V0 i = .int .i64 q ∧ (Lit.int .i64 q).wf = true := fun i => by
      by_cases hi : i < len
      · obtain ⟨q, hq, _, hw⟩ := DataW.trod_int Try.underlying3 (hf i (by omega)).2.2.1
        exact ⟨q, fun _ => ⟨by simpa using hq, hw⟩⟩
      · exact ⟨0, fun h => absurd h hi⟩
    have h1 : ∀ i, ∃ q : Option Addr × Nat × Nat × List Int, i < len → V1 i = .slice q.1 q.2.1 q.2.2.1 ∧ IsRow .u8 w q.1 q.2.1 q.2.2.1 q.2.2.2 := fun i => by
      by_cases hi : i < len
      · obtain ⟨a, l, c, zs, hv, hr⟩ := open_bytes_row (hf i (by omega)).2.2.2 hsp
        exact ⟨(a, l, c, zs), fun _ => ⟨hv, hr⟩⟩
      · exact ⟨(none, 0, 0, []), fun h => absurd h hi⟩
    obtain ⟨q0, hq0⟩ := Classical.axiomOfChoice h0
    obtain ⟨q1, hq1⟩ := Classical.axiomOfChoice h1
    refine ⟨by omega, hl, q0, fun k => (q1 k).1, fun k => (q1 k).2.1, fun k => (q1 k).2.2.1, fun k j => (q1 k).2.2.2.getD j 0, ⟨fun hn => ?_, fun k hk => (isRow_u8 (hq1 k hk).2).1, fun k hk => (isRow_u8 (hq1 k hk).2).2, fun k hk => isRow_row (hq1 k hk).2⟩⟩
    · obtain ⟨b, off, spot⟩ := ad
      have c0 := (hf 0 (by omega)).1
      have hspot : spot = none := by simpa [Addr.add] using World.cell?_spot c0
      subst hspot
      have hadd : ∀ j, (⟨b, off, none⟩ : Addr).add j = ⟨b, off + j, none⟩ := fun j => by unfold Addr.add; split <;> simp_all
      refine ⟨b, off, rfl, ?_, fun k hk => ?_⟩
      · rw [hadd] at c0
        exact World.block_lt_of_cell? w _ c0
      · obtain ⟨e0, e1, _, _⟩ := hf k (by omega)
        rw [hadd] at e0 e1
        rw [(hq0 k hk).1] at e0
        rw [(hq1 k hk).1] at e1
        exact ⟨e0, e1⟩
theorem Acts.below {w w' : World} {A : Option Addr} {m : Nat} {wh : Nat → Int} {PA : Nat → Option Addr} {pn pc : Nat → Nat} {z : Nat → Nat → Int} (h : Acts w A m wh PA pn pc z) (hb : Below w.heap.size w w') : Acts w' A m wh PA pn pc z :=
  ⟨fun hm => by
    obtain ⟨lb, lo, e, hlt, hc⟩ := h.at_ hm
    exact ⟨lb, lo, e, Nat.lt_of_lt_of_le hlt hb.size, fun k hk => ⟨(hb.cell (p := ⟨lb, lo + k * 2, none⟩) hlt).trans (hc k hk).1, (hb.cell (p := ⟨lb, lo + k * 2 + 1, none⟩) hlt).trans (hc k hk).2⟩⟩, h.cap, h.byte, fun k hk => (h.row k hk).next hb⟩

theorem few_yes (A : Option Addr) (m c : Nat) (most : Int) (wh : Nat → Int) (PA : Nat → Option Addr) (pn pc : Nat → Nat) (z : Nat → Nat → Int) (w : World) (h : Acts w A m wh PA pn pc z) (hm : (m : Int) ≤ most) (hall : ∀ k, k < m → pn k ≤ 100) (hmx : m ≤ maxLen) :
    Calls Try.prog 37 #[.slice A m c, .int .i64 most] w fun e w' => e = .returned (.bool true) ∧ w = w' := by
  unfold maxLen at hmx
  have H := Lib.hid h
  have HA := Lib.hid hall
  have h1 : ¬ most < (m : Int) := by omega
  clear h hall
  go_enter Try.func37, Try.ntmps37
  go_wp2
  go_loop [5] (fun v => ∃ k : Nat, k ≤ m ∧ v = .int .i64 k) (fun v => m - (intOf v).toNat)
  case atStart => exact ⟨0, by omega, rfl⟩
  case round =>
    obtain ⟨k, hk, rfl⟩ := hrel
    by_cases hlt : k < m
    · obtain ⟨lb, lo, rfl, _, hc⟩ := H.out.at_ (by omega)
      have c1 := (hc k hlt).2
      have hp : ¬ (100 : Int) < (pn k : Int) := by have := HA.out k hlt; omega
      clear hc
      go_wp2
      go_round
      case rel => exact ⟨k + 1, by omega, by go_num⟩
      case measure => simp [intOf]; omega
    · obtain rfl : k = m := by omega
      go_wp2
      go_ret
      exact ⟨rfl, rfl⟩
theorem few_no (A : Option Addr) (m c : Nat) (most : Int) (wh : Nat → Int) (PA : Nat → Option Addr) (pn pc : Nat → Nat) (z : Nat → Nat → Int) (w : World) (h : Acts w A m wh PA pn pc z) (hno : ¬ ((m : Int) ≤ most ∧ ∀ k, k < m → pn k ≤ 100)) (hmx : m ≤ maxLen) :
    Calls Try.prog 37 #[.slice A m c, .int .i64 most] w fun e w' => e = .returned (.bool false) ∧ w = w' := by
  unfold maxLen at hmx
  by_cases hm : (m : Int) ≤ most
  · have H := Lib.hid h
    have HN := Lib.hid (show ¬ ∀ k, k < m → pn k ≤ 100 from fun h => hno ⟨hm, h⟩)
    have h1 : ¬ most < (m : Int) := by omega
    clear h hno
    go_enter Try.func37, Try.ntmps37
    go_wp2
    go_loop [5] (fun v => ∃ k : Nat, k ≤ m ∧ v = .int .i64 k ∧ ∀ j, j < k → pn j ≤ 100) (fun v => m - (intOf v).toNat)
    case atStart => exact ⟨0, by omega, rfl, fun j hj => by omega⟩
    case round =>
      obtain ⟨k, hk, rfl, hall⟩ := hrel
      have HA := Lib.hid hall
      clear hall
      by_cases hlt : k < m
      · obtain ⟨lb, lo, rfl, _, hc⟩ := H.out.at_ (by omega)
        have c1 := (hc k hlt).2
        clear hc
        by_cases hp : (100 : Int) < (pn k : Int)
        · go_wp2
          go_ret
          exact ⟨rfl, rfl⟩
        · go_wp2
          go_round
          case rel => exact ⟨k + 1, by omega, by go_num, fun j hj => by by_cases hjk : j = k; (subst hjk; omega); exact HA.out j (by omega)⟩
          case measure => simp [intOf]; omega
      · exact absurd (fun j hj => HA.out j (by omega)) HN.out
  · have h1 : most < (m : Int) := by omega
    clear h hno hm
    go_enter Try.func37, Try.ntmps37
    go_wp2
    go_ret
    exact ⟨rfl, rfl⟩

theorem act_ok (g : Nat) (S : Nat → Rx) (T : Int) (C : Nat → Cx) (what : Int) (A : Option Addr) (n c : Nat) (z : Nat → Int) (hn : n ≤ 100) (hnc : n ≤ c) (hz : ∀ j, j < n → 0 ≤ z j ∧ z j < 256) (hT : 0 ≤ T ∧ T < 4611686018427387904) (H : ∀ k, Alike (S k) (C k)) (w : World) (h : CB w g true S T) (hr : Row w w.heap.size A n (fun j => .int .u8 (z j))) (hg : ∀ a, A = some a → n ≠ 0 → a.block ≠ g) :
    Calls Try.prog 39 #[.pointer (some ⟨g, 0, none⟩), .agg (rcArr C T), .agg #[.int .i64 what, .slice A n c]] w (AOut g T w) := by
  by_cases h1 : 0 ≤ what ∧ what < 4
  · exact act_compress g S T C what A n c z h1 hn hnc hz hT H w h hr hg
  · by_cases h4 : what = 4
    · exact act_feedback g S T C what A n c z h4 hn hz hT.1 H w h hr hg
    · by_cases h5 : what = 5 ∧ n = 0
      · exact act_reset g S T C what A n c h5.1 h5.2 hT.1 w h
      · exact act_clone g S T C what A n c h1 h4 h5 hT.1 H w h
end Go.Proofs.Ytejadoadpgcpjaa
namespace Go.Proofs.Ytejadoadpgcpjaa
open Go.RowKit

attribute [local go_sem ↓] Go.wp_at_zero Go.wp_at_succ

/-- the two sides stand alike: the compressor at gc, the reference's value in block wb -/
def Side (w : World) (wb gc : Nat) (T : Int) (W : World) : Prop :=
  ∃ S C, CB W gc true S T ∧ (∀ k, Alike (S k) (C k)) ∧ Blk W wb 70 (rcArr C T) ∧ 0 ≤ T ∧ w.heap.size ≤ gc ∧ gc ≠ wb ∧ Below w.heap.size w W

/-- what stands behind the call of act -/
def Mid7 (w : World) (wb : Nat) (C : Nat → Cx) (T : Int) (k : Nat) (v6 v7 v8 : Value) (W : World) : Prop :=
  ∃ (gc vb : Nat) (T' : Int) (S' : Nat → Rx) (C' : Nat → Cx), v6 = .pointer (some ⟨gc, 0, none⟩) ∧ v7 = .pointer (some ⟨vb, 0, none⟩) ∧ v8 = .bool true ∧ CB W gc true S' T' ∧ (∀ k, Alike (S' k) (C' k)) ∧ Blk W vb 70 (rcArr C' T') ∧ 0 ≤ T' ∧ T' ≤ k + 1 ∧ w.heap.size ≤ gc ∧ gc ≠ wb ∧ gc ≠ vb ∧ vb ≠ wb ∧ w.heap.size ≤ vb ∧ Blk W wb 70 (rcArr C T) ∧ Below w.heap.size w W

set_option maxRecDepth 100000 in
set_option maxHeartbeats 6400000 in
theorem plays_walk (A : Option Addr) (m c : Nat) (wh : Nat → Int) (PA : Nat → Option Addr) (pn pc : Nat → Nat) (z : Nat → Nat → Int) (w : World) (hA : Acts w A m wh PA pn pc z) (hmx : m ≤ maxLen) :
    Calls Try.prog 11 #[.slice A m c] w fun e w' => e = .returned (.bool true) ∧ Below w.heap.size w w' := by
  have HW := Lib.hid (fun W => works43_true W)
  by_cases hfew : (m : Int) ≤ 60 ∧ ∀ k, k < m → pn k ≤ 100
  rotate_left
  · have HF := Lib.hid (few_no A m c 60 wh PA pn pc z w hA hfew hmx)
    clear hA hfew
    go_enter Try.func11, Try.ntmps11
    go_wp2_with (first
      | (go_at_call 37; refine (HF.out).mono ?_; rintro e w1 ⟨rfl, rfl⟩)
      | (go_at_call 30; refine (HW.out _).mono ?_; rintro e w1 ⟨rfl, hB1⟩))
    go_ret
    exact ⟨rfl, hB1⟩
  obtain ⟨hm60, hall⟩ := hfew
  have HF := Lib.hid (few_yes A m c 60 wh PA pn pc z w hA hm60 hall hmx)
  have HA := Lib.hid hA
  have HALL := Lib.hid hall
  have HNW := Lib.hid (fun W => rnew_ok W)
  have hz0 := zero70
  obtain ⟨L0, hL0⟩ : ∃ L0, L0 = rcArr (fun _ => Cx.new) 0 := ⟨_, rfl⟩
  obtain ⟨Z, hZ⟩ : ∃ Z, Z = rcArr (fun _ => zeroC) 0 := ⟨_, rfl⟩
  rw [← hL0] at HNW
  rw [← hZ] at hz0
  have HL0 := Lib.hid hL0
  have HZZ := Lib.hid hZ
  have HSZ0 : Hid ((Try.prog.info? 70).map (·.size) = some L0.size) := Lib.hid (by rw [hL0, rcArr_size]; exact size70)
  have HZ0 : Hid (Z.size = L0.size) := Lib.hid (by rw [hL0, hZ, rcArr_size, rcArr_size])
  have HO0 : Hid (L0.all (·.oneCell') = true) := Lib.hid (by rw [hL0]; exact rc_one _ _)
  clear hA hall hL0 hZ hmx
  go_enter Try.func11, Try.ntmps11
  go_upto_region 4 with (first
    | (go_at_call 37; refine (HF.out).mono ?_; rintro e w1 ⟨rfl, rfl⟩)
    | (go_at_call 31; refine (new_ok2 _).mono ?_; rintro e w1 ⟨rfl, hK1, hB1⟩; have K1 := Lib.hid hK1; have B1 := Lib.hid hB1; clear hK1 hB1)
    | (go_at_call 38; refine (HNW.out w1).mono ?_; rintro e w2 ⟨rfl, hB2⟩; have B2 := Lib.hid hB2; clear hB2)
    | (refine wpList_store_row rfl _ _ _ rfl w2.heap.size L0 rfl rfl 70 Z (Blk.new w2 _ _) HSZ0.out HZ0.out HO0.out ?_))
  obtain ⟨wb, hwb⟩ : ∃ wb, wb = w2.heap.size := ⟨_, rfl⟩
  obtain ⟨W3, hW3⟩ : ∃ W3, W3 = (w2.alloc (.cells Z 70)).setRow w2.heap.size L0 := ⟨_, rfl⟩
  have SD := Lib.hid (show Side w wb w.heap.size 0 W3 from by
    have hb23 : Below w2.heap.size w2 W3 := by rw [hW3]; exact belowRow ((Below.refl _ w2).alloc (Nat.le_refl _) _) (Nat.le_refl _) _
    have hb13 : Below w1.heap.size w1 W3 := B2.out.trans (hb23.mono B2.out.size)
    refine ⟨S0, fun _ => Cx.new, K1.out.below hb13 K1.out.lt, fun _ => alike_new, ?_, Int.le_refl _, Nat.le_refl _, ?_, B1.out.trans (hb13.mono B1.out.size)⟩
    · rw [hwb, hW3, ← HL0.out]; exact Blk.setRow (Blk.new w2 _ _)
    · have := K1.out.lt; have := B2.out.size; omega)
  rw [← hW3, ← hwb]
  have hwbw : w.heap.size < wb := by have := K1.out.lt; have := B2.out.size; omega
  clear hW3 hwb
  go_wp2
  go_loopw [3, 5] (fun v3 v5 wr => ∃ (k gc : Nat) (T : Int), k ≤ m ∧ v5 = .int .i64 k ∧ v3 = .pointer (some ⟨gc, 0, none⟩) ∧ T ≤ k ∧ Side w wb gc T wr) (fun _ v5 _ => m - (intOf v5).toNat)
  case atStart => exact ⟨0, w.heap.size, 0, by omega, rfl, rfl, by omega, SD.out⟩
  case round =>
    obtain ⟨k, gc, T, hk, rfl, rfl, hTk, S, C, hKc, hAl, hWb, hT0, hgc, hgw, hBr⟩ := hrel
    by_cases hlt : k < m
    · obtain ⟨lb, lo, rfl, hlb, hcl⟩ := HA.out.at_ (by omega)
      obtain ⟨q0, q1⟩ := hcl k hlt
      have HACT := Lib.hid (fun (W : World) (hK : CB W gc true S T) (hR : Row W W.heap.size (PA k) (pn k) (fun j => .int .u8 (z k j))) => act_ok gc S T C (wh k) (PA k) (pn k) (pc k) (z k) (HALL.out k hlt) (HA.out.cap k hlt) (HA.out.byte k hlt) ⟨hT0, by omega⟩ hAl W hK hR (fun a e h0 => by
        obtain ⟨b, off, e2, hb, _⟩ := HA.out.row k hlt (by omega)
        rw [e] at e2; cases e2
        show b ≠ gc; omega))
      unfold AOut at HACT
      have KC := Lib.hid hKc
      have WB := Lib.hid hWb
      have BR := Lib.hid hBr
      obtain ⟨Ll, hLl⟩ : ∃ Ll : List Value, Ll = (rcArr C T).toList := ⟨_, rfl⟩
      have hLa : rcArr C T = Ll.toArray := by rw [hLl]
      have hl225 : Ll.length = 225 := by rw [hLl, Array.length_toList, rcArr_size]
      have hiz : (Try.prog.info? 70).map (·.size) = some Ll.length := by rw [hl225]; exact size70
      have hu := Try.underlying70
      rw [hLa] at HACT
      have WB2 := Lib.hid (show Blk wr wb 70 Ll.toArray from by rw [← hLa]; exact hWb)
      have RK := Lib.hid (show Row wr wr.heap.size (PA k) (pn k) (fun j => .int .u8 (z k j)) from ((HA.out.row k hlt).below hBr).more hBr.size)
      have hgcl := hKc.lt
      have hwbl := hWb.lt
      have hbrs := hBr.size
      have lg : lb ≠ gc := by omega
      have hq0 : ∀ W : World, KB wr gc gc W → W.cell? ⟨lb, lo + k * 2, none⟩ = some (.int .i64 (wh k)) := fun W hW => (World.cell?_of_block (hW.2 lb (by omega) lg lg)).trans ((hBr.cell (p := ⟨lb, lo + k * 2, none⟩) hlb).trans q0)
      have hq1 : ∀ W : World, KB wr gc gc W → W.cell? ⟨lb, lo + k * 2 + 1, none⟩ = some (.slice (PA k) (pn k) (pc k)) := fun W hW => (World.cell?_of_block (hW.2 lb (by omega) lg lg)).trans ((hBr.cell (p := ⟨lb, lo + k * 2 + 1, none⟩) hlb).trans q1)
      have HQ0 := Lib.hid hq0
      have HQ1 := Lib.hid hq1
      have k0 : (0 : Int) ≤ (k : Int) := by omega
      have k1 : (k : Int) < (m : Int) := by omega
      clear hKc hWb hBr hAl hLl hLa hq0 hq1 q0 q1 hcl
      go_upto_region 7 with (fail)
      go_cut [6, 7, 8] from 21 to 31 (fun v6 v7 v8 wx => Mid7 w wb C T k v6 v7 v8 wx)
      case first =>
        refine wp_region_held_drew (S := fun w' => KB wr gc gc w') (by kernel_rfl) ⟨Nat.le_refl _, fun _ _ _ _ => rfl⟩ (fun hHeld => ?_)
        refine wpAnyH_take (i := 0) (oi := ⟨some 22, _, _, _, _, _⟩) (v := .pointer (some ⟨gc, 0, none⟩)) rfl (by kernel_rfl) (by kernel_rfl) (by kernel_rfl) (fun _ _ _ h => h) (Or.inl ⟨by rfl, fun W hW => by rfl⟩) (by assumption) ?_
        simp only [Act.put, List.setIfInBounds_toArray, List.set_cons_zero, List.set_cons_succ]
        refine' wpAnyH_take (i := 1) (oi := ⟨some 23, _, _, _, _, _⟩) (v := _) rfl (by kernel_rfl) (by kernel_rfl) (by kernel_rfl) (fun _ _ _ h => h) (yieldsIf_load_mid (by rfl) _ _ rfl _ _ rfl Ll _ (fun w h => (KB.blk h WB2.out ⟨fun e => hgw e.symm, fun e => hgw e.symm⟩).range Ll rfl) hu rfl hiz) (by assumption) ?_
        simp only [Act.put, List.setIfInBounds_toArray, List.set_cons_zero, List.set_cons_succ]
        refine wpAnyH_take (i := 2) (oi := ⟨some 24, _, _, _, _, _⟩) (v := .slice (some ⟨lb, lo, none⟩) m c) rfl (by kernel_rfl) (by kernel_rfl) (by kernel_rfl) (fun _ _ _ h => h) (Or.inl ⟨by rfl, fun W hW => by rfl⟩) (by assumption) ?_
        simp only [Act.put, List.setIfInBounds_toArray, List.set_cons_zero, List.set_cons_succ]
        refine wpAnyH_take (i := 3) (oi := ⟨some 25, _, _, _, _, _⟩) (v := .int .i64 (k : Int)) rfl (by kernel_rfl) (by kernel_rfl) (by kernel_rfl) (fun _ _ _ h => h) (Or.inl ⟨by rfl, fun W hW => by rfl⟩) (by assumption) ?_
        simp only [Act.put, List.setIfInBounds_toArray, List.set_cons_zero, List.set_cons_succ]
        refine wpAnyH_take (i := 4) (oi := ⟨some 26, _, _, _, _, _⟩) (v := .pointer (some ⟨lb, lo + k * 2, none⟩)) rfl (by kernel_rfl) (by kernel_rfl) (by kernel_rfl) (fun _ _ _ h => h) (Or.inl ⟨by rfl, fun W hW => (by go_simp)⟩) (by assumption) ?_
        simp only [Act.put, List.setIfInBounds_toArray, List.set_cons_zero, List.set_cons_succ]
        refine wpAnyH_take (i := 5) (oi := ⟨some 27, _, _, _, _, _⟩) (v := .agg #[.int .i64 (wh k), .slice (PA k) (pn k) (pc k)]) rfl (by kernel_rfl) (by kernel_rfl) (by kernel_rfl) (fun _ _ _ h => h) (Or.inl ⟨by rfl, fun W hW => (by have s0 := HQ0.out W hW; have s1 := HQ1.out W hW; go_simp)⟩) (by assumption) ?_
        simp only [Act.put, List.setIfInBounds_toArray, List.set_cons_zero, List.set_cons_succ]
        refine wpAnyH_ready (rs := [6, 11]) (by kernel_rfl) (by simp) ?_
        refine AllReadyH.cons (o := ⟨some 28, _, _, _, _, _⟩) rfl (fun K hK => ?_) (AllReadyH.cons (o := ⟨some 7, _, _, _, _, _⟩) rfl (fun K hK => ?_) AllReadyH.nil)
        · go_simp
          refine (HACT.out wr.drew KC.out.drew RK.out.drew).mono ?_
          rintro e w6 ⟨g', S', C', T', rfl, hK6, hAl6, h06, hT6, hg6, hE6⟩
          obtain ⟨Lp, hLp⟩ : ∃ Lp : List Value, Lp = (rcArr C' T').toList := ⟨_, rfl⟩
          have hLpa : rcArr C' T' = Lp.toArray := by rw [hLp]
          have hlp : Lp.length = 225 := by rw [hLp, Array.length_toList, rcArr_size]
          have hip : (Try.prog.info? 70).map (·.size) = some Lp.length := by rw [hlp]; exact size70
          have HOp : Hid (∀ v ∈ Lp, v.oneCell' = true) := Lib.hid (by
            intro v hv
            have h1 := rc_one C' T'
            rw [Array.all_eq_true] at h1
            rw [hLp] at hv
            obtain ⟨i, hi, e⟩ := List.getElem_of_mem hv
            rw [← e]
            simpa using h1 i (by simpa using hi))
          have K6 := Lib.hid hK6
          have E6 := Lib.hid hE6
          have HLPA := Lib.hid hLpa
          rw [hLpa]
          clear hK6 hE6 hLp hLpa
          dsimp only
          refine hK.out _ _ ((show KB wr gc gc wr.drew from ⟨Nat.le_refl _, fun _ _ _ _ => rfl⟩).keep E6.out) (fun hHeld => ?_)
          clear hK K
          refine wpAnyH_take (i := 7) (oi := ⟨some 21, _, _, _, _, _⟩) (v := .tuple #[.pointer (some ⟨g', 0, none⟩), .agg Lp.toArray, .bool true]) rfl (by kernel_rfl) (by kernel_rfl) (by kernel_rfl) (fun _ _ _ h => h) (Or.inl ⟨by rfl, fun W hW => by rfl⟩) (by assumption) ?_
          simp only [Act.put, List.setIfInBounds_toArray, List.set_cons_zero, List.set_cons_succ]
          refine wpAnyH_take (i := 8) (oi := ⟨some 29, _, _, _, _, _⟩) (v := .pointer (some ⟨g', 0, none⟩)) rfl (by kernel_rfl) (by kernel_rfl) (by kernel_rfl) (fun _ _ _ h => h) (Or.inl ⟨by rfl, fun W hW => (by go_simp)⟩) (by assumption) ?_
          simp only [Act.put, List.setIfInBounds_toArray, List.set_cons_zero, List.set_cons_succ]
          refine wpAnyH_take (i := 9) (oi := ⟨some 30, _, _, _, _, _⟩) (v := .agg Lp.toArray) rfl (by kernel_rfl) (by kernel_rfl) (by kernel_rfl) (fun _ _ _ h => h) (Or.inl ⟨by rfl, fun W hW => (by go_simp)⟩) (by assumption) ?_
          simp only [Act.put, List.setIfInBounds_toArray, List.set_cons_zero, List.set_cons_succ]
          refine wpAnyH_take (i := 10) (oi := ⟨some 31, _, _, _, _, _⟩) (v := .bool true) rfl (by kernel_rfl) (by kernel_rfl) (by kernel_rfl) (fun _ _ _ h => h) (Or.inl ⟨by rfl, fun W hW => (by go_simp)⟩) (by assumption) ?_
          simp only [Act.put, List.setIfInBounds_toArray, List.set_cons_zero, List.set_cons_succ]
          refine wpAnyH_ready (rs := [11]) (by kernel_rfl) (by simp) ?_
          refine AllReadyH.cons (o := ⟨some 7, _, _, _, _, _⟩) rfl (fun K hK => ?_) AllReadyH.nil
          go_simp
          refine hK.out _ _ (hHeld.keep (World.grownBy_alloc w6 _ _)) (fun hHeld => ?_)
          clear hK K
          refine wpAnyH_take (i := 12) (oi := ⟨some 6, _, _, _, _, _⟩) (v := .pointer (some ⟨g', 0, none⟩)) rfl (by kernel_rfl) (by kernel_rfl) (by kernel_rfl) (fun _ _ _ h => h) (Or.inl ⟨by rfl, fun W hW => by rfl⟩) (by assumption) ?_
          simp only [Act.put, List.setIfInBounds_toArray, List.set_cons_zero, List.set_cons_succ]
          refine wpAnyH_ready (rs := [13]) (by kernel_rfl) (by simp) ?_
          refine AllReadyH.cons (o := ⟨none, _, _, _, _, _⟩) rfl (fun K hK => ?_) AllReadyH.nil
          rw [if_pos (by rfl)]
          have VB := Lib.hid (show Blk (w6.alloc (.cells Z 70)) w6.heap.size 70 Z from Blk.new _ _ _)
          refine wp_store_mid _ _ _ rfl _ _ Lp.toArray rfl rfl (by have := VB.out.there 225 (by rw [HZZ.out, rcArr_size]; exact Nat.le_refl _); simpa [hlp] using this) (by simpa using hip) (all_oneCell_toArray HOp.out) ?_
          have KS : Keep1 w6.heap.size (w6.alloc (.cells Z 70)) ((w6.alloc (.cells Z 70)).setCells w6.heap.size 0 Lp) := grownBy_setCells w6.heap.size Lp 0 (w6.alloc (.cells Z 70))
          refine hK.out _ _ (by have hw6 := E6.out.size; exact ⟨Nat.le_trans hHeld.1 KS.size, fun b hb h1 h2 => (KS.block b (Nat.lt_of_lt_of_le hb hHeld.1) (fun e => by cases e; (have e7 : wr.drew.heap.size = wr.heap.size := rfl; omega))).trans (hHeld.2 b hb h1 h2)⟩) (fun hHeld => ?_)
          clear hK K
          simp only [Act.put]
          refine wpAnyH_take (i := 14) (oi := ⟨some 8, _, _, _, _, _⟩) (v := .bool true) rfl (by kernel_rfl) (by kernel_rfl) (by kernel_rfl) (fun _ _ _ h => h) (Or.inl ⟨by rfl, fun W hW => by rfl⟩) (by assumption) ?_
          simp only [Act.put, List.setIfInBounds_toArray, List.set_cons_zero, List.set_cons_succ]
          refine wpAnyH_done (by kernel_rfl) ?_ _
          go_wp2
          go_meet
          have hw6 : wr.heap.size ≤ w6.heap.size := E6.out.size
          refine ⟨g', w6.heap.size, T', S', C', rfl, rfl, rfl, KS.blk (K6.out.alloc _) (by have := K6.out.lt; show g' ≠ w6.heap.size; omega), hAl6, by rw [HLPA.out]; exact Blk.setWhole VB.out Lp (by rw [HZZ.out, rcArr_size, hlp]), h06, by omega, ?_, ?_, by have := K6.out.lt; omega, by omega, by omega, ?_, ?_⟩
          · rcases hg6 with h | h
            · omega
            · have h' : wr.heap.size ≤ g' := h; omega
          · rcases hg6 with h | h
            · rw [h]; exact hgw
            · have h' : wr.heap.size ≤ g' := h; omega
          · exact KS.blk ((E6.out.blk WB.out.drew (fun e => hgw e.symm)).alloc _) (by omega)
          · exact below_keep (below_keep (BR.out.drew) E6.out hgc hbrs |>.alloc (by omega) _) KS (by omega) (by simp; omega)
        · go_simp
          refine hK.out _ _ (show KB wr gc gc _ from ⟨by simp, fun b hb _ _ => Below.heap_alloc wr _ b hb⟩) (fun hHeld => ?_)
          clear hK K
          refine wpAnyH_ready (rs := [6]) (by kernel_rfl) (by simp) ?_
          refine AllReadyH.cons (o := ⟨some 28, _, _, _, _, _⟩) rfl (fun K hK => ?_) AllReadyH.nil
          go_simp
          have KA := KC.out.alloc (.cells Z 70)
          have RA := row_new RK.out (.cells Z 70)
          have VA := Blk.new wr 70 Z
          refine (HACT.out _ KA.drew RA.drew).mono ?_
          rintro e w6 ⟨g', S', C', T', rfl, hK6, hAl6, h06, hT6, hg6, hE6⟩
          obtain ⟨Lp, hLp⟩ : ∃ Lp : List Value, Lp = (rcArr C' T').toList := ⟨_, rfl⟩
          have hLpa : rcArr C' T' = Lp.toArray := by rw [hLp]
          have hlp : Lp.length = 225 := by rw [hLp, Array.length_toList, rcArr_size]
          have hip : (Try.prog.info? 70).map (·.size) = some Lp.length := by rw [hlp]; exact size70
          have HOp : Hid (∀ v ∈ Lp, v.oneCell' = true) := Lib.hid (by
            intro v hv
            have h1 := rc_one C' T'
            rw [Array.all_eq_true] at h1
            rw [hLp] at hv
            obtain ⟨i, hi, e⟩ := List.getElem_of_mem hv
            rw [← e]
            simpa using h1 i (by simpa using hi))
          have K6 := Lib.hid hK6
          have E6 := Lib.hid hE6
          have HLPA := Lib.hid hLpa
          rw [hLpa]
          clear hK6 hE6 hLp hLpa
          dsimp only
          refine hK.out _ _ (hHeld.keep E6.out) (fun hHeld => ?_)
          clear hK K
          refine wpAnyH_take (i := 7) (oi := ⟨some 21, _, _, _, _, _⟩) (v := .tuple #[.pointer (some ⟨g', 0, none⟩), .agg Lp.toArray, .bool true]) rfl (by kernel_rfl) (by kernel_rfl) (by kernel_rfl) (fun _ _ _ h => h) (Or.inl ⟨by rfl, fun W hW => by rfl⟩) (by assumption) ?_
          simp only [Act.put, List.setIfInBounds_toArray, List.set_cons_zero, List.set_cons_succ]
          refine wpAnyH_take (i := 8) (oi := ⟨some 29, _, _, _, _, _⟩) (v := .pointer (some ⟨g', 0, none⟩)) rfl (by kernel_rfl) (by kernel_rfl) (by kernel_rfl) (fun _ _ _ h => h) (Or.inl ⟨by rfl, fun W hW => (by go_simp)⟩) (by assumption) ?_
          simp only [Act.put, List.setIfInBounds_toArray, List.set_cons_zero, List.set_cons_succ]
          refine wpAnyH_take (i := 9) (oi := ⟨some 30, _, _, _, _, _⟩) (v := .agg Lp.toArray) rfl (by kernel_rfl) (by kernel_rfl) (by kernel_rfl) (fun _ _ _ h => h) (Or.inl ⟨by rfl, fun W hW => (by go_simp)⟩) (by assumption) ?_
          simp only [Act.put, List.setIfInBounds_toArray, List.set_cons_zero, List.set_cons_succ]
          refine wpAnyH_take (i := 10) (oi := ⟨some 31, _, _, _, _, _⟩) (v := .bool true) rfl (by kernel_rfl) (by kernel_rfl) (by kernel_rfl) (fun _ _ _ h => h) (Or.inl ⟨by rfl, fun W hW => (by go_simp)⟩) (by assumption) ?_
          simp only [Act.put, List.setIfInBounds_toArray, List.set_cons_zero, List.set_cons_succ]
          refine wpAnyH_take (i := 12) (oi := ⟨some 6, _, _, _, _, _⟩) (v := .pointer (some ⟨g', 0, none⟩)) rfl (by kernel_rfl) (by kernel_rfl) (by kernel_rfl) (fun _ _ _ h => h) (Or.inl ⟨by rfl, fun W hW => by rfl⟩) (by assumption) ?_
          simp only [Act.put, List.setIfInBounds_toArray, List.set_cons_zero, List.set_cons_succ]
          refine wpAnyH_ready (rs := [13]) (by kernel_rfl) (by simp) ?_
          refine AllReadyH.cons (o := ⟨none, _, _, _, _, _⟩) rfl (fun K hK => ?_) AllReadyH.nil
          rw [if_pos (by rfl)]
          have VB := Lib.hid (show Blk w6 wr.heap.size 70 Z from E6.out.blk VA.drew (by omega))
          refine wp_store_mid _ _ _ rfl _ _ Lp.toArray rfl rfl (by have := VB.out.there 225 (by rw [HZZ.out, rcArr_size]; exact Nat.le_refl _); simpa [hlp] using this) (by simpa using hip) (all_oneCell_toArray HOp.out) ?_
          have KS : Keep1 wr.heap.size w6 (w6.setCells wr.heap.size 0 Lp) := grownBy_setCells wr.heap.size Lp 0 w6
          refine hK.out _ _ (⟨Nat.le_trans hHeld.1 KS.size, fun b hb h1 h2 => (KS.block b (Nat.lt_of_lt_of_le hb hHeld.1) (fun e => by cases e; omega)).trans (hHeld.2 b hb h1 h2)⟩) (fun hHeld => ?_)
          clear hK K
          simp only [Act.put]
          refine wpAnyH_take (i := 14) (oi := ⟨some 8, _, _, _, _, _⟩) (v := .bool true) rfl (by kernel_rfl) (by kernel_rfl) (by kernel_rfl) (fun _ _ _ h => h) (Or.inl ⟨by rfl, fun W hW => by rfl⟩) (by assumption) ?_
          simp only [Act.put, List.setIfInBounds_toArray, List.set_cons_zero, List.set_cons_succ]
          refine wpAnyH_done (by kernel_rfl) ?_ _
          go_wp2
          go_meet
          have hw6 : (wr.alloc (.cells Z 70)).heap.size ≤ w6.heap.size := E6.out.size
          simp only [World.size_alloc] at hw6
          refine ⟨g', wr.heap.size, T', S', C', rfl, rfl, rfl, KS.blk K6.out ?_, hAl6, by rw [HLPA.out]; exact Blk.setWhole VB.out Lp (by rw [HZZ.out, rcArr_size, hlp]), h06, by omega, ?_, ?_, ?_, by omega, by omega, ?_, ?_⟩
          · rcases hg6 with h | h
            · omega
            · have h' : wr.heap.size + 1 ≤ g' := by simpa using h
              omega
          · rcases hg6 with h | h
            · omega
            · have h' : wr.heap.size + 1 ≤ g' := by simpa using h
              omega
          · rcases hg6 with h | h
            · rw [h]; exact hgw
            · have h' : wr.heap.size + 1 ≤ g' := by simpa using h
              omega
          · rcases hg6 with h | h
            · omega
            · have h' : wr.heap.size + 1 ≤ g' := by simpa using h
              omega
          · exact KS.blk (E6.out.blk (WB.out.alloc _).drew (fun e => hgw e.symm)) (by omega)
          · exact below_keep (below_keep ((BR.out.alloc hbrs _).drew) E6.out hgc (by simp; omega)) KS (by omega) (by omega)
      case rest =>
          obtain ⟨g2, vb, T2, S2, C2, rfl, rfl, rfl, hK2, hAl2, hV2, h02, hT2, hg2w, hg2wb, hg2vb, hvbwb, hvbw, hWb2, hB2⟩ := hcut
          have K2 := Lib.hid hK2
          have AL2 := Lib.hid hAl2
          have WBB := Lib.hid hWb2
          have BB2 := Lib.hid hB2
          obtain ⟨Lq, hLq⟩ : ∃ Lq : List Value, Lq = (rcArr C2 T2).toList := ⟨_, rfl⟩
          have hLqa : rcArr C2 T2 = Lq.toArray := by rw [hLq]
          have hlq : Lq.length = 225 := by rw [hLq, Array.length_toList, rcArr_size]
          have hiq : (Try.prog.info? 70).map (·.size) = some Lq.length := by rw [hlq]; exact size70
          have HOq : Hid (∀ v ∈ Lq, v.oneCell' = true) := Lib.hid (by
            intro v hv
            have h1 := rc_one C2 T2
            rw [Array.all_eq_true] at h1
            rw [hLq] at hv
            obtain ⟨i, hi, e⟩ := List.getElem_of_mem hv
            rw [← e]
            simpa using h1 i (by simpa using hi))
          have VB2 := Lib.hid (show Blk wc vb 70 Lq.toArray from by rw [← hLqa]; exact hV2)
          have HLQA := Lib.hid hLqa
          have hth : wc.there wb 0 225 := hWb2.there 225 (by rw [rcArr_size]; exact Nat.le_refl _)
          have hbs := hB2.size
          clear hK2 hAl2 hV2 hWb2 hB2 hLq hLqa HACT HQ0 HQ1
          go_upto_region 8 with (fail)
          refine wp_region_held_drew (S := fun w' => KB wc wb wb w' ∧ w'.there wb 0 225) (by kernel_rfl) ⟨⟨Nat.le_refl _, fun _ _ _ _ => rfl⟩, by simpa using hth⟩ (fun hHeld => ?_)
          refine wpAnyH_take (i := 0) (oi := ⟨some 32, _, _, _, _, _⟩) (v := .pointer (some ⟨g2, 0, none⟩)) rfl (by kernel_rfl) (by kernel_rfl) (by kernel_rfl) (fun _ _ _ h => h) (Or.inl ⟨by rfl, fun W hW => by rfl⟩) (by assumption) ?_
          simp only [Act.put, List.setIfInBounds_toArray, List.set_cons_zero, List.set_cons_succ]
          refine' wpAnyH_take (i := 1) (oi := ⟨some 33, _, _, _, _, _⟩) (v := _) rfl (by kernel_rfl) (by kernel_rfl) (by kernel_rfl) (fun _ _ _ h => h) (yieldsIf_load_mid (by rfl) _ _ rfl _ _ rfl Lq _ (fun w h => (KB.blk h.1 VB2.out ⟨hvbwb, hvbwb⟩).range Lq rfl) hu rfl hiq) (by assumption) ?_
          simp only [Act.put, List.setIfInBounds_toArray, List.set_cons_zero, List.set_cons_succ]
          refine wpAnyH_take (i := 2) (oi := ⟨some 3, _, _, _, _, _⟩) (v := .pointer (some ⟨g2, 0, none⟩)) rfl (by kernel_rfl) (by kernel_rfl) (by kernel_rfl) (fun _ _ _ h => h) (Or.inl ⟨by rfl, fun W hW => by rfl⟩) (by assumption) ?_
          simp only [Act.put, List.setIfInBounds_toArray, List.set_cons_zero, List.set_cons_succ]
          refine wpAnyH_ready (rs := [3]) (by kernel_rfl) (by simp) ?_
          refine AllReadyH.cons (o := ⟨none, _, _, _, _, _⟩) rfl (fun K hK => ?_) AllReadyH.nil
          rw [if_pos (by rfl)]
          refine wp_store_mid _ _ _ rfl _ _ Lq.toArray rfl rfl (by have := hHeld.2; simpa [hlq] using this) (by simpa using hiq) (all_oneCell_toArray HOq.out) ?_
          have KS : Keep1 wb wc.drew (wc.drew.setCells wb 0 Lq) := grownBy_setCells wb Lq 0 wc.drew
          refine hK.out _ _ ⟨hHeld.1.keepo KS, World.there_setCells hHeld.2 _ _ _⟩ (fun hHeld => ?_)
          clear hK K
          simp only [Act.put]
          refine wpAnyH_done (by kernel_rfl) ?_ _
          have KF := Lib.hid (show CB (wc.drew.setCells wb 0 Lq.toArray.toList) g2 true S2 T2 from KS.blk K2.out.drew hg2wb)
          have WF := Lib.hid (show Blk (wc.drew.setCells wb 0 Lq.toArray.toList) wb 70 (rcArr C2 T2) from by rw [HLQA.out]; exact Blk.setWhole WBB.out.drew Lq (by rw [rcArr_size, hlq]))
          have BF := Lib.hid (show Below w.heap.size w (wc.drew.setCells wb 0 Lq.toArray.toList) from below_setCells BB2.out.drew (by omega) hbs _ _)
          go_wp2
          go_roundw
          case rel => first | exact ⟨k + 1, g2, T2, by omega, by go_num, rfl, by omega, S2, C2, KF.out, AL2.out, WF.out, h02, hg2w, hg2wb, BF.out⟩ | ((repeat apply Exists.intro); exact ⟨⟨k + 1, g2, T2, by omega, by go_num, rfl, by omega, S2, C2, KF.out, AL2.out, WF.out, h02, hg2w, hg2wb, BF.out⟩, rfl⟩)
          case measure => simp [intOf]; omega
    · obtain rfl : k = m := by omega
      have BR := Lib.hid hBr
      clear hKc hAl hWb hBr
      go_wp2_with (go_at_call 30; refine (HW.out _).mono ?_; rintro e w9 ⟨rfl, hB9⟩)
      go_ret
      exact ⟨rfl, below_step BR.out hB9⟩
end Go.Proofs.Ytejadoadpgcpjaa
