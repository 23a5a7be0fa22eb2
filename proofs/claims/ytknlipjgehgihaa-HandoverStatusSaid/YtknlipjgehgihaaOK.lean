/- law HandoverStatus: the walk (under way). -/
import Derived.Test.YtknlipjgehgihaaOJ
namespace Go.Proofs.Ytknlipjgehgihaa
open Go.RowKit

attribute [local go_sem ↓] Go.wp_at_zero Go.wp_at_succ

set_option maxRecDepth 100000 in
set_option maxHeartbeats 3200000 in
theorem hst_law (A : Option Addr) (m c : Nat) (d nx : Int) (ct : Nat → Int) (PA : Nat → Option Addr) (pn pc : Nat → Nat) (z : Nat → Nat → Int) (w : World) (hd : 0 ≤ d) (hnx : 0 ≤ nx ∧ nx < 18446744073709551616) (hd2 : d < 18446744073709551616) (hm : m ≤ maxLen) (h : Cnts w A m ct PA pn pc z) :
    Calls Try.prog 3 #[.agg #[.int .u64 d, .int .u64 nx, .slice A m c]] w fun e w' => e = .returned (.bool true) ∧ Below w.heap.size w w' := by
  have HC := Lib.hid h
  have HK := Lib.hid known_true
  have hm' : (m : Int) ≤ 9223372036854775807 := by unfold maxLen at hm; omega
  clear h
  go_enter Try.func3, Try.ntmps3
  go_upto_region 1 with (fail)
  refine wp_world (fun W => Blk W w.heap.size 25 #[.int .u64 d, .int .u64 nx, .slice A m c] ∧ Below w.heap.size w W) ⟨Blk.new _ _ _, (Below.refl _ w).alloc (Nat.le_refl _) _⟩ ?_
  rintro W1 ⟨b1, b2⟩
  obtain ⟨xb, hxb⟩ : ∃ xb, xb = w.heap.size := ⟨_, rfl⟩
  rw [← hxb] at b1 ⊢
  have HX := Lib.hid hxb
  have x2 := b1.cell 2
  simp at x2
  have HB := Lib.hid b1
  have HBB := Lib.hid (show Below w.heap.size w W1 from b2)
  clear b1 b2 hxb
  by_cases h40 : 40 < m
  · have h41 : (40 : Int) < (m : Int) := by omega
    go_wp2_with (go_at_call 6; refine (HK.out _).mono ?_; rintro e w1 ⟨rfl, hB⟩; have BK := Lib.hid hB; clear hB)
    go_ret
    exact ⟨rfl, HBB.out.trans (BK.out.mono HBB.out.size)⟩
  have h41 : ¬ (40 : Int) < (m : Int) := by omega
  go_wp2
  go_loopw [3] (fun v3 wr => ∃ k : Nat, k ≤ m ∧ v3 = .int .i64 k ∧ W1 = wr) (fun v3 _ => m - (intOf v3).toNat)
  case atStart => exact ⟨0, by omega, rfl, rfl⟩
  case round =>
    obtain ⟨k, hk, rfl, rfl⟩ := hrel
    by_cases hlt : k < m
    · obtain ⟨lb, lo, rfl, hlb, hlc⟩ := HC.out.at_ (by omega)
      obtain ⟨-, c1⟩ := hlc k hlt
      have q1 : W1.cell? ⟨lb, lo + k * 2 + 1, none⟩ = some (.slice (PA k) (pn k) (pc k)) := (HBB.out.cell (p := ⟨lb, lo + k * 2 + 1, none⟩) hlb).trans c1
      have k0 : (0 : Int) ≤ (k : Int) := by omega
      have k1 : (k : Int) < (m : Int) := by omega
      obtain ⟨q, hq⟩ : ∃ q, q = pn k := ⟨_, rfl⟩
      rw [← hq] at q1
      clear hlc c1 hq
      by_cases hq : 100 < q
      · have hq2 : (100 : Int) < (q : Int) := by omega
        go_wp2_with (go_at_call 6; refine (HK.out _).mono ?_; rintro e w1 ⟨rfl, hB⟩; have BK := Lib.hid hB; clear hB)
        go_ret
        exact ⟨rfl, HBB.out.trans (BK.out.mono HBB.out.size)⟩
      · have hq2 : ¬ (100 : Int) < (q : Int) := by omega
        go_wp2
        go_roundw
        case rel => exact ⟨k + 1, by omega, by go_num, trivial⟩
        case measure => simp [intOf]; omega
    · obtain rfl : k = m := by omega
      have HL := Lib.hid (show Blk W1 xb 25 #[.int .u64 d, .int .u64 nx, .slice A k c] from HB.out)
      have HSZ : Hid ((Try.prog.info? 25).map (·.size) = some (#[Value.int .u64 d, .int .u64 nx, .slice A k c] : Array Value).size) := Lib.hid (by kernel_rfl)
      have HC1 := Lib.hid (HC.out.below HBB.out)
      by_cases hw : Whole d nx k ct pn
      · have HRY := Lib.hid (rresume_yes A k c d nx ct PA pn pc z W1 hd hm HC1.out hw)
        go_upto_region 11 with (first
          | (refine wpList_load_row rfl _ _ rfl xb rfl 25 _ (0, 0) _ HL.out Try.underlying25 rfl HSZ.out ?_)
          | (go_at_call 7; refine (HRY.out).mono ?_; rintro e w1 ⟨rb, mS, mU, eb, L, rfl, hR, hS, hL, hB⟩; have BK := Lib.hid hB; have HRB := Lib.hid hR; have HSB := Lib.hid hS; have HLL := Lib.hid hL; clear hB hR hS hL))
        have HST := Lib.hid (hstatus_made rb mS mU eb d nx L w1 HRB.out HSB.out hd hw.1)
        have hbb : stB L d = rfB k ct d := funext (rfB_eq k ct d L HLL.out)
        have hsm : stN d nx ≤ maxLen := by obtain ⟨⟨g1, g2, g3⟩, -⟩ := hw; unfold stN maxLen; omega
        have hsa : ∀ (W : World) (A4 : Option Addr) (c4 : Nat), Row W W.heap.size A4 (stN d nx) (fun j => .bool (rfB k ct d j)) → Calls Try.prog 9 #[.int .u64 d, .slice A4 (stN d nx) c4] W (EncAny d (stN d nx) (stB L d) W) := fun W A4 c4 h => status_any d (stN d nx) c4 A4 (stB L d) W hd hsm (by rw [hbb]; exact h)
        have hst := HST.out
        clear HST
        unfold EncAny at hst hsa
        obtain ⟨el, hel⟩ : ∃ x, x = encLen d (stN d nx) (stB L d) := ⟨_, rfl⟩
        obtain ⟨er, her⟩ : ∃ x, x = encErr d (stN d nx) := ⟨_, rfl⟩
        obtain ⟨ea, hea⟩ : ∃ x, x = encAt d (stN d nx) (stB L d) := ⟨_, rfl⟩
        rw [← hel, ← her, ← hea] at hst hsa
        have HST := Lib.hid hst
        have HSA := Lib.hid hsa
        clear hst hsa hel her hea hbb
        go_upto_region 12 with (go_at_call 8; refine (HST.out).mono ?_; rintro e w2 ⟨A2, c2, rfl, hr2, hB⟩; have BS := Lib.hid hB; have HR2 := Lib.hid hr2; clear hB hr2)
        have HX1 := Lib.hid (HL.out.below BK.out HL.out.lt)
        have HX2 := Lib.hid (HX1.out.below BS.out HX1.out.lt)
        have HC2 := Lib.hid ((HC1.out.below BK.out).below BS.out)
        have hxl : xb < w2.heap.size := HX2.out.lt
        have HSR := Lib.hid (show ∀ W, Below w2.heap.size w2 W → Blk W xb 25 #[.int .u64 d, .int .u64 nx, .slice A k c] from fun W hW => HX2.out.below hW hxl)
        have HSRG := Lib.hid (show ∀ W, Below w2.heap.size w2 W → W.rangeAt xb 0 [.int .u64 d, .int .u64 nx, .slice A k c] from fun W hW => (HX2.out.below hW hxl).range _ rfl)
        have HUR : Hid (Try.prog.underlying 25 = _) := Lib.hid Try.underlying25
        have HSL : Hid ((Try.prog.info? 25).map (·.size) = some ([Value.int .u64 d, .int .u64 nx, .slice A k c]).length) := Lib.hid (by kernel_rfl)
        obtain ⟨w0, hw0⟩ : ∃ w0, w0 = w2.drew := ⟨_, rfl⟩
        have hb0 : Below w2.heap.size w2 w0 := by rw [hw0]; exact (Below.refl _ w2).drew
        refine wp_region_held_drew (S := fun w' => Below w2.heap.size w2 w') (by kernel_rfl) (by rw [← hw0]; exact hb0) (fun hHeld => ?_)
        rw [← hw0]
        clear hw0 hHeld
        have hHeld := hb0
        refine wpAnyH_take (i := 0) (oi := ⟨some 46, _, _, _, _, _⟩) (v := .pointer (some ⟨xb, 0, none⟩)) rfl (by kernel_rfl) (by kernel_rfl) (by kernel_rfl) (fun _ _ _ h => h) (Or.inl ⟨by rfl, fun W hW => (by go_simp)⟩) (by assumption) ?_
        try simp only [Act.put, List.setIfInBounds_toArray, List.set_cons_zero, List.set_cons_succ]
        refine wpAnyH_take (i := 1) (oi := ⟨some 47, _, _, _, _, _⟩) (v := .int .u64 d) rfl (by kernel_rfl) (by kernel_rfl) (by kernel_rfl) (fun _ _ _ h => h) (Or.inl ⟨by rfl, fun W hW => (by have u0 := (HSR.out W hW).cell 0; simp at u0; go_simp)⟩) (by assumption) ?_
        try simp only [Act.put, List.setIfInBounds_toArray, List.set_cons_zero, List.set_cons_succ]
        refine wpAnyH_take (i := 2) (oi := ⟨some 48, _, _, _, _, _⟩) (v := .agg z39) rfl (by kernel_rfl) (by kernel_rfl) (by kernel_rfl) (fun _ _ _ h => h) (Or.inl ⟨by rfl, fun W hW => (by kernel_rfl)⟩) (by assumption) ?_
        try simp only [Act.put, List.setIfInBounds_toArray, List.set_cons_zero, List.set_cons_succ]
        refine' wpAnyH_take (i := 3) (oi := ⟨some 49, _, _, _, _, _⟩) (v := _) rfl (by kernel_rfl) (by kernel_rfl) (by kernel_rfl) (fun _ _ _ h => h) (yieldsIf_load_mid (by rfl) _ _ rfl xb 0 rfl [.int .u64 d, .int .u64 nx, .slice A k c] _ (fun w h => HSRG.out w h) HUR.out rfl HSL.out) (by assumption) ?_
        try simp only [Act.put, List.setIfInBounds_toArray, List.set_cons_zero, List.set_cons_succ]
        refine wpAnyH_ready (rs := [4]) (by kernel_rfl) (by simp) ?_
        refine AllReadyH.cons (o := ⟨some 50, _, _, _, _, _⟩) rfl (fun K hK => ?_) AllReadyH.nil
        rw [if_pos (by rfl)]
        go_simp
        refine (rfres_ok A k c d nx ct PA pn pc z w0 (by omega) (HC2.out.below hHeld)).mono ?_
        rintro e w3 ⟨g, A3, c3, U, rfl, hR3, hC3, hB3⟩
        dsimp only
        have hH3 : Below w2.heap.size w2 w3 := hHeld.trans (hB3.mono hHeld.size)
        refine hK.out _ _ hH3 (fun hHeld => ?_)
        clear hK K hB3
        try simp only [Act.put, List.setIfInBounds_toArray, List.set_cons_zero, List.set_cons_succ]
        refine wpAnyH_ready (rs := [5]) (by kernel_rfl) (by simp) ?_
        refine AllReadyH.cons (o := ⟨some 51, _, _, _, _, _⟩) rfl (fun K hK => ?_) AllReadyH.nil
        rw [if_pos (by rfl)]
        go_simp
        refine (rfstat_ok g A3 k c3 d nx ct PA pn pc z w3 hm hC3 hR3.lt ((hR3.cell 42).trans (by kernel_rfl)) ((hR3.cell 40).trans (by kernel_rfl)) ((hR3.cell 41).trans (by kernel_rfl)) hd hw.1).mono ?_
        rintro e w4 ⟨A4, c4, rfl, hc4, hr4, hB4⟩
        dsimp only
        have hH4 : Below w2.heap.size w2 w4 := hHeld.trans (hB4.mono hHeld.size)
        refine hK.out _ _ hH4 (fun hHeld => ?_)
        clear hK K hB4
        try simp only [Act.put, List.setIfInBounds_toArray, List.set_cons_zero, List.set_cons_succ]
        refine wpAnyH_ready (rs := [6]) (by kernel_rfl) (by simp) ?_
        refine AllReadyH.cons (o := ⟨some 52, _, _, _, _, _⟩) rfl (fun K hK => ?_) AllReadyH.nil
        rw [if_pos (by rfl)]
        go_simp
        refine (HSA.out w4 A4 c4 hr4).mono ?_
        rintro e w5 ⟨A5, c5, rfl, hr5, hB5⟩
        dsimp only
        have hH5 : Below w2.heap.size w2 w5 := hHeld.trans (hB5.mono hHeld.size)
        refine hK.out _ _ hH5 (fun hHeld => ?_)
        clear hK K hB5
        try simp only [Act.put, List.setIfInBounds_toArray, List.set_cons_zero, List.set_cons_succ]
        refine wpAnyH_take (i := 7) (oi := ⟨some 45, _, _, _, _, _⟩) (v := .tuple #[.slice A5 el c5, .int .i64 er]) rfl (by kernel_rfl) (by kernel_rfl) (by kernel_rfl) (fun _ _ _ h => h) (Or.inl ⟨by rfl, fun W hW => (by rfl)⟩) (by assumption) ?_
        try simp only [Act.put, List.setIfInBounds_toArray, List.set_cons_zero, List.set_cons_succ]
        refine wpAnyH_take (i := 8) (oi := ⟨some 53, _, _, _, _, _⟩) (v := .slice A5 el c5) rfl (by kernel_rfl) (by kernel_rfl) (by kernel_rfl) (fun _ _ _ h => h) (Or.inl ⟨by rfl, fun W hW => (by go_simp)⟩) (by assumption) ?_
        try simp only [Act.put, List.setIfInBounds_toArray, List.set_cons_zero, List.set_cons_succ]
        refine wpAnyH_take (i := 9) (oi := ⟨some 54, _, _, _, _, _⟩) (v := .int .i64 er) rfl (by kernel_rfl) (by kernel_rfl) (by kernel_rfl) (fun _ _ _ h => h) (Or.inl ⟨by rfl, fun W hW => (by go_simp)⟩) (by assumption) ?_
        try simp only [Act.put, List.setIfInBounds_toArray, List.set_cons_zero, List.set_cons_succ]
        refine wpAnyH_take (i := 10) (oi := ⟨some 8, _, _, _, _, _⟩) (v := .slice A5 el c5) rfl (by kernel_rfl) (by kernel_rfl) (by kernel_rfl) (fun _ _ _ h => h) (Or.inl ⟨by rfl, fun W hW => (by rfl)⟩) (by assumption) ?_
        try simp only [Act.put, List.setIfInBounds_toArray, List.set_cons_zero, List.set_cons_succ]
        refine wpAnyH_take (i := 11) (oi := ⟨some 9, _, _, _, _, _⟩) (v := .int .i64 er) rfl (by kernel_rfl) (by kernel_rfl) (by kernel_rfl) (fun _ _ _ h => h) (Or.inl ⟨by rfl, fun W hW => (by rfl)⟩) (by assumption) ?_
        try simp only [Act.put, List.setIfInBounds_toArray, List.set_cons_zero, List.set_cons_succ]
        refine wpAnyH_done (by kernel_rfl) ?_ _
        have s1 := row_string 28 9 5 Try.underlying28 Try.underlying5 Try.underlying9 (HR2.out.next hH5) c2
        have s2 := row_string 28 9 5 Try.underlying28 Try.underlying5 Try.underlying9 hr5 c5
        have BF := Lib.hid (show Below w.heap.size w w5 from HBB.out.trans ((BK.out.trans ((BS.out.trans (hH5.mono BS.out.size)).mono BK.out.size)).mono HBB.out.size))
        go_wp2_with (go_at_call 6; refine (HK.out _).mono ?_; rintro e w9 ⟨rfl, h9⟩)
        go_ret
        exact ⟨ret_bool (by simp), BF.out.trans (h9.mono BF.out.size)⟩
      · have HRN := Lib.hid (rresume_no A k c d nx ct PA pn pc z W1 hd hnx hd2 hm HC1.out hw)
        go_wp2_with (first
          | (refine wpList_load_row rfl _ _ rfl xb rfl 25 _ (0, 0) _ HL.out Try.underlying25 rfl HSZ.out ?_)
          | (go_at_call 7; refine (HRN.out).mono ?_; rintro e w1 ⟨rfl, hB⟩; have BK := Lib.hid hB; clear hB)
          | (go_at_call 6; refine (HK.out _).mono ?_; rintro e w2 ⟨rfl, hB⟩; have BK2 := Lib.hid hB; clear hB))
        go_ret
        exact ⟨rfl, HBB.out.trans ((BK.out.trans (BK2.out.mono BK.out.size)).mono HBB.out.size)⟩
end Go.Proofs.Ytknlipjgehgihaa
