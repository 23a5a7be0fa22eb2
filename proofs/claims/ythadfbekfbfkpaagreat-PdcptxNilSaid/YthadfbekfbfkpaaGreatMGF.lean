/- AES-128: each, over the closures of the steps. Printed by gen/xvj.py. AES-128: the steps add, sub, shift, mix. Printed by gen/xvk.py. AES-128: the round keys (schedule). AES-128: New and own. Printed by gen/xvm.py. AES-128: Encrypt. Printed by gen/xvn.py. -/
import Derived.Test.YthadfbekfbfkpaaGreatMGB
import Derived.Test.YthadfbekfbfkpaaGreatMGC
import Derived.StillTailTactics
import Derived.OrdersHeld
import Derived.Laws.EntriesVeiled
namespace Go.Proofs.YthadfbekfbfkpaaGreat
open Go.RowKit
set_option linter.unusedVariables false
attribute [local go_sem ↓] Go.wp_at_zero Go.wp_at_succ

theorem blk_atA (W : World) (t : TypeId) (cs : Array Value) (N : Nat) (hN : W.heap.size = N) : Blk (W.alloc (.cells cs t)) N t cs := by
  subst hN; exact Blk.new W t cs
/-- the block behind k rounds of each -/
def eachK (F : Nat → Nat → Nat) (b : Nat → Nat) (k : Nat) : Nat → Nat := fun j => if j < k then F j (b j) else b j
theorem eachK_zero (F : Nat → Nat → Nat) (b : Nat → Nat) : eachK F b 0 = b := by
  funext j
  unfold eachK
  rw [if_neg (by omega)]
theorem b16_congr {f g : Nat → Nat} (h : ∀ j, j < 16 → f j = g j) : b16 f = b16 g := by
  apply Array.ext_getElem?
  intro j
  by_cases hj : j < 16
  · rw [b16_at _ hj, b16_at _ hj, h j hj]
  · rw [Array.getElem?_eq_none (by rw [b16_size]; omega), Array.getElem?_eq_none (by rw [b16_size]; omega)]
theorem eachK_set (F : Nat → Nat → Nat) (b : Nat → Nat) (k : Nat) (hk : k < 16) : (b16 (eachK F b k)).setIfInBounds k (.int .u8 (F k (b k) : Nat)) = b16 (eachK F b (k + 1)) := by
  rw [b16_set _ _ _ hk]
  refine b16_congr fun j hj => ?_
  unfold upd eachK
  by_cases e : j = k
  · subst e; rw [if_pos rfl, if_pos (by omega)]
  · rw [if_neg e]
    by_cases h2 : j < k
    · rw [if_pos h2, if_pos (by omega)]
    · rw [if_neg h2, if_neg (by omega)]
theorem eachK_all (F : Nat → Nat → Nat) (b : Nat → Nat) : b16 (eachK F b 16) = b16 (fun i => F i (b i)) := b16_congr fun j hj => by unfold eachK; rw [if_pos hj]
theorem sizeBlock (b : Nat → Nat) : (Tryz.prog.info? 357).map (·.size) = some (b16 b).size := by rw [b16_size]; kernel_rfl

set_option maxRecDepth 100000 in
set_option maxHeartbeats 1600000 in
theorem each_sub_ok (b : Nat → Nat) (hb : B16 b) (F : Nat → Nat → Nat) (c1 : Value) (w : World)
    (HC : ∀ W, Below w.heap.size w W → ∀ i, i < 16 → Calls Tryz.prog 286 #[.int .i64 (i : Nat), .int .u8 (b i : Nat), c1] W fun e W' => e = .returned (.int .u8 (F i (b i) : Nat)) ∧ Below W.heap.size W W') :
    Calls Tryz.prog 284 #[.agg (b16 b), .func (.func 286) #[] #[c1]] w fun e w' => e = .returned (.agg (b16 fun i => F i (b i))) ∧ Below w.heap.size w w' := by
  have HCH := Lib.hid HC
  have HEA := Lib.hid (eachK_all F b)
  have HAT := Lib.hid (fun j hj => b16_at b (j := j) hj)
  have HSZ := Lib.hid (sizeBlock b)
  have HSF := Lib.hid (sizeBlock (eachK F b 16))
  have HO := Lib.hid (b16_one (eachK F b 16))
  have HE0 := Lib.hid (eachK_zero F b)
  obtain ⟨E, hE⟩ : ∃ E : Nat → Array Value, E = fun k => b16 (eachK F b k) := ⟨_, rfl⟩
  obtain ⟨BA, hBA⟩ : ∃ BA, BA = b16 b := ⟨_, rfl⟩
  obtain ⟨ZB, hZB⟩ : ∃ ZB : Array Value, ZB = #[.int .u8 0, .int .u8 0, .int .u8 0, .int .u8 0, .int .u8 0, .int .u8 0, .int .u8 0, .int .u8 0, .int .u8 0, .int .u8 0, .int .u8 0, .int .u8 0, .int .u8 0, .int .u8 0, .int .u8 0, .int .u8 0] := ⟨_, rfl⟩
  have HEE := Lib.hid hE
  have HES : Hid (∀ k, k < 16 → (E k).setIfInBounds k (.int .u8 (F k (b k) : Nat)) = E (k + 1)) := Lib.hid (by rw [hE]; exact fun k hk => eachK_set F b k hk)
  have HEC : Hid (∀ k, k < 16 → ∀ j, j < 16 → (E k)[j]? = some (.int .u8 (eachK F b k j : Nat))) := Lib.hid (by rw [hE]; exact fun k _ j hj => b16_at _ hj)
  have HZS : Hid (ZB.size = 16) := Lib.hid (by rw [hZB]; rfl)
  rw [← hBA] at HAT HSZ ⊢
  have HBE : Hid (BA = E 0) := Lib.hid (by rw [hE, hBA]; exact congrArg b16 (eachK_zero F b).symm)
  have HZB := Lib.hid hZB
  clear HC hb hE hBA hZB
  go_enter Tryz.func284, Tryz.ntmps284
  go_upto_region 1 with (fail)
  obtain ⟨bb, hbb⟩ : ∃ bb, bb = w.heap.size := ⟨_, rfl⟩
  refine wp_let (fun V => Blk V bb 357 BA ∧ Blk V (bb + 1) 357 ZB ∧ Below w.heap.size w V) ⟨by rw [hbb]; exact (Blk.new _ _ _).alloc _, by rw [hbb, HZB.out]; exact blk_atA _ _ _ _ (by simp), ((Below.refl _ _).alloc (Nat.le_refl _) _).alloc (by simp) _⟩ ?_
  rintro W1 ⟨b1, b2, b3⟩
  have B1 := Lib.hid b1
  have B2 := Lib.hid b2
  have B3 := Lib.hid b3
  have HBB := Lib.hid hbb
  rw [← hbb]
  clear b1 b2 b3 hbb
  go_wp2_with (refine wpList_load_row rfl _ _ rfl bb rfl 357 BA (0, 0) _ B1.out Tryz.underlying357 rfl HSZ.out ?_)
  go_loopw [8] (fun v wr => ∃ k : Nat, k ≤ 16 ∧ v = .int .i64 k ∧ Blk wr bb 357 (E k) ∧ Blk wr (bb + 1) 357 ZB ∧ Below w.heap.size w wr) (fun v _ => 16 - (intOf v).toNat)
  case atStart => exact ⟨0, by omega, rfl, by rw [← HBE.out]; exact B1.out, B2.out, B3.out⟩
  case round =>
    clear B1 B2 B3
    obtain ⟨k, hk, rfl, hB, hZ, hb⟩ := hrel
    have k0 : (0 : Int) ≤ (k : Int) := by omega
    have HB := Lib.hid hB
    have HZb := Lib.hid hZ
    have HBW := Lib.hid hb
    clear hB hZ hb
    by_cases hlt : k < 16
    · have k1 : (k : Int) < 16 := by omega
      obtain ⟨iu, hiu, hius⟩ := infoU8
      have hix := idx_arr (P := Tryz.prog) 357 5 16 Tryz.underlying357 iu hiu hius .u8 Tryz.underlying5 BA k hlt _ (HAT.out k hlt)
      have HCK := Lib.hid (HCH.out wr HBW.out k hlt)
      have HES' := Lib.hid (HES.out k hlt)
      obtain ⟨x, hx⟩ : ∃ x, x = b k := ⟨_, rfl⟩
      obtain ⟨y, hy⟩ : ∃ y, y = F k x := ⟨_, rfl⟩
      rw [← hx] at hix HCK HES'
      rw [← hy] at HCK HES'
      clear hiu hx hy
      go_wp2_with (go_at_call 286; refine (HCK.out).mono ?_; rintro e w4 ⟨rfl, hb4⟩; have H4 := Lib.hid (HB.out.below hb4 HB.out.lt); have c4 := (H4.out.cell k).trans (HEC.out k hlt k hlt); have f4 := H4.out.frozen k; have Z4 := Lib.hid (HZb.out.below hb4 HZb.out.lt); have B4 := Lib.hid (HBW.out.trans (hb4.mono HBW.out.size)); clear hb4)
      go_roundw
      case rel =>
        refine ⟨k + 1, by omega, by go_num, ?_, Z4.out.far (p := ⟨bb, k, none⟩) (by show ¬ bb + 1 = bb; omega) _, B4.out.setCell (p := ⟨bb, k, none⟩) (by show w.heap.size ≤ bb; rw [HBB.out]; exact Nat.le_refl _) _⟩
        rw [← HES'.out]
        exact H4.out.set_ k _
      case measure => simp [intOf]; omega
    · obtain rfl : k = 16 := by omega
      have HA : Hid (E 16 = b16 fun i => F i (b i)) := Lib.hid (by rw [HEE.out]; exact HEA.out)
      have HO16 : Hid ((E 16).all (·.oneCell') = true) := Lib.hid (by rw [HEE.out]; exact HO.out)
      have HS16 : Hid ((Tryz.prog.info? 357).map (·.size) = some (E 16).size) := Lib.hid (by rw [HEE.out]; exact HSF.out)
      have HZ16 : Hid (ZB.size = (E 16).size) := Lib.hid (by rw [HZS.out, HEE.out, b16_size])
      obtain ⟨X, hX⟩ : ∃ X, X = E 16 := ⟨_, rfl⟩
      rw [← hX] at HB HA HO16 HS16 HZ16
      have n1 : ¬ (16 : Int) < 16 := by omega
      clear hX hk
      go_wp2_with (first
        | (refine wpList_load_row rfl _ _ rfl bb rfl 357 X (0, 0) _ HB.out Tryz.underlying357 rfl HS16.out ?_)
        | (refine wpList_store_row rfl _ _ _ rfl (bb + 1) X rfl rfl 357 ZB HZb.out HS16.out HZ16.out HO16.out ?_))
      refine bodyPost_ret (v := .agg X) (results_cell_row (g := bb + 1) (t := 357) (fr := (0, 0)) Tryz.results284 _ _ X _ rfl (setRow_heap wr (bb + 1) ZB X 357 (0, 0) HZb.out) Tryz.underlying357 rfl HS16.out) rfl ⟨by rw [HA.out], ?_⟩
      exact belowRow HBW.out (by rw [HBB.out]; omega) _

set_option maxRecDepth 100000 in
set_option maxHeartbeats 1600000 in
theorem each_shift_ok (b : Nat → Nat) (hb : B16 b) (F : Nat → Nat → Nat) (c1 : Value) (w : World)
    (HC : ∀ W, Below w.heap.size w W → ∀ i, i < 16 → Calls Tryz.prog 287 #[.int .i64 (i : Nat), .int .u8 (b i : Nat), c1] W fun e W' => e = .returned (.int .u8 (F i (b i) : Nat)) ∧ Below W.heap.size W W') :
    Calls Tryz.prog 284 #[.agg (b16 b), .func (.func 287) #[] #[c1]] w fun e w' => e = .returned (.agg (b16 fun i => F i (b i))) ∧ Below w.heap.size w w' := by
  have HCH := Lib.hid HC
  have HEA := Lib.hid (eachK_all F b)
  have HAT := Lib.hid (fun j hj => b16_at b (j := j) hj)
  have HSZ := Lib.hid (sizeBlock b)
  have HSF := Lib.hid (sizeBlock (eachK F b 16))
  have HO := Lib.hid (b16_one (eachK F b 16))
  have HE0 := Lib.hid (eachK_zero F b)
  obtain ⟨E, hE⟩ : ∃ E : Nat → Array Value, E = fun k => b16 (eachK F b k) := ⟨_, rfl⟩
  obtain ⟨BA, hBA⟩ : ∃ BA, BA = b16 b := ⟨_, rfl⟩
  obtain ⟨ZB, hZB⟩ : ∃ ZB : Array Value, ZB = #[.int .u8 0, .int .u8 0, .int .u8 0, .int .u8 0, .int .u8 0, .int .u8 0, .int .u8 0, .int .u8 0, .int .u8 0, .int .u8 0, .int .u8 0, .int .u8 0, .int .u8 0, .int .u8 0, .int .u8 0, .int .u8 0] := ⟨_, rfl⟩
  have HEE := Lib.hid hE
  have HES : Hid (∀ k, k < 16 → (E k).setIfInBounds k (.int .u8 (F k (b k) : Nat)) = E (k + 1)) := Lib.hid (by rw [hE]; exact fun k hk => eachK_set F b k hk)
  have HEC : Hid (∀ k, k < 16 → ∀ j, j < 16 → (E k)[j]? = some (.int .u8 (eachK F b k j : Nat))) := Lib.hid (by rw [hE]; exact fun k _ j hj => b16_at _ hj)
  have HZS : Hid (ZB.size = 16) := Lib.hid (by rw [hZB]; rfl)
  rw [← hBA] at HAT HSZ ⊢
  have HBE : Hid (BA = E 0) := Lib.hid (by rw [hE, hBA]; exact congrArg b16 (eachK_zero F b).symm)
  have HZB := Lib.hid hZB
  clear HC hb hE hBA hZB
  go_enter Tryz.func284, Tryz.ntmps284
  go_upto_region 1 with (fail)
  obtain ⟨bb, hbb⟩ : ∃ bb, bb = w.heap.size := ⟨_, rfl⟩
  refine wp_let (fun V => Blk V bb 357 BA ∧ Blk V (bb + 1) 357 ZB ∧ Below w.heap.size w V) ⟨by rw [hbb]; exact (Blk.new _ _ _).alloc _, by rw [hbb, HZB.out]; exact blk_atA _ _ _ _ (by simp), ((Below.refl _ _).alloc (Nat.le_refl _) _).alloc (by simp) _⟩ ?_
  rintro W1 ⟨b1, b2, b3⟩
  have B1 := Lib.hid b1
  have B2 := Lib.hid b2
  have B3 := Lib.hid b3
  have HBB := Lib.hid hbb
  rw [← hbb]
  clear b1 b2 b3 hbb
  go_wp2_with (refine wpList_load_row rfl _ _ rfl bb rfl 357 BA (0, 0) _ B1.out Tryz.underlying357 rfl HSZ.out ?_)
  go_loopw [8] (fun v wr => ∃ k : Nat, k ≤ 16 ∧ v = .int .i64 k ∧ Blk wr bb 357 (E k) ∧ Blk wr (bb + 1) 357 ZB ∧ Below w.heap.size w wr) (fun v _ => 16 - (intOf v).toNat)
  case atStart => exact ⟨0, by omega, rfl, by rw [← HBE.out]; exact B1.out, B2.out, B3.out⟩
  case round =>
    clear B1 B2 B3
    obtain ⟨k, hk, rfl, hB, hZ, hb⟩ := hrel
    have k0 : (0 : Int) ≤ (k : Int) := by omega
    have HB := Lib.hid hB
    have HZb := Lib.hid hZ
    have HBW := Lib.hid hb
    clear hB hZ hb
    by_cases hlt : k < 16
    · have k1 : (k : Int) < 16 := by omega
      obtain ⟨iu, hiu, hius⟩ := infoU8
      have hix := idx_arr (P := Tryz.prog) 357 5 16 Tryz.underlying357 iu hiu hius .u8 Tryz.underlying5 BA k hlt _ (HAT.out k hlt)
      have HCK := Lib.hid (HCH.out wr HBW.out k hlt)
      have HES' := Lib.hid (HES.out k hlt)
      obtain ⟨x, hx⟩ : ∃ x, x = b k := ⟨_, rfl⟩
      obtain ⟨y, hy⟩ : ∃ y, y = F k x := ⟨_, rfl⟩
      rw [← hx] at hix HCK HES'
      rw [← hy] at HCK HES'
      clear hiu hx hy
      go_wp2_with (go_at_call 287; refine (HCK.out).mono ?_; rintro e w4 ⟨rfl, hb4⟩; have H4 := Lib.hid (HB.out.below hb4 HB.out.lt); have c4 := (H4.out.cell k).trans (HEC.out k hlt k hlt); have f4 := H4.out.frozen k; have Z4 := Lib.hid (HZb.out.below hb4 HZb.out.lt); have B4 := Lib.hid (HBW.out.trans (hb4.mono HBW.out.size)); clear hb4)
      go_roundw
      case rel =>
        refine ⟨k + 1, by omega, by go_num, ?_, Z4.out.far (p := ⟨bb, k, none⟩) (by show ¬ bb + 1 = bb; omega) _, B4.out.setCell (p := ⟨bb, k, none⟩) (by show w.heap.size ≤ bb; rw [HBB.out]; exact Nat.le_refl _) _⟩
        rw [← HES'.out]
        exact H4.out.set_ k _
      case measure => simp [intOf]; omega
    · obtain rfl : k = 16 := by omega
      have HA : Hid (E 16 = b16 fun i => F i (b i)) := Lib.hid (by rw [HEE.out]; exact HEA.out)
      have HO16 : Hid ((E 16).all (·.oneCell') = true) := Lib.hid (by rw [HEE.out]; exact HO.out)
      have HS16 : Hid ((Tryz.prog.info? 357).map (·.size) = some (E 16).size) := Lib.hid (by rw [HEE.out]; exact HSF.out)
      have HZ16 : Hid (ZB.size = (E 16).size) := Lib.hid (by rw [HZS.out, HEE.out, b16_size])
      obtain ⟨X, hX⟩ : ∃ X, X = E 16 := ⟨_, rfl⟩
      rw [← hX] at HB HA HO16 HS16 HZ16
      have n1 : ¬ (16 : Int) < 16 := by omega
      clear hX hk
      go_wp2_with (first
        | (refine wpList_load_row rfl _ _ rfl bb rfl 357 X (0, 0) _ HB.out Tryz.underlying357 rfl HS16.out ?_)
        | (refine wpList_store_row rfl _ _ _ rfl (bb + 1) X rfl rfl 357 ZB HZb.out HS16.out HZ16.out HO16.out ?_))
      refine bodyPost_ret (v := .agg X) (results_cell_row (g := bb + 1) (t := 357) (fr := (0, 0)) Tryz.results284 _ _ X _ rfl (setRow_heap wr (bb + 1) ZB X 357 (0, 0) HZb.out) Tryz.underlying357 rfl HS16.out) rfl ⟨by rw [HA.out], ?_⟩
      exact belowRow HBW.out (by rw [HBB.out]; omega) _

set_option maxRecDepth 100000 in
set_option maxHeartbeats 1600000 in
theorem each_add_ok (b : Nat → Nat) (hb : B16 b) (F : Nat → Nat → Nat) (c1 c2 : Value) (w : World)
    (HC : ∀ W, Below w.heap.size w W → ∀ i, i < 16 → Calls Tryz.prog 285 #[.int .i64 (i : Nat), .int .u8 (b i : Nat), c1, c2] W fun e W' => e = .returned (.int .u8 (F i (b i) : Nat)) ∧ Below W.heap.size W W') :
    Calls Tryz.prog 284 #[.agg (b16 b), .func (.func 285) #[] #[c1, c2]] w fun e w' => e = .returned (.agg (b16 fun i => F i (b i))) ∧ Below w.heap.size w w' := by
  have HCH := Lib.hid HC
  have HEA := Lib.hid (eachK_all F b)
  have HAT := Lib.hid (fun j hj => b16_at b (j := j) hj)
  have HSZ := Lib.hid (sizeBlock b)
  have HSF := Lib.hid (sizeBlock (eachK F b 16))
  have HO := Lib.hid (b16_one (eachK F b 16))
  have HE0 := Lib.hid (eachK_zero F b)
  obtain ⟨E, hE⟩ : ∃ E : Nat → Array Value, E = fun k => b16 (eachK F b k) := ⟨_, rfl⟩
  obtain ⟨BA, hBA⟩ : ∃ BA, BA = b16 b := ⟨_, rfl⟩
  obtain ⟨ZB, hZB⟩ : ∃ ZB : Array Value, ZB = #[.int .u8 0, .int .u8 0, .int .u8 0, .int .u8 0, .int .u8 0, .int .u8 0, .int .u8 0, .int .u8 0, .int .u8 0, .int .u8 0, .int .u8 0, .int .u8 0, .int .u8 0, .int .u8 0, .int .u8 0, .int .u8 0] := ⟨_, rfl⟩
  have HEE := Lib.hid hE
  have HES : Hid (∀ k, k < 16 → (E k).setIfInBounds k (.int .u8 (F k (b k) : Nat)) = E (k + 1)) := Lib.hid (by rw [hE]; exact fun k hk => eachK_set F b k hk)
  have HEC : Hid (∀ k, k < 16 → ∀ j, j < 16 → (E k)[j]? = some (.int .u8 (eachK F b k j : Nat))) := Lib.hid (by rw [hE]; exact fun k _ j hj => b16_at _ hj)
  have HZS : Hid (ZB.size = 16) := Lib.hid (by rw [hZB]; rfl)
  rw [← hBA] at HAT HSZ ⊢
  have HBE : Hid (BA = E 0) := Lib.hid (by rw [hE, hBA]; exact congrArg b16 (eachK_zero F b).symm)
  have HZB := Lib.hid hZB
  clear HC hb hE hBA hZB
  go_enter Tryz.func284, Tryz.ntmps284
  go_upto_region 1 with (fail)
  obtain ⟨bb, hbb⟩ : ∃ bb, bb = w.heap.size := ⟨_, rfl⟩
  refine wp_let (fun V => Blk V bb 357 BA ∧ Blk V (bb + 1) 357 ZB ∧ Below w.heap.size w V) ⟨by rw [hbb]; exact (Blk.new _ _ _).alloc _, by rw [hbb, HZB.out]; exact blk_atA _ _ _ _ (by simp), ((Below.refl _ _).alloc (Nat.le_refl _) _).alloc (by simp) _⟩ ?_
  rintro W1 ⟨b1, b2, b3⟩
  have B1 := Lib.hid b1
  have B2 := Lib.hid b2
  have B3 := Lib.hid b3
  have HBB := Lib.hid hbb
  rw [← hbb]
  clear b1 b2 b3 hbb
  go_wp2_with (refine wpList_load_row rfl _ _ rfl bb rfl 357 BA (0, 0) _ B1.out Tryz.underlying357 rfl HSZ.out ?_)
  go_loopw [8] (fun v wr => ∃ k : Nat, k ≤ 16 ∧ v = .int .i64 k ∧ Blk wr bb 357 (E k) ∧ Blk wr (bb + 1) 357 ZB ∧ Below w.heap.size w wr) (fun v _ => 16 - (intOf v).toNat)
  case atStart => exact ⟨0, by omega, rfl, by rw [← HBE.out]; exact B1.out, B2.out, B3.out⟩
  case round =>
    clear B1 B2 B3
    obtain ⟨k, hk, rfl, hB, hZ, hb⟩ := hrel
    have k0 : (0 : Int) ≤ (k : Int) := by omega
    have HB := Lib.hid hB
    have HZb := Lib.hid hZ
    have HBW := Lib.hid hb
    clear hB hZ hb
    by_cases hlt : k < 16
    · have k1 : (k : Int) < 16 := by omega
      obtain ⟨iu, hiu, hius⟩ := infoU8
      have hix := idx_arr (P := Tryz.prog) 357 5 16 Tryz.underlying357 iu hiu hius .u8 Tryz.underlying5 BA k hlt _ (HAT.out k hlt)
      have HCK := Lib.hid (HCH.out wr HBW.out k hlt)
      have HES' := Lib.hid (HES.out k hlt)
      obtain ⟨x, hx⟩ : ∃ x, x = b k := ⟨_, rfl⟩
      obtain ⟨y, hy⟩ : ∃ y, y = F k x := ⟨_, rfl⟩
      rw [← hx] at hix HCK HES'
      rw [← hy] at HCK HES'
      clear hiu hx hy
      go_wp2_with (go_at_call 285; refine (HCK.out).mono ?_; rintro e w4 ⟨rfl, hb4⟩; have H4 := Lib.hid (HB.out.below hb4 HB.out.lt); have c4 := (H4.out.cell k).trans (HEC.out k hlt k hlt); have f4 := H4.out.frozen k; have Z4 := Lib.hid (HZb.out.below hb4 HZb.out.lt); have B4 := Lib.hid (HBW.out.trans (hb4.mono HBW.out.size)); clear hb4)
      go_roundw
      case rel =>
        refine ⟨k + 1, by omega, by go_num, ?_, Z4.out.far (p := ⟨bb, k, none⟩) (by show ¬ bb + 1 = bb; omega) _, B4.out.setCell (p := ⟨bb, k, none⟩) (by show w.heap.size ≤ bb; rw [HBB.out]; exact Nat.le_refl _) _⟩
        rw [← HES'.out]
        exact H4.out.set_ k _
      case measure => simp [intOf]; omega
    · obtain rfl : k = 16 := by omega
      have HA : Hid (E 16 = b16 fun i => F i (b i)) := Lib.hid (by rw [HEE.out]; exact HEA.out)
      have HO16 : Hid ((E 16).all (·.oneCell') = true) := Lib.hid (by rw [HEE.out]; exact HO.out)
      have HS16 : Hid ((Tryz.prog.info? 357).map (·.size) = some (E 16).size) := Lib.hid (by rw [HEE.out]; exact HSF.out)
      have HZ16 : Hid (ZB.size = (E 16).size) := Lib.hid (by rw [HZS.out, HEE.out, b16_size])
      obtain ⟨X, hX⟩ : ∃ X, X = E 16 := ⟨_, rfl⟩
      rw [← hX] at HB HA HO16 HS16 HZ16
      have n1 : ¬ (16 : Int) < 16 := by omega
      clear hX hk
      go_wp2_with (first
        | (refine wpList_load_row rfl _ _ rfl bb rfl 357 X (0, 0) _ HB.out Tryz.underlying357 rfl HS16.out ?_)
        | (refine wpList_store_row rfl _ _ _ rfl (bb + 1) X rfl rfl 357 ZB HZb.out HS16.out HZ16.out HO16.out ?_))
      refine bodyPost_ret (v := .agg X) (results_cell_row (g := bb + 1) (t := 357) (fr := (0, 0)) Tryz.results284 _ _ X _ rfl (setRow_heap wr (bb + 1) ZB X 357 (0, 0) HZb.out) Tryz.underlying357 rfl HS16.out) rfl ⟨by rw [HA.out], ?_⟩
      exact belowRow HBW.out (by rw [HBB.out]; omega) _

set_option maxRecDepth 100000 in
set_option maxHeartbeats 1600000 in
theorem each_mixed_ok (b : Nat → Nat) (hb : B16 b) (F : Nat → Nat → Nat) (c1 c2 : Value) (w : World)
    (HC : ∀ W, Below w.heap.size w W → ∀ i, i < 16 → Calls Tryz.prog 295 #[.int .i64 (i : Nat), .int .u8 (b i : Nat), c1, c2] W fun e W' => e = .returned (.int .u8 (F i (b i) : Nat)) ∧ Below W.heap.size W W') :
    Calls Tryz.prog 284 #[.agg (b16 b), .func (.func 295) #[] #[c1, c2]] w fun e w' => e = .returned (.agg (b16 fun i => F i (b i))) ∧ Below w.heap.size w w' := by
  have HCH := Lib.hid HC
  have HEA := Lib.hid (eachK_all F b)
  have HAT := Lib.hid (fun j hj => b16_at b (j := j) hj)
  have HSZ := Lib.hid (sizeBlock b)
  have HSF := Lib.hid (sizeBlock (eachK F b 16))
  have HO := Lib.hid (b16_one (eachK F b 16))
  have HE0 := Lib.hid (eachK_zero F b)
  obtain ⟨E, hE⟩ : ∃ E : Nat → Array Value, E = fun k => b16 (eachK F b k) := ⟨_, rfl⟩
  obtain ⟨BA, hBA⟩ : ∃ BA, BA = b16 b := ⟨_, rfl⟩
  obtain ⟨ZB, hZB⟩ : ∃ ZB : Array Value, ZB = #[.int .u8 0, .int .u8 0, .int .u8 0, .int .u8 0, .int .u8 0, .int .u8 0, .int .u8 0, .int .u8 0, .int .u8 0, .int .u8 0, .int .u8 0, .int .u8 0, .int .u8 0, .int .u8 0, .int .u8 0, .int .u8 0] := ⟨_, rfl⟩
  have HEE := Lib.hid hE
  have HES : Hid (∀ k, k < 16 → (E k).setIfInBounds k (.int .u8 (F k (b k) : Nat)) = E (k + 1)) := Lib.hid (by rw [hE]; exact fun k hk => eachK_set F b k hk)
  have HEC : Hid (∀ k, k < 16 → ∀ j, j < 16 → (E k)[j]? = some (.int .u8 (eachK F b k j : Nat))) := Lib.hid (by rw [hE]; exact fun k _ j hj => b16_at _ hj)
  have HZS : Hid (ZB.size = 16) := Lib.hid (by rw [hZB]; rfl)
  rw [← hBA] at HAT HSZ ⊢
  have HBE : Hid (BA = E 0) := Lib.hid (by rw [hE, hBA]; exact congrArg b16 (eachK_zero F b).symm)
  have HZB := Lib.hid hZB
  clear HC hb hE hBA hZB
  go_enter Tryz.func284, Tryz.ntmps284
  go_upto_region 1 with (fail)
  obtain ⟨bb, hbb⟩ : ∃ bb, bb = w.heap.size := ⟨_, rfl⟩
  refine wp_let (fun V => Blk V bb 357 BA ∧ Blk V (bb + 1) 357 ZB ∧ Below w.heap.size w V) ⟨by rw [hbb]; exact (Blk.new _ _ _).alloc _, by rw [hbb, HZB.out]; exact blk_atA _ _ _ _ (by simp), ((Below.refl _ _).alloc (Nat.le_refl _) _).alloc (by simp) _⟩ ?_
  rintro W1 ⟨b1, b2, b3⟩
  have B1 := Lib.hid b1
  have B2 := Lib.hid b2
  have B3 := Lib.hid b3
  have HBB := Lib.hid hbb
  rw [← hbb]
  clear b1 b2 b3 hbb
  go_wp2_with (refine wpList_load_row rfl _ _ rfl bb rfl 357 BA (0, 0) _ B1.out Tryz.underlying357 rfl HSZ.out ?_)
  go_loopw [8] (fun v wr => ∃ k : Nat, k ≤ 16 ∧ v = .int .i64 k ∧ Blk wr bb 357 (E k) ∧ Blk wr (bb + 1) 357 ZB ∧ Below w.heap.size w wr) (fun v _ => 16 - (intOf v).toNat)
  case atStart => exact ⟨0, by omega, rfl, by rw [← HBE.out]; exact B1.out, B2.out, B3.out⟩
  case round =>
    clear B1 B2 B3
    obtain ⟨k, hk, rfl, hB, hZ, hb⟩ := hrel
    have k0 : (0 : Int) ≤ (k : Int) := by omega
    have HB := Lib.hid hB
    have HZb := Lib.hid hZ
    have HBW := Lib.hid hb
    clear hB hZ hb
    by_cases hlt : k < 16
    · have k1 : (k : Int) < 16 := by omega
      obtain ⟨iu, hiu, hius⟩ := infoU8
      have hix := idx_arr (P := Tryz.prog) 357 5 16 Tryz.underlying357 iu hiu hius .u8 Tryz.underlying5 BA k hlt _ (HAT.out k hlt)
      have HCK := Lib.hid (HCH.out wr HBW.out k hlt)
      have HES' := Lib.hid (HES.out k hlt)
      obtain ⟨x, hx⟩ : ∃ x, x = b k := ⟨_, rfl⟩
      obtain ⟨y, hy⟩ : ∃ y, y = F k x := ⟨_, rfl⟩
      rw [← hx] at hix HCK HES'
      rw [← hy] at HCK HES'
      clear hiu hx hy
      go_wp2_with (go_at_call 295; refine (HCK.out).mono ?_; rintro e w4 ⟨rfl, hb4⟩; have H4 := Lib.hid (HB.out.below hb4 HB.out.lt); have c4 := (H4.out.cell k).trans (HEC.out k hlt k hlt); have f4 := H4.out.frozen k; have Z4 := Lib.hid (HZb.out.below hb4 HZb.out.lt); have B4 := Lib.hid (HBW.out.trans (hb4.mono HBW.out.size)); clear hb4)
      go_roundw
      case rel =>
        refine ⟨k + 1, by omega, by go_num, ?_, Z4.out.far (p := ⟨bb, k, none⟩) (by show ¬ bb + 1 = bb; omega) _, B4.out.setCell (p := ⟨bb, k, none⟩) (by show w.heap.size ≤ bb; rw [HBB.out]; exact Nat.le_refl _) _⟩
        rw [← HES'.out]
        exact H4.out.set_ k _
      case measure => simp [intOf]; omega
    · obtain rfl : k = 16 := by omega
      have HA : Hid (E 16 = b16 fun i => F i (b i)) := Lib.hid (by rw [HEE.out]; exact HEA.out)
      have HO16 : Hid ((E 16).all (·.oneCell') = true) := Lib.hid (by rw [HEE.out]; exact HO.out)
      have HS16 : Hid ((Tryz.prog.info? 357).map (·.size) = some (E 16).size) := Lib.hid (by rw [HEE.out]; exact HSF.out)
      have HZ16 : Hid (ZB.size = (E 16).size) := Lib.hid (by rw [HZS.out, HEE.out, b16_size])
      obtain ⟨X, hX⟩ : ∃ X, X = E 16 := ⟨_, rfl⟩
      rw [← hX] at HB HA HO16 HS16 HZ16
      have n1 : ¬ (16 : Int) < 16 := by omega
      clear hX hk
      go_wp2_with (first
        | (refine wpList_load_row rfl _ _ rfl bb rfl 357 X (0, 0) _ HB.out Tryz.underlying357 rfl HS16.out ?_)
        | (refine wpList_store_row rfl _ _ _ rfl (bb + 1) X rfl rfl 357 ZB HZb.out HS16.out HZ16.out HO16.out ?_))
      refine bodyPost_ret (v := .agg X) (results_cell_row (g := bb + 1) (t := 357) (fr := (0, 0)) Tryz.results284 _ _ X _ rfl (setRow_heap wr (bb + 1) ZB X 357 (0, 0) HZb.out) Tryz.underlying357 rfl HS16.out) rfl ⟨by rw [HA.out], ?_⟩
      exact belowRow HBW.out (by rw [HBB.out]; omega) _
end Go.Proofs.YthadfbekfbfkpaaGreat
namespace Go.Proofs.YthadfbekfbfkpaaGreat
open Go.RowKit
set_option linter.unusedVariables false
attribute [local go_sem ↓] Go.wp_at_zero Go.wp_at_succ

/-- a cipher in memory -/
def cipArr (key : Nat → Nat) : Array Value := boxArr sbx isb ++ keyArr (sched sbx key) 176
theorem cipArr_size (key : Nat → Nat) : (cipArr key).size = 688 := by unfold cipArr; rw [Array.size_append, boxArr_size, keyArr_size]
theorem cipArr_box (key : Nat → Nat) {x : Nat} (hx : x < 256) : (cipArr key)[x]? = some (.int .u8 (sbx x : Nat)) := by
  unfold cipArr
  rw [Array.getElem?_append_left (by rw [boxArr_size]; omega), boxArr_at _ _ (by omega), if_pos hx]
theorem cipArr_key (key : Nat → Nat) {n i : Nat} (hn : n < 11) (hi : i < 16) : (cipArr key)[512 + n * 16 + i]? = some (.int .u8 (sched sbx key n i : Nat)) := by
  unfold cipArr
  rw [Array.getElem?_append_right (by rw [boxArr_size]; omega), boxArr_size, show 512 + n * 16 + i - 512 = n * 16 + i by omega, keyArr_at _ _ (by omega), if_pos (by omega), show (n * 16 + i) / 16 = n by omega, show (n * 16 + i) % 16 = i by omega]
def CipM (w : World) (g : Nat) (key : Nat → Nat) : Prop := Blk w g 361 (cipArr key)
theorem CipM.below {w w' : World} {g : Nat} {key : Nat → Nat} (h : CipM w g key) (hb : Below w.heap.size w w') : CipM w' g key := Blk.below h hb (Blk.lt h)
theorem CipM.box {w : World} {g : Nat} {key : Nat → Nat} (h : CipM w g key) {x : Nat} (hx : x < 256) : w.cell? ⟨g, x, none⟩ = some (.int .u8 (sbx x : Nat)) := (Blk.cell h x).trans (cipArr_box key hx)
theorem CipM.key {w : World} {g : Nat} {key : Nat → Nat} (h : CipM w g key) {n i : Nat} (hn : n < 11) (hi : i < 16) : w.cell? ⟨g, 512 + n * 16 + i, none⟩ = some (.int .u8 (sched sbx key n i : Nat)) := (Blk.cell h _).trans (cipArr_key key hn hi)
theorem blk_nth (W : World) (t : TypeId) (cs : Array Value) (N : Nat) (hN : W.heap.size = N) (o : Obj) : Blk ((W.alloc (.cells cs t)).alloc o) N t cs := (blk_atA W t cs N hN).alloc o

set_option maxRecDepth 100000 in
set_option maxHeartbeats 1600000 in
theorem sub_ok (b : Nat → Nat) (hb : B16 b) (cg : Nat) (key : Nat → Nat) (n : Int) (w : World) (h : CipM w cg key) :
    Calls Tryz.prog 264 #[.pointer (some ⟨cg, 0, none⟩), .agg (b16 b), .int .i64 n] w fun e w' => e = .returned (.agg (b16 (sSub b))) ∧ Below w.heap.size w w' := by
  have hmf : ∀ (fn : Fn) (first cap : Array Value) (w : World), (Instr.makeFunc fn first cap).run Tryz.prog w = .ok (.func fn first cap) w := fun _ _ _ _ => rfl
  have HSB := Lib.hid (sizeBlock b)
  obtain ⟨ZB, hZB⟩ : ∃ ZB : Array Value, ZB = #[.int .u8 0, .int .u8 0, .int .u8 0, .int .u8 0, .int .u8 0, .int .u8 0, .int .u8 0, .int .u8 0, .int .u8 0, .int .u8 0, .int .u8 0, .int .u8 0, .int .u8 0, .int .u8 0, .int .u8 0, .int .u8 0] := ⟨_, rfl⟩
  have HZB := Lib.hid hZB
  obtain ⟨BA, hBA⟩ : ∃ BA, BA = b16 b := ⟨_, rfl⟩
  have HBA := Lib.hid hBA
  obtain ⟨RA, hRA⟩ : ∃ RA, RA = b16 (sSub b) := ⟨_, rfl⟩
  have HRS : Hid ((Tryz.prog.info? 357).map (·.size) = some RA.size) := Lib.hid (by rw [hRA]; exact sizeBlock _)
  have HZR : Hid (ZB.size = RA.size) := Lib.hid (by rw [hZB, hRA, b16_size]; rfl)
  have HRO : Hid (RA.all (·.oneCell') = true) := Lib.hid (by rw [hRA]; exact b16_one _)
  have HEA := Lib.hid (fun (V : World) (c1 : Value) => each_sub_ok b hb (fun _ x => sbx x) c1 V)
  have HBB := Lib.hid hb
  have HCI := Lib.hid h
  rw [show (fun i => sbx (b i)) = sSub b from rfl, ← hRA] at HEA
  rw [← hBA] at HEA
  rw [← hBA] at HSB
  rw [← hRA]
  rw [← hBA]
  clear hZB hBA hRA hb h
  go_enter Tryz.func264, Tryz.ntmps264
  go_upto_region 1 with (fail)
  obtain ⟨p0, hp0⟩ : ∃ p0, p0 = w.heap.size := ⟨_, rfl⟩
  refine wp_let (fun V => Blk V (p0) 317 #[.pointer (some ⟨cg, 0, none⟩)] ∧ Blk V (p0 + 1) 357 BA ∧ Blk V (p0 + 2) 357 ZB ∧ Below w.heap.size w V) ⟨by rw [hp0]; exact ((blk_atA _ _ _ _ (by simp)).alloc _).alloc _, by rw [hp0]; exact (blk_atA _ _ _ _ (by simp)).alloc _, by rw [hp0, HZB.out]; exact blk_atA _ _ _ _ (by simp), (((Below.refl _ _).alloc (by first | exact Nat.le_refl _ | (simp only [World.size_alloc]; omega)) _).alloc (by first | exact Nat.le_refl _ | (simp only [World.size_alloc]; omega)) _).alloc (by first | exact Nat.le_refl _ | (simp only [World.size_alloc]; omega)) _⟩ ?_
  rintro W ⟨b0, b1, b2, bb⟩
  have HP0 := Lib.hid hp0
  have B0 := Lib.hid b0
  have B1 := Lib.hid b1
  have B2 := Lib.hid b2
  have BB := Lib.hid bb
  have HCW := Lib.hid (HCI.out.below bb)
  have HE := Lib.hid (HEA.out W (.pointer (some ⟨p0, 0, none⟩)) (fun V hV i hi => (subc_ok i (b i) (sbx (b i)) (HBB.out i hi) p0 cg V ((b0.below hV b0.lt).cell 0) ((HCW.out.below hV).box (HBB.out i hi))).mono (fun e W' ⟨h1, h2⟩ => ⟨h1, by rw [← h2]; exact Below.refl _ _⟩)))
  rw [← hp0]
  clear b0 b1 b2 bb hp0
  go_wp2_with (first
    | (refine wpList_load_row rfl _ _ rfl (p0 + 1) rfl 357 BA (0, 0) _ B1.out Tryz.underlying357 rfl HSB.out ?_)
    | (go_at_call 284; refine (HE.out).mono ?_; rintro e w4 ⟨rfl, hb4⟩; have Z4 := Lib.hid (B2.out.below hb4 B2.out.lt); have B4 := Lib.hid (BB.out.trans (hb4.mono BB.out.size)); clear hb4)
    | (refine wpList_store_row rfl _ _ _ rfl (p0 + 2) RA rfl rfl 357 ZB Z4.out HRS.out HZR.out HRO.out ?_))
  refine bodyPost_ret (v := .agg RA) (results_cell_row (g := p0 + 2) (t := 357) (fr := (0, 0)) Tryz.results264 _ _ RA _ rfl (setRow_heap _ (p0 + 2) ZB RA 357 (0, 0) Z4.out) Tryz.underlying357 rfl HRS.out) rfl ⟨rfl, ?_⟩
  exact belowRow B4.out (by rw [HP0.out]; omega) _

set_option maxRecDepth 100000 in
set_option maxHeartbeats 1600000 in
theorem shift_ok (b : Nat → Nat) (hb : B16 b) (p : Value) (n : Int) (w : World) :
    Calls Tryz.prog 265 #[p, .agg (b16 b), .int .i64 n] w fun e w' => e = .returned (.agg (b16 (sShift b))) ∧ Below w.heap.size w w' := by
  have hmf : ∀ (fn : Fn) (first cap : Array Value) (w : World), (Instr.makeFunc fn first cap).run Tryz.prog w = .ok (.func fn first cap) w := fun _ _ _ _ => rfl
  have HSB := Lib.hid (sizeBlock b)
  obtain ⟨ZB, hZB⟩ : ∃ ZB : Array Value, ZB = #[.int .u8 0, .int .u8 0, .int .u8 0, .int .u8 0, .int .u8 0, .int .u8 0, .int .u8 0, .int .u8 0, .int .u8 0, .int .u8 0, .int .u8 0, .int .u8 0, .int .u8 0, .int .u8 0, .int .u8 0, .int .u8 0] := ⟨_, rfl⟩
  have HZB := Lib.hid hZB
  obtain ⟨BA, hBA⟩ : ∃ BA, BA = b16 b := ⟨_, rfl⟩
  have HBA := Lib.hid hBA
  obtain ⟨RA, hRA⟩ : ∃ RA, RA = b16 (sShift b) := ⟨_, rfl⟩
  have HRS : Hid ((Tryz.prog.info? 357).map (·.size) = some RA.size) := Lib.hid (by rw [hRA]; exact sizeBlock _)
  have HZR : Hid (ZB.size = RA.size) := Lib.hid (by rw [hZB, hRA, b16_size]; rfl)
  have HRO : Hid (RA.all (·.oneCell') = true) := Lib.hid (by rw [hRA]; exact b16_one _)
  have HEA := Lib.hid (fun (V : World) (c1 : Value) => each_shift_ok b hb (fun i _ => b ((i + 4 * (i % 4)) % 16)) c1 V)
  have HBB := Lib.hid hb
  have HAT := Lib.hid (fun j hj => b16_at b (j := j) hj)
  rw [show (fun i => b ((i + 4 * (i % 4)) % 16)) = sShift b from rfl, ← hRA] at HEA
  rw [← hBA] at HEA HAT
  rw [← hBA] at HSB
  rw [← hRA]
  rw [← hBA]
  clear hZB hBA hRA hb
  go_enter Tryz.func265, Tryz.ntmps265
  go_upto_region 1 with (fail)
  obtain ⟨p0, hp0⟩ : ∃ p0, p0 = w.heap.size := ⟨_, rfl⟩
  refine wp_let (fun V => Blk V (p0) 357 BA ∧ Blk V (p0 + 1) 357 ZB ∧ Below w.heap.size w V) ⟨by rw [hp0]; exact (blk_atA _ _ _ _ (by simp)).alloc _, by rw [hp0, HZB.out]; exact blk_atA _ _ _ _ (by simp), ((Below.refl _ _).alloc (by first | exact Nat.le_refl _ | (simp only [World.size_alloc]; omega)) _).alloc (by first | exact Nat.le_refl _ | (simp only [World.size_alloc]; omega)) _⟩ ?_
  rintro W ⟨b0, b1, bb⟩
  have HP0 := Lib.hid hp0
  have B0 := Lib.hid b0
  have B1 := Lib.hid b1
  have BB := Lib.hid bb
  have HE := Lib.hid (HEA.out W (.pointer (some ⟨p0, 0, none⟩)) (fun V hV i hi => (shiftc_ok i (b i : Nat) hi _ p0 V (((b0.below hV b0.lt).cell _).trans (HAT.out _ (Nat.mod_lt _ (by decide))))).mono (fun e W' ⟨h1, h2⟩ => ⟨h1, by rw [← h2]; exact Below.refl _ _⟩)))
  rw [← hp0]
  clear b0 b1 bb hp0
  go_wp2_with (first
    | (refine wpList_load_row rfl _ _ rfl (p0) rfl 357 BA (0, 0) _ B0.out Tryz.underlying357 rfl HSB.out ?_)
    | (go_at_call 284; refine (HE.out).mono ?_; rintro e w4 ⟨rfl, hb4⟩; have Z4 := Lib.hid (B1.out.below hb4 B1.out.lt); have B4 := Lib.hid (BB.out.trans (hb4.mono BB.out.size)); clear hb4)
    | (refine wpList_store_row rfl _ _ _ rfl (p0 + 1) RA rfl rfl 357 ZB Z4.out HRS.out HZR.out HRO.out ?_))
  refine bodyPost_ret (v := .agg RA) (results_cell_row (g := p0 + 1) (t := 357) (fr := (0, 0)) Tryz.results265 _ _ RA _ rfl (setRow_heap _ (p0 + 1) ZB RA 357 (0, 0) Z4.out) Tryz.underlying357 rfl HRS.out) rfl ⟨rfl, ?_⟩
  exact belowRow B4.out (by rw [HP0.out]; omega) _

set_option maxRecDepth 100000 in
set_option maxHeartbeats 1600000 in
theorem add_ok (b : Nat → Nat) (hb : B16 b) (cg : Nat) (key : Nat → Nat) (hk : B16 key) (n : Nat) (hn : n < 11) (w : World) (h : CipM w cg key) :
    Calls Tryz.prog 263 #[.pointer (some ⟨cg, 0, none⟩), .agg (b16 b), .int .i64 n] w fun e w' => e = .returned (.agg (b16 (sAdd (sched sbx key) n b))) ∧ Below w.heap.size w w' := by
  have hmf : ∀ (fn : Fn) (first cap : Array Value) (w : World), (Instr.makeFunc fn first cap).run Tryz.prog w = .ok (.func fn first cap) w := fun _ _ _ _ => rfl
  have HSB := Lib.hid (sizeBlock b)
  obtain ⟨ZB, hZB⟩ : ∃ ZB : Array Value, ZB = #[.int .u8 0, .int .u8 0, .int .u8 0, .int .u8 0, .int .u8 0, .int .u8 0, .int .u8 0, .int .u8 0, .int .u8 0, .int .u8 0, .int .u8 0, .int .u8 0, .int .u8 0, .int .u8 0, .int .u8 0, .int .u8 0] := ⟨_, rfl⟩
  have HZB := Lib.hid hZB
  obtain ⟨BA, hBA⟩ : ∃ BA, BA = b16 b := ⟨_, rfl⟩
  have HBA := Lib.hid hBA
  obtain ⟨RA, hRA⟩ : ∃ RA, RA = b16 (sAdd (sched sbx key) n b) := ⟨_, rfl⟩
  have HRS : Hid ((Tryz.prog.info? 357).map (·.size) = some RA.size) := Lib.hid (by rw [hRA]; exact sizeBlock _)
  have HZR : Hid (ZB.size = RA.size) := Lib.hid (by rw [hZB, hRA, b16_size]; rfl)
  have HRO : Hid (RA.all (·.oneCell') = true) := Lib.hid (by rw [hRA]; exact b16_one _)
  have HEA := Lib.hid (fun (V : World) (c1 c2 : Value) => each_add_ok b hb (fun i x => x ^^^ sched sbx key n i) c1 c2 V)
  have HBB := Lib.hid hb
  have HCI := Lib.hid h
  have HKL := Lib.hid (fun i hi => sched_lt (boxK_lt 255) hk n i hi)
  rw [show (fun i => b i ^^^ sched sbx key n i) = sAdd (sched sbx key) n b from rfl, ← hRA] at HEA
  rw [← hBA] at HEA
  rw [← hBA] at HSB
  rw [← hRA]
  rw [← hBA]
  clear hZB hBA hRA hb h
  go_enter Tryz.func263, Tryz.ntmps263
  go_upto_region 1 with (fail)
  obtain ⟨p0, hp0⟩ : ∃ p0, p0 = w.heap.size := ⟨_, rfl⟩
  refine wp_let (fun V => Blk V (p0) 317 #[.pointer (some ⟨cg, 0, none⟩)] ∧ Blk V (p0 + 1) 357 BA ∧ Blk V (p0 + 2) 3 #[.int .i64 n] ∧ Blk V (p0 + 3) 357 ZB ∧ Below w.heap.size w V) ⟨by rw [hp0]; exact (((blk_atA _ _ _ _ (by simp)).alloc _).alloc _).alloc _, by rw [hp0]; exact ((blk_atA _ _ _ _ (by simp)).alloc _).alloc _, by rw [hp0]; exact (blk_atA _ _ _ _ (by simp)).alloc _, by rw [hp0, HZB.out]; exact blk_atA _ _ _ _ (by simp), ((((Below.refl _ _).alloc (by first | exact Nat.le_refl _ | (simp only [World.size_alloc]; omega)) _).alloc (by first | exact Nat.le_refl _ | (simp only [World.size_alloc]; omega)) _).alloc (by first | exact Nat.le_refl _ | (simp only [World.size_alloc]; omega)) _).alloc (by first | exact Nat.le_refl _ | (simp only [World.size_alloc]; omega)) _⟩ ?_
  rintro W ⟨b0, b1, b2, b3, bb⟩
  have HP0 := Lib.hid hp0
  have B0 := Lib.hid b0
  have B1 := Lib.hid b1
  have B2 := Lib.hid b2
  have B3 := Lib.hid b3
  have BB := Lib.hid bb
  have HCW := Lib.hid (HCI.out.below bb)
  have HE := Lib.hid (HEA.out W (.pointer (some ⟨p0, 0, none⟩)) (.pointer (some ⟨p0 + 2, 0, none⟩)) (fun V hV i hi => addc_ok i n (b i) (sched sbx key n i) hi hn (HBB.out i hi) (HKL.out i hi) p0 (p0 + 2) cg V ((b0.below hV b0.lt).cell 0) ((b2.below hV b2.lt).cell 0) ((HCW.out.below hV).key hn hi)))
  rw [← hp0]
  clear b0 b1 b2 b3 bb hp0
  go_wp2_with (first
    | (refine wpList_load_row rfl _ _ rfl (p0 + 1) rfl 357 BA (0, 0) _ B1.out Tryz.underlying357 rfl HSB.out ?_)
    | (go_at_call 284; refine (HE.out).mono ?_; rintro e w4 ⟨rfl, hb4⟩; have Z4 := Lib.hid (B3.out.below hb4 B3.out.lt); have B4 := Lib.hid (BB.out.trans (hb4.mono BB.out.size)); clear hb4)
    | (refine wpList_store_row rfl _ _ _ rfl (p0 + 3) RA rfl rfl 357 ZB Z4.out HRS.out HZR.out HRO.out ?_))
  refine bodyPost_ret (v := .agg RA) (results_cell_row (g := p0 + 3) (t := 357) (fr := (0, 0)) Tryz.results263 _ _ RA _ rfl (setRow_heap _ (p0 + 3) ZB RA 357 (0, 0) Z4.out) Tryz.underlying357 rfl HRS.out) rfl ⟨rfl, ?_⟩
  exact belowRow B4.out (by rw [HP0.out]; omega) _

set_option maxRecDepth 100000 in
set_option maxHeartbeats 1600000 in
theorem mixed_ok (b : Nat → Nat) (hb : B16 b) (n : Nat) (w : World) :
    Calls Tryz.prog 288 #[.agg (b16 b), .int .i64 n, .agg #[.int .u8 2, .int .u8 3, .int .u8 1, .int .u8 1]] w fun e w' => e = .returned (.agg (b16 (sMix n b))) ∧ Below w.heap.size w w' := by
  have hmf : ∀ (fn : Fn) (first cap : Array Value) (w : World), (Instr.makeFunc fn first cap).run Tryz.prog w = .ok (.func fn first cap) w := fun _ _ _ _ => rfl
  have HSB := Lib.hid (sizeBlock b)
  obtain ⟨ZB, hZB⟩ : ∃ ZB : Array Value, ZB = #[.int .u8 0, .int .u8 0, .int .u8 0, .int .u8 0, .int .u8 0, .int .u8 0, .int .u8 0, .int .u8 0, .int .u8 0, .int .u8 0, .int .u8 0, .int .u8 0, .int .u8 0, .int .u8 0, .int .u8 0, .int .u8 0] := ⟨_, rfl⟩
  have HZB := Lib.hid hZB
  obtain ⟨BA, hBA⟩ : ∃ BA, BA = b16 b := ⟨_, rfl⟩
  have HBA := Lib.hid hBA
  obtain ⟨RA, hRA⟩ : ∃ RA, RA = b16 (sMix n b) := ⟨_, rfl⟩
  have HRS : Hid ((Tryz.prog.info? 357).map (·.size) = some RA.size) := Lib.hid (by rw [hRA]; exact sizeBlock _)
  have HZR : Hid (ZB.size = RA.size) := Lib.hid (by rw [hZB, hRA, b16_size]; rfl)
  have HRO : Hid (RA.all (·.oneCell') = true) := Lib.hid (by rw [hRA]; exact b16_one _)
  have HEA := Lib.hid (fun (V : World) (c1 c2 : Value) => each_mixed_ok b hb (fun i _ => mixAt b i) c1 c2 V)
  have HBB := Lib.hid hb
  have HRA := Lib.hid hRA
  rw [← hBA] at HEA
  rw [← hBA] at HSB
  rw [← hRA]
  rw [← hBA]
  clear hZB hBA hRA hb
  go_enter Tryz.func288, Tryz.ntmps288
  go_upto_region 1 with (fail)
  obtain ⟨p0, hp0⟩ : ∃ p0, p0 = w.heap.size := ⟨_, rfl⟩
  refine wp_let (fun V => Blk V (p0) 357 BA ∧ Blk V (p0 + 1) 333 #[.int .u8 2, .int .u8 3, .int .u8 1, .int .u8 1] ∧ Blk V (p0 + 2) 357 ZB ∧ Below w.heap.size w V) ⟨by rw [hp0]; exact ((blk_atA _ _ _ _ (by simp)).alloc _).alloc _, by rw [hp0]; exact (blk_atA _ _ _ _ (by simp)).alloc _, by rw [hp0, HZB.out]; exact blk_atA _ _ _ _ (by simp), (((Below.refl _ _).alloc (by first | exact Nat.le_refl _ | (simp only [World.size_alloc]; omega)) _).alloc (by first | exact Nat.le_refl _ | (simp only [World.size_alloc]; omega)) _).alloc (by first | exact Nat.le_refl _ | (simp only [World.size_alloc]; omega)) _⟩ ?_
  rintro W ⟨b0, b1, b2, bb⟩
  have HP0 := Lib.hid hp0
  have B0 := Lib.hid b0
  have B1 := Lib.hid b1
  have B2 := Lib.hid b2
  have BB := Lib.hid bb
  rw [← hp0]
  clear b0 b1 b2 bb hp0
  by_cases h10 : n = 10
  · subst h10
    have HEQ : Hid (RA = BA) := Lib.hid (by rw [HRA.out, HBA.out]; rfl)
    go_wp2_with (first
      | (refine wpList_load_row rfl _ _ rfl p0 rfl 357 BA (0, 0) _ B0.out Tryz.underlying357 rfl HSB.out ?_)
      | (rw [← HEQ.out]; refine wpList_store_row rfl _ _ _ rfl (p0 + 2) RA rfl rfl 357 ZB B2.out HRS.out HZR.out HRO.out ?_))
    refine bodyPost_ret (v := .agg RA) (results_cell_row (g := p0 + 2) (t := 357) (fr := (0, 0)) Tryz.results288 _ _ RA _ rfl (setRow_heap _ (p0 + 2) ZB RA 357 (0, 0) B2.out) Tryz.underlying357 rfl HRS.out) rfl ⟨rfl, ?_⟩
    exact belowRow BB.out (by rw [HP0.out]; omega) _
  · have hne : ((n : Int) == 10) = false := by rw [beq_eq_false_iff_ne]; omega
    have HR2 : Hid (RA = b16 (fun i => mixAt b i)) := Lib.hid (by rw [HRA.out]; unfold sMix; rw [if_neg h10])
    have HE := Lib.hid (HEA.out W (.pointer (some ⟨p0 + 1, 0, none⟩)) (.pointer (some ⟨p0, 0, none⟩)) (fun V hV i hi => (mixc_ok i (b i : Nat) hi b HBB.out (p0 + 1) p0 V (B1.out.below hV B1.out.lt) (HBA.out ▸ B0.out.below hV B0.out.lt)).mono (fun e W' ⟨h1, h2⟩ => ⟨h1, by rw [← h2]; exact Below.refl _ _⟩)))
    rw [← HR2.out] at HE
    go_wp2_with (first
      | (refine wpList_load_row rfl _ _ rfl (p0) rfl 357 BA (0, 0) _ B0.out Tryz.underlying357 rfl HSB.out ?_)
      | (go_at_call 284; refine (HE.out).mono ?_; rintro e w4 ⟨rfl, hb4⟩; have Z4 := Lib.hid (B2.out.below hb4 B2.out.lt); have B4 := Lib.hid (BB.out.trans (hb4.mono BB.out.size)); clear hb4)
      | (refine wpList_store_row rfl _ _ _ rfl (p0 + 2) RA rfl rfl 357 ZB Z4.out HRS.out HZR.out HRO.out ?_))
    refine bodyPost_ret (v := .agg RA) (results_cell_row (g := p0 + 2) (t := 357) (fr := (0, 0)) Tryz.results288 _ _ RA _ rfl (setRow_heap _ (p0 + 2) ZB RA 357 (0, 0) Z4.out) Tryz.underlying357 rfl HRS.out) rfl ⟨rfl, ?_⟩
    exact belowRow B4.out (by rw [HP0.out]; omega) _

set_option maxRecDepth 100000 in
set_option maxHeartbeats 1600000 in
theorem mix_ok (b : Nat → Nat) (hb : B16 b) (p : Value) (n : Nat) (w : World) :
    Calls Tryz.prog 266 #[p, .agg (b16 b), .int .i64 n] w fun e w' => e = .returned (.agg (b16 (sMix n b))) ∧ Below w.heap.size w w' := by
  have hmf : ∀ (fn : Fn) (first cap : Array Value) (w : World), (Instr.makeFunc fn first cap).run Tryz.prog w = .ok (.func fn first cap) w := fun _ _ _ _ => rfl
  have HSB := Lib.hid (sizeBlock b)
  obtain ⟨ZB, hZB⟩ : ∃ ZB : Array Value, ZB = #[.int .u8 0, .int .u8 0, .int .u8 0, .int .u8 0, .int .u8 0, .int .u8 0, .int .u8 0, .int .u8 0, .int .u8 0, .int .u8 0, .int .u8 0, .int .u8 0, .int .u8 0, .int .u8 0, .int .u8 0, .int .u8 0] := ⟨_, rfl⟩
  have HZB := Lib.hid hZB
  obtain ⟨BA, hBA⟩ : ∃ BA, BA = b16 b := ⟨_, rfl⟩
  have HBA := Lib.hid hBA
  obtain ⟨RA, hRA⟩ : ∃ RA, RA = b16 (sMix n b) := ⟨_, rfl⟩
  have HRS : Hid ((Tryz.prog.info? 357).map (·.size) = some RA.size) := Lib.hid (by rw [hRA]; exact sizeBlock _)
  have HZR : Hid (ZB.size = RA.size) := Lib.hid (by rw [hZB, hRA, b16_size]; rfl)
  have HRO : Hid (RA.all (·.oneCell') = true) := Lib.hid (by rw [hRA]; exact b16_one _)
  have HEA := Lib.hid (fun (V : World) => mixed_ok b hb n V)
  rw [← hRA] at HEA
  rw [← hBA] at HEA
  rw [← hBA] at HSB
  rw [← hRA]
  rw [← hBA]
  clear hZB hBA hRA hb
  go_enter Tryz.func266, Tryz.ntmps266
  go_upto_region 1 with (fail)
  obtain ⟨p0, hp0⟩ : ∃ p0, p0 = w.heap.size := ⟨_, rfl⟩
  refine wp_let (fun V => Blk V (p0) 357 BA ∧ Blk V (p0 + 1) 357 ZB ∧ Below w.heap.size w V) ⟨by rw [hp0]; exact (blk_atA _ _ _ _ (by simp)).alloc _, by rw [hp0, HZB.out]; exact blk_atA _ _ _ _ (by simp), ((Below.refl _ _).alloc (by first | exact Nat.le_refl _ | (simp only [World.size_alloc]; omega)) _).alloc (by first | exact Nat.le_refl _ | (simp only [World.size_alloc]; omega)) _⟩ ?_
  rintro W ⟨b0, b1, bb⟩
  have HP0 := Lib.hid hp0
  have B0 := Lib.hid b0
  have B1 := Lib.hid b1
  have BB := Lib.hid bb
  have HE := Lib.hid (HEA.out W)
  rw [← hp0]
  clear b0 b1 bb hp0
  go_wp2_with (first
    | (refine wpList_load_row rfl _ _ rfl (p0) rfl 357 BA (0, 0) _ B0.out Tryz.underlying357 rfl HSB.out ?_)
    | (go_at_call 288; refine (HE.out).mono ?_; rintro e w4 ⟨rfl, hb4⟩; have Z4 := Lib.hid (B1.out.below hb4 B1.out.lt); have B4 := Lib.hid (BB.out.trans (hb4.mono BB.out.size)); clear hb4)
    | (refine wpList_store_row rfl _ _ _ rfl (p0 + 1) RA rfl rfl 357 ZB Z4.out HRS.out HZR.out HRO.out ?_))
  refine bodyPost_ret (v := .agg RA) (results_cell_row (g := p0 + 1) (t := 357) (fr := (0, 0)) Tryz.results266 _ _ RA _ rfl (setRow_heap _ (p0 + 1) ZB RA 357 (0, 0) Z4.out) Tryz.underlying357 rfl HRS.out) rfl ⟨rfl, ?_⟩
  exact belowRow B4.out (by rw [HP0.out]; omega) _
end Go.Proofs.YthadfbekfbfkpaaGreat
namespace Go.Proofs.YthadfbekfbfkpaaGreat
open Go.RowKit
set_option linter.unusedVariables false
attribute [local go_sem ↓] Go.wp_at_zero Go.wp_at_succ

theorem zeroKeys (K : Nat → Nat → Nat) : Tryz.zeroCells358 = keyArr K 0 := by
  have h : Tryz.zeroCells358 = keyArr (fun _ _ => 0) 0 := by kernel_rfl
  rw [h]
  apply Array.ext_getElem?
  intro j
  by_cases hj : j < 176
  · rw [keyArr_at _ _ hj, keyArr_at _ _ hj, if_neg (by omega), if_neg (by omega)]
  · rw [Array.getElem?_eq_none (by rw [keyArr_size]; omega), Array.getElem?_eq_none (by rw [keyArr_size]; omega)]
theorem sizeKeys (K : Nat → Nat → Nat) (p : Nat) : (Tryz.prog.info? 358).map (·.size) = some (keyArr K p).size := by rw [keyArr_size]; kernel_rfl
/-- a row of the round keys -/
theorem key_range {w : World} {g p : Nat} {K : Nat → Nat → Nat} {t : TypeId} (h : Blk w g t (keyArr K p)) (n : Nat) (hn : n < 11) (hp : 16 * n + 16 ≤ p) : w.rangeAt g (n * 16) (b16 (K n)).toList := fun j v hv => by
  have hj : j < 16 := by
    have := (List.getElem?_eq_some_iff.1 hv).1
    rwa [Array.length_toList, b16_size] at this
  rw [Array.getElem?_toList, b16_at _ hj] at hv
  rw [h.cell, keyArr_at _ _ (by omega), if_pos (by omega), show (n * 16 + j) / 16 = n by omega, show (n * 16 + j) % 16 = j by omega]
  exact hv
theorem key_there {w : World} {g p : Nat} {K : Nat → Nat → Nat} {t : TypeId} (h : Blk w g t (keyArr K p)) : w.there g 0 16 := fun j hj => by
  refine ⟨?_, h.frozen _⟩
  rw [h.cell, keyArr_at _ _ (by omega)]
  rfl
theorem key_first (K : Nat → Nat → Nat) : tsAll (keyArr K 0) 0 (b16 (K 0)).toList = keyArr K 16 := by
  apply Array.ext_getElem?
  intro j
  have hl : (b16 (K 0)).toList.length = 16 := by rw [Array.length_toList, b16_size]
  by_cases h1 : j < 16
  · have := tsAll_in (b16 (K 0)).toList 0 (keyArr K 0) j (by omega) (by rw [keyArr_size]; omega)
    rw [Nat.zero_add] at this
    rw [this, Array.getElem?_toList, b16_at _ h1, keyArr_at _ _ (by omega), if_pos h1, Nat.div_eq_of_lt h1, Nat.mod_eq_of_lt h1]
  · rw [tsAll_out _ _ _ _ (by omega)]
    by_cases hj : j < 176
    · rw [keyArr_at _ _ hj, keyArr_at _ _ hj, if_neg (by omega), if_neg h1]
    · rw [Array.getElem?_eq_none (by rw [keyArr_size]; omega), Array.getElem?_eq_none (by rw [keyArr_size]; omega)]
theorem below_cells {B g : Nat} (hg : B ≤ g) : ∀ (vs : List Value) (o : Nat) (w0 w : World), Below B w0 w → Below B w0 (w.setCells g o vs)
  | [], _, _, _, h => h
  | v :: r, o, w0, w, h => below_cells hg r (o + 1) w0 (w.setCell ⟨g, o, none⟩ v) (h.setCell (p := ⟨g, o, none⟩) hg v)
theorem blk_cells_far {g b : Nat} (hg : b ≠ g) {t : TypeId} {cs : Array Value} : ∀ (vs : List Value) (o : Nat) (w : World), Blk w b t cs → Blk (w.setCells g o vs) b t cs
  | [], _, _, h => h
  | v :: r, o, w, h => blk_cells_far hg r (o + 1) (w.setCell ⟨g, o, none⟩ v) (h.far (p := ⟨g, o, none⟩) hg v)
set_option maxRecDepth 100000 in
set_option maxHeartbeats 3200000 in
theorem schedule_ok (f g key : Nat → Nat) (hf : ∀ j, f j < 256) (hk : B16 key) (w : World) : Calls Tryz.prog 259 #[.agg (boxArr f g), .agg (b16 key)] w fun e w' => e = .returned (.agg (keyArr (sched f key) 176)) ∧ Below w.heap.size w w' := by
  obtain ⟨K, hK⟩ : ∃ K, K = sched f key := ⟨_, rfl⟩
  have HZ := zeroKeys K
  have HKL : Hid (∀ n i, i < 16 → K n i < 256) := Lib.hid (by rw [hK]; exact fun n i hi => sched_lt hf hk n i hi)
  have HSF : Hid (∀ n, K (n + 1) 0 = K n 0 ^^^ f (K n 13) ^^^ pw2 n) := Lib.hid (by rw [hK]; exact sched_first f key)
  have HSH : Hid (∀ n i, i ≠ 0 → i < 4 → K (n + 1) i = K n i ^^^ f (K n (12 + (i + 1) % 4))) := Lib.hid (by rw [hK]; exact sched_head f key)
  have HST : Hid (∀ n i, 4 ≤ i → K (n + 1) i = K n i ^^^ K (n + 1) (i - 4)) := Lib.hid (by rw [hK]; exact sched_tail f key)
  have HK0 : Hid (b16 (K 0) = b16 key) := Lib.hid (by rw [hK]; rfl)
  have HF := Lib.hid hf
  have HBX := Lib.hid (fun j (hj : j < 256) => (boxArr_at f g (j := j) (by omega)).trans (by rw [if_pos hj]))
  obtain ⟨BX, hBX⟩ : ∃ BX, BX = boxArr f g := ⟨_, rfl⟩
  obtain ⟨KY, hKY⟩ : ∃ KY, KY = b16 key := ⟨_, rfl⟩
  have HSK : Hid ((Tryz.prog.info? 23).map (·.size) = some KY.size) := Lib.hid (by rw [hKY, b16_size]; kernel_rfl)
  have HSKB : Hid ((Tryz.prog.info? 357).map (·.size) = some KY.size) := Lib.hid (by rw [hKY]; exact sizeBlock _)
  have HOK : Hid (KY.all (·.oneCell') = true) := Lib.hid (by rw [hKY]; exact b16_one _)
  have HKY := Lib.hid hKY
  rw [← hK, ← hBX, ← hKY]
  rw [← hBX] at HBX
  clear hK hBX hKY hf hk
  go_enter Tryz.func259, Tryz.ntmps259
  go_upto_region 1 with (fail)
  obtain ⟨sb, hsb⟩ : ∃ sb, sb = w.heap.size := ⟨_, rfl⟩
  obtain ⟨kb, hkb⟩ : ∃ kb, kb = sb + 1 := ⟨_, rfl⟩
  obtain ⟨ob, hob⟩ : ∃ ob, ob = sb + 1 + 1 := ⟨_, rfl⟩
  refine wp_let (fun V => Blk V sb 355 BX ∧ Blk V kb 23 KY ∧ Blk V ob 358 (keyArr K 0) ∧ Below w.heap.size w V) ⟨by rw [hsb]; exact ((blk_atA _ _ _ _ rfl).alloc _).alloc _, by rw [hkb, hsb]; exact (blk_atA _ _ _ _ (by simp)).alloc _, by rw [hob, hsb]; exact blk_atA _ _ _ _ (by simp), (((Below.refl _ _).alloc (Nat.le_refl _) _).alloc (by simp) _).alloc (by simp; omega) _⟩ ?_
  rintro W1 ⟨b1, b2, b3, b4⟩
  have B1 := Lib.hid b1
  have B2 := Lib.hid b2
  have B3 := Lib.hid b3
  have B4 := Lib.hid b4
  have HS0 := Lib.hid (show w.heap.size ≤ sb ∧ sb < ob ∧ kb < ob ∧ ob < W1.heap.size by have := b3.lt; omega)
  rw [← hsb, ← hob, ← hkb]
  clear HZ b1 b2 b3 b4 hsb hkb hob
  go_upto_region 2 with (first
    | (refine wpList_load_row rfl _ _ rfl kb rfl 23 KY (0, 0) _ B2.out Tryz.underlying23 rfl HSK.out ?_)
    | (refine wpList_store_mid rfl _ _ _ rfl ob 0 KY rfl rfl (by rw [HKY.out, b16_size]; exact key_there B3.out) HSKB.out HOK.out ?_))
  refine wp_let (fun V => Blk V sb 355 BX ∧ Blk V ob 358 (keyArr K 16) ∧ Below w.heap.size w V) ⟨blk_cells_far (by have := HS0.out; omega) _ _ _ B1.out, by have := ts_setCells KY.toList 0 _ _ B3.out; rw [HKY.out, ← HK0.out, key_first] at this; rw [HKY.out, ← HK0.out]; exact this, below_cells (by have := HS0.out; omega) _ _ _ _ B4.out⟩ ?_
  rintro W2 ⟨b1, b2, b3⟩
  have C1 := Lib.hid b1
  have C2 := Lib.hid b2
  have C3 := Lib.hid b3
  clear b1 b2 b3 B1 B2 B3 B4
  have SZ := Lib.hid (show w.heap.size ≤ sb ∧ sb < ob from ⟨HS0.out.1, HS0.out.2.1⟩)
  clear HS0
  go_wp2
  go_loopw [5, 6] (fun v5 v6 wr => ∃ k n : Nat, k ≤ 10 ∧ n = k + 1 ∧ v6 = .int .i64 n ∧ v5 = .int .u8 (pw2 k : Nat) ∧ Blk wr sb 355 BX ∧ Blk wr ob 358 (keyArr K (16 * n)) ∧ Below w.heap.size w wr) (fun _ v6 _ => 11 - (intOf v6).toNat)
  case atStart => exact ⟨0, 1, by omega, rfl, rfl, rfl, C1.out, C2.out, C3.out⟩
  case round =>
    clear C1 C2 C3
    obtain ⟨k, n, hk, hn, rfl, rfl, hB, hO, hb⟩ := hrel
    have HB := Lib.hid hB
    have HO := Lib.hid hO
    have HBW := Lib.hid hb
    clear hB hO hb
    by_cases hlt : k < 10
    · have hnk : (n : Int) - 1 = (k : Int) := by omega
      have n10 : (n : Int) ≤ 10 := by omega
      have n0 : (0 : Int) ≤ (n : Int) := by omega
      have n1 : (n : Int) < 11 := by omega
      have k0 : (0 : Int) ≤ (k : Int) := by omega
      have k1 : (k : Int) < 11 := by omega
      have HN := Lib.hid hn
      have HRK := Lib.hid (key_range HO.out k (by omega) (by omega))
      have HSB := Lib.hid (show (Tryz.prog.info? 357).map (·.size) = some (b16 (K k)).toList.length by rw [Array.length_toList, b16_size]; kernel_rfl)
      have HSB2 := Lib.hid (sizeBlock (K k))
      have HZ2 : Hid ((#[.int .u8 0, .int .u8 0, .int .u8 0, .int .u8 0, .int .u8 0, .int .u8 0, .int .u8 0, .int .u8 0, .int .u8 0, .int .u8 0, .int .u8 0, .int .u8 0, .int .u8 0, .int .u8 0, .int .u8 0, .int .u8 0] : Array Value).size = (b16 (K k)).size) := Lib.hid (by rw [b16_size]; rfl)
      have HO2 := Lib.hid (b16_one (K k))
      have HD := Lib.hid (fun V => double_ok (pw2 k) (pw2_lt k) V)
      obtain ⟨KK, hKK⟩ : ∃ KK, KK = b16 (K k) := ⟨_, rfl⟩
      have HKK := Lib.hid hKK
      obtain ⟨pw, hpw⟩ : ∃ pw, pw = pw2 k := ⟨_, rfl⟩
      obtain ⟨pw', hpw'⟩ : ∃ pw', pw' = dbl (pw2 k) := ⟨_, rfl⟩
      have HPW := Lib.hid hpw
      have HPW' := Lib.hid hpw'
      rw [← hKK] at HRK HSB HSB2 HZ2 HO2
      rw [← hpw'] at HD
      rw [← hpw] at HD ⊢
      clear hn hKK hpw hpw'
      obtain ⟨lb, hlb⟩ : ∃ lb, lb = wr.heap.size := ⟨_, rfl⟩
      have HLB := Lib.hid hlb
      clear hlb
      go_upto_region 7 with (first
        | (refine wpList_load_mid rfl _ _ rfl ob (k * 16) rfl KK.toList _ HRK.out Tryz.underlying357 rfl HSB.out ?_)
        | (refine wpList_store_row rfl _ _ _ rfl wr.heap.size KK rfl rfl 357 #[.int .u8 0, .int .u8 0, .int .u8 0, .int .u8 0, .int .u8 0, .int .u8 0, .int .u8 0, .int .u8 0, .int .u8 0, .int .u8 0, .int .u8 0, .int .u8 0, .int .u8 0, .int .u8 0, .int .u8 0, .int .u8 0] (Blk.new _ _ _) HSB2.out HZ2.out HO2.out ?_))
      rw [← HLB.out]
      refine wp_let (fun V => Blk V sb 355 BX ∧ Blk V ob 358 (keyArr K (16 * n + 0)) ∧ Blk V lb 357 KK ∧ Below w.heap.size w V) ⟨(setRow_other _ _ _ _ (by have := HB.out.lt; have := HLB.out; omega)).trans (HB.out.alloc _), (setRow_other _ _ _ _ (by have := HO.out.lt; have := HLB.out; omega)).trans (HO.out.alloc _), by rw [HLB.out]; exact setRow_heap _ _ #[.int .u8 0, .int .u8 0, .int .u8 0, .int .u8 0, .int .u8 0, .int .u8 0, .int .u8 0, .int .u8 0, .int .u8 0, .int .u8 0, .int .u8 0, .int .u8 0, .int .u8 0, .int .u8 0, .int .u8 0, .int .u8 0] KK 357 (0, 0) (Blk.new _ _ _), by rw [HLB.out]; exact belowRow (HBW.out.alloc HBW.out.size _) HBW.out.size _⟩ ?_
      rintro W3 ⟨b1, b2, b3, b4⟩
      have D1 := Lib.hid b1
      have D2 := Lib.hid b2
      have D3 := Lib.hid b3
      have D4 := Lib.hid b4
      have HLO := Lib.hid (show sb < lb ∧ ob < lb by have := HB.out.lt; have := HO.out.lt; have := HLB.out; omega)
      clear b1 b2 b3 b4 HB HO HBW HRK
      have HLK : Hid (∀ j, j < 16 → KK[j]? = some (.int .u8 (K k j : Nat))) := Lib.hid (fun j hj => by rw [HKK.out]; exact b16_at _ hj)
      go_wp2
      go_loopw [19] (fun v wr => ∃ i : Nat, i ≤ 16 ∧ v = .int .i64 i ∧ Blk wr sb 355 BX ∧ Blk wr ob 358 (keyArr K (16 * n + i)) ∧ Blk wr lb 357 KK ∧ Below w.heap.size w wr) (fun v _ => 16 - (intOf v).toNat)
      case atStart => exact ⟨0, by omega, rfl, D1.out, D2.out, D3.out, D4.out⟩
      case round =>
        clear D1 D2 D3 D4
        obtain ⟨i, hi, rfl, hB, hO, hL, hb⟩ := hrel
        have HB := Lib.hid hB
        have HO := Lib.hid hO
        have HL := Lib.hid hL
        have HBW := Lib.hid hb
        clear hB hO hL hb
        by_cases hli : i < 16
        · have i0 : (0 : Int) ≤ (i : Int) := by omega
          have i1 : (i : Int) < 16 := by omega
          have dL : ({ heap := wr.heap, tape := wr.tape, drawn := wr.drawn + 1, os := wr.os, output := wr.output } : World).cell? ⟨lb, i, none⟩ = some (.int .u8 (K k i : Nat)) := (HL.out.cell i).trans (HLK.out i hli)
          have cL : wr.cell? ⟨lb, i, none⟩ = some (.int .u8 (K k i : Nat)) := dL
          have HW : Hid (∀ z : Nat, z = K n i → ∃ V, V = wr.drew ∧ (wr.drew).cell? ⟨ob, n * 16 + i, none⟩ = some (.int .u8 0) ∧ (wr.drew).frozen? ⟨ob, n * 16 + i, none⟩ = false ∧ Blk (wr.drew.setCell ⟨ob, n * 16 + i, none⟩ (.int .u8 (z : Int))) sb 355 BX ∧ Blk (wr.drew.setCell ⟨ob, n * 16 + i, none⟩ (.int .u8 (z : Int))) ob 358 (keyArr K (16 * n + (i + 1))) ∧ Blk (wr.drew.setCell ⟨ob, n * 16 + i, none⟩ (.int .u8 (z : Int))) lb 357 KK ∧ Below w.heap.size w (wr.drew.setCell ⟨ob, n * 16 + i, none⟩ (.int .u8 (z : Int)))) := Lib.hid (fun z hz => by
            have hOd : Blk wr.drew ob _ _ := HO.out
            have hBd : Blk wr.drew sb _ _ := HB.out
            have hLd : Blk wr.drew lb _ _ := HL.out
            refine ⟨_, rfl, ?_, hOd.frozen _, hBd.far (p := ⟨ob, n * 16 + i, none⟩) (by have := SZ.out; show sb ≠ ob; omega) _, ?_, hLd.far (p := ⟨ob, n * 16 + i, none⟩) (by have := HLO.out; show lb ≠ ob; omega) _, (HBW.out.drew).setCell (p := ⟨ob, n * 16 + i, none⟩) (by have := SZ.out; show w.heap.size ≤ ob; omega) _⟩
            · rw [hOd.cell, keyArr_at _ _ (by omega), if_neg (by omega)]; rfl
            · have := hOd.set_ (n * 16 + i) (.int .u8 (z : Int))
              have e := keyArr_set K (16 * n + i) (by omega)
              rw [show (16 * n + i) / 16 = n by omega, show (16 * n + i) % 16 = i by omega, ← hz, show 16 * n + i = n * 16 + i by omega] at e
              rw [show 16 * n + i = n * 16 + i by omega, e] at this
              rw [show 16 * n + (i + 1) = n * 16 + i + 1 by omega]
              exact this)
          have hx8 := HKL.out k i hli
          rcases (by omega : i = 0 ∨ (i ≠ 0 ∧ i < 4) ∨ 4 ≤ i) with hc | ⟨hc, hc4⟩ | hc
          · have t0 : ((i : Int) == 0) = true := by rw [beq_iff_eq]; omega
            have dM : ({ heap := wr.heap, tape := wr.tape, drawn := wr.drawn + 1, os := wr.os, output := wr.output } : World).cell? ⟨lb, 13, none⟩ = some (.int .u8 (K k 13 : Nat)) := (HL.out.cell 13).trans (HLK.out 13 (by decide))
            have cM : wr.cell? ⟨lb, 13, none⟩ = some (.int .u8 (K k 13 : Nat)) := dM
            have dS : ({ heap := wr.heap, tape := wr.tape, drawn := wr.drawn + 1, os := wr.os, output := wr.output } : World).cell? ⟨sb, K k 13, none⟩ = some (.int .u8 (f (K k 13) : Nat)) := (HB.out.cell _).trans (HBX.out _ (HKL.out k 13 (by decide)))
            have cS : wr.cell? ⟨sb, K k 13, none⟩ = some (.int .u8 (f (K k 13) : Nat)) := dS
            have m1 : ((K k 13 : Nat) : Int) < 256 := by have := HKL.out k 13 (by decide); omega
            have x1 := bx (K k i) (f (K k 13)) _ hx8 (HF.out _) rfl
            have x2 := bx _ pw (K n i) (xor_lt hx8 (HF.out (K k 13))) (by rw [HPW.out]; exact pw2_lt k) (by rw [HPW.out, HN.out, hc, HSF.out k])
            generalize K k i ^^^ f (K k 13) = x12 at x1 x2
            have HW2 := HW.out (K n i) rfl
            generalize K k 13 = m at dM dS cM cS m1 x1
            generalize f m = y at dS cS x1
            generalize K k i = x at dL cL x1 hx8
            generalize K n i = z at x2 HW2
            have HWh := Lib.hid HW2
            clear HW2 hc HW
            go_upto_region 12 with (fail)
            go_still_tail 15, (by kernel_rfl)
            clear dL dM dS cL cM cS
            change wpList _ _ _ _ _ wr.drew
            obtain ⟨V, hV, v1, v2, v3, v4, v5, v6⟩ := HWh.out
            have V3 := Lib.hid v3
            have V4 := Lib.hid v4
            have V5 := Lib.hid v5
            have V6 := Lib.hid v6
            clear hV v3 v4 v5 v6
            obtain ⟨WD, hWD⟩ : ∃ WD, WD = wr.drew := ⟨_, rfl⟩
            rw [← hWD] at v1 v2 V3 V4 V5 V6 ⊢
            clear hWD
            go_wp2
            go_roundw
            case rel => exact ⟨i + 1, by omega, by go_num, V3.out, V4.out, V5.out, V6.out⟩
            case measure => simp [intOf]; omega
          · have t0 : ((i : Int) == 0) = false := by rw [beq_eq_false_iff_ne]; omega
            have t4 : (i : Int) < 4 := by omega
            obtain ⟨q, hq⟩ : ∃ q, q = 12 + (i + 1) % 4 := ⟨_, rfl⟩
            have r1 : IntKind.i64.wrap ((i : Int) + 1) = (i : Int) + 1 := IntWalk.i64_in _ (by omega)
            have r2 : ((i : Int) + 1).tmod 4 = ((i : Int) + 1) % 4 := Int.tmod_eq_emod_of_nonneg (by omega)
            have r3 : IntKind.i64.wrap (((i : Int) + 1) % 4) = ((i : Int) + 1) % 4 := IntWalk.i64_in _ (by omega)
            have r4 : IntKind.i64.wrap (12 + ((i : Int) + 1) % 4) = (q : Int) := by rw [IntWalk.i64_in _ (by omega)]; omega
            have q0 : (0 : Int) ≤ (q : Int) := by omega
            have q1 : (q : Int) < 16 := by omega
            have hqn : q < 16 := by omega
            have dM : ({ heap := wr.heap, tape := wr.tape, drawn := wr.drawn + 1, os := wr.os, output := wr.output } : World).cell? ⟨lb, q, none⟩ = some (.int .u8 (K k q : Nat)) := (HL.out.cell q).trans (HLK.out q hqn)
            have cM : wr.cell? ⟨lb, q, none⟩ = some (.int .u8 (K k q : Nat)) := dM
            have dS : ({ heap := wr.heap, tape := wr.tape, drawn := wr.drawn + 1, os := wr.os, output := wr.output } : World).cell? ⟨sb, K k q, none⟩ = some (.int .u8 (f (K k q) : Nat)) := (HB.out.cell _).trans (HBX.out _ (HKL.out k q hqn))
            have cS : wr.cell? ⟨sb, K k q, none⟩ = some (.int .u8 (f (K k q) : Nat)) := dS
            have m1 : ((K k q : Nat) : Int) < 256 := by have := HKL.out k q hqn; omega
            have x1 := bx (K k i) (f (K k q)) (K n i) hx8 (HF.out _) (by rw [HN.out, HSH.out k i hc hc4, hq])
            have HW2 := HW.out (K n i) rfl
            generalize K k q = m at dM dS cM cS m1 x1
            generalize f m = y at dS cS x1
            generalize K k i = x at dL cL x1 hx8
            generalize K n i = z at x1 HW2
            have HWh := Lib.hid HW2
            clear HW2 hc HW hq hqn
            go_upto_region 14 with (fail)
            go_still_tail 17, (by kernel_rfl)
            clear r1 r2 r3 r4
            clear dL dM dS cL cM cS
            change wpList _ _ _ _ _ wr.drew
            obtain ⟨V, hV, v1, v2, v3, v4, v5, v6⟩ := HWh.out
            have V3 := Lib.hid v3
            have V4 := Lib.hid v4
            have V5 := Lib.hid v5
            have V6 := Lib.hid v6
            clear hV v3 v4 v5 v6
            obtain ⟨WD, hWD⟩ : ∃ WD, WD = wr.drew := ⟨_, rfl⟩
            rw [← hWD] at v1 v2 V3 V4 V5 V6 ⊢
            clear hWD
            go_wp2
            go_roundw
            case rel => exact ⟨i + 1, by omega, by go_num, V3.out, V4.out, V5.out, V6.out⟩
            case measure => simp [intOf]; omega
          · have t0 : ((i : Int) == 0) = false := by rw [beq_eq_false_iff_ne]; omega
            have t4 : ¬ (i : Int) < 4 := by omega
            obtain ⟨q, hq⟩ : ∃ q, q = i - 4 := ⟨_, rfl⟩
            have r1 : IntKind.i64.wrap ((i : Int) - 4) = (q : Int) := by rw [IntWalk.i64_in _ (by omega)]; omega
            have q0 : (0 : Int) ≤ (q : Int) := by omega
            have q1 : (q : Int) < 16 := by omega
            have hqn : q < 16 := by omega
            have dM : ({ heap := wr.heap, tape := wr.tape, drawn := wr.drawn + 1, os := wr.os, output := wr.output } : World).cell? ⟨ob, n * 16 + q, none⟩ = some (.int .u8 (K n q : Nat)) := (HO.out.cell (n * 16 + q)).trans ((keyArr_at _ _ (by omega)).trans (by rw [if_pos (by omega), show (n * 16 + q) / 16 = n by omega, show (n * 16 + q) % 16 = q by omega]))
            have cM : wr.cell? ⟨ob, n * 16 + q, none⟩ = some (.int .u8 (K n q : Nat)) := dM
            have x1 := bx (K k i) (K n q) (K n i) hx8 (HKL.out n q hqn) (by rw [hq, HN.out]; exact (HST.out k i hc).symm)
            have HW2 := HW.out (K n i) rfl
            generalize K n q = y at dM cM x1
            generalize K k i = x at dL cL x1 hx8
            generalize K n i = z at x1 HW2
            have HWh := Lib.hid HW2
            clear HW2 hc HW hq hqn
            go_upto_region 10 with (fail)
            go_still_tail 14, (by kernel_rfl)
            clear r1
            clear dL dM cL cM
            change wpList _ _ _ _ _ wr.drew
            obtain ⟨V, hV, v1, v2, v3, v4, v5, v6⟩ := HWh.out
            have V3 := Lib.hid v3
            have V4 := Lib.hid v4
            have V5 := Lib.hid v5
            have V6 := Lib.hid v6
            clear hV v3 v4 v5 v6
            obtain ⟨WD, hWD⟩ : ∃ WD, WD = wr.drew := ⟨_, rfl⟩
            rw [← hWD] at v1 v2 V3 V4 V5 V6 ⊢
            clear hWD
            go_wp2
            go_roundw
            case rel => exact ⟨i + 1, by omega, by go_num, V3.out, V4.out, V5.out, V6.out⟩
            case measure => simp [intOf]; omega
        · obtain rfl : i = 16 := by omega
          have n1 : ¬ (16 : Int) < 16 := by omega
          go_wp2_with (go_at_call 283; refine (HD.out _).mono ?_; rintro e w4 ⟨rfl, rfl⟩)
          go_roundw
          case rel => exact ⟨k + 1, n + 1, by omega, by have := HN.out; omega, by go_num, by rw [HPW'.out]; rfl, HB.out, HO.out, HBW.out⟩
          case measure => simp [intOf]; omega
    · obtain rfl : k = 10 := by omega
      subst hn
      have HSZ := Lib.hid (sizeKeys K 176)
      have HO1 := Lib.hid (keyArr_one K 176)
      have HO' : Hid (Blk wr ob 358 (keyArr K 176)) := Lib.hid HO.out
      obtain ⟨X, hX⟩ : ∃ X, X = keyArr K 176 := ⟨_, rfl⟩
      have HX := Lib.hid hX
      rw [← hX] at HO' HSZ HO1
      clear hX HO
      have n1 : ¬ (11 : Int) ≤ 10 := by omega
      obtain ⟨p0, hp0⟩ : ∃ p0, p0 = pw2 10 := ⟨_, rfl⟩
      rw [← hp0]
      clear hp0
      go_wp2_with (first
        | (refine wpList_load_row rfl _ _ rfl ob rfl 358 X (0, 0) _ HO'.out Tryz.underlying358 rfl HSZ.out ?_)
        | (refine wpList_store_row rfl _ _ _ rfl ob X rfl rfl 358 X HO'.out HSZ.out rfl HO1.out ?_))
      refine bodyPost_ret (v := .agg X) (results_cell_row (g := ob) (t := 358) (fr := (0, 0)) Tryz.results259 _ _ X _ rfl (setRow_heap wr ob X X 358 (0, 0) HO'.out) Tryz.underlying358 rfl HSZ.out) rfl ⟨by rw [HX.out], ?_⟩
      exact belowRow HBW.out (by have := SZ.out; omega) _
end Go.Proofs.YthadfbekfbfkpaaGreat
namespace Go.Proofs.YthadfbekfbfkpaaGreat
open Go.RowKit
set_option linter.unusedVariables false
attribute [local go_sem ↓] Go.wp_at_zero Go.wp_at_succ

theorem fill_fold (off : Nat) : ∀ (l : List Value) (k : Nat) (cs : Array Value), (l.zipIdx k).foldl (fun cs (x : Value × Nat) => cs.setIfInBounds (off + x.2) x.1) cs = tsAll cs (off + k) l
  | [], _, _ => rfl
  | v :: r, k, cs => by
    rw [List.zipIdx_cons, List.foldl_cons, fill_fold off r (k + 1), tsAll]
    rfl
/-- a struct of two rows -/
theorem fill_two (z A B : Array Value) (n m : Nat) (hz : z.size = n + m) (hA : A.size = n) (hB : B.size = m) (place : Nat → Option (Nat × Nat)) (h0 : place 0 = some (0, n)) (h1 : place 1 = some (n, m)) :
    Instr.fill place z [(0, .agg A), (1, .agg B)] = some (A ++ B) := by
  have hf : ∀ (off : Nat) (C cs : Array Value), C.zipIdx.foldl (fun cs (x : Value × Nat) => cs.setIfInBounds (off + x.2) x.1) cs = tsAll cs off C.toList := fun off C cs => by
    rw [← Array.foldl_toList, Array.toList_zipIdx, fill_fold off C.toList 0 cs, Nat.add_zero]
  have e1 : (Value.agg A).cells = A := rfl
  have e2 : (Value.agg B).cells = B := rfl
  simp only [Instr.fill, h0, h1, e1, e2]
  rw [if_neg (by simp [hA, hz]), if_neg]
  · congr 1
    have g1 := hf 0 A z
    have g2 := hf n B (tsAll z 0 A.toList)
    rw [show (A.zipIdx.foldl (fun cs (x : Value × Nat) => cs.setIfInBounds (0 + x.2) x.1) z) = tsAll z 0 A.toList from g1]
    refine g2.trans ?_
    apply Array.ext_getElem?
    intro j
    rcases Nat.lt_or_ge j n with h | h
    · rw [tsAll_out _ _ _ _ (.inl h), Array.getElem?_append_left (by omega)]
      have := tsAll_in A.toList 0 z j (by rw [Array.length_toList]; omega) (by omega)
      rw [Nat.zero_add] at this
      rw [this, Array.getElem?_toList]
    · rcases Nat.lt_or_ge j (n + m) with h2 | h2
      · have := tsAll_in B.toList n (tsAll z 0 A.toList) (j - n) (by rw [Array.length_toList]; omega) (by rw [tsAll_size]; omega)
        rw [show n + (j - n) = j by omega] at this
        rw [this, Array.getElem?_toList, Array.getElem?_append_right (by omega), hA]
      · rw [Array.getElem?_eq_none (by rw [tsAll_size, tsAll_size]; omega), Array.getElem?_eq_none (by rw [Array.size_append]; omega)]
  · have := hf 0 A z
    rw [show (A.zipIdx.foldl (fun cs (x : Value × Nat) => cs.setIfInBounds (0 + x.2) x.1) z) = tsAll z 0 A.toList from this, tsAll_size]
    simp [hB, hz]
theorem cipBuild (A B : Array Value) (hA : A.size = 512) (hB : B.size = 176) (w : World) : (Instr.build 361 #[(0, .agg A), (1, .agg B)]).run Tryz.prog w = .ok (.agg (A ++ B)) w := by
  refine run_build w _ _ _ ?_
  have hz : (Tryz.prog.info? 361).bind (fun i => i.zero.map (·.cells.size)) = some 688 := by kernel_rfl
  have hp : ∀ d, Tryz.prog.underlying 361 = some d → ∃ fs, d = .struct fs ∧ fs.toList.mapM (fun f => (Tryz.prog.info? f.type).map fun i => (f.offset, i.size)) = some [(0, 512), (512, 176)] := by
    rw [Tryz.underlying361]
    intro d hd
    cases hd
    exact ⟨_, rfl, by kernel_rfl⟩
  cases hi : Tryz.prog.info? 361 with
  | none => rw [hi] at hz; cases hz
  | some it =>
    rw [hi] at hz
    cases hu : Tryz.prog.underlying 361 with
    | none => rw [Tryz.underlying361] at hu; cases hu
    | some d =>
      obtain ⟨fs, rfl, hm⟩ := hp d hu
      cases hzz : it.zero with
      | none => simp [hzz] at hz
      | some z =>
        simp only [Option.bind_some, hzz, Option.map_some, Option.some.injEq] at hz
        unfold Program.built
        simp only [hi, hu, hzz, hm]
        exact fill_two _ A B 512 176 hz hA hB _ rfl rfl
/-- what New answers -/
def NewC (key : Nat → Nat) (w : World) (e : Ending) (w' : World) : Prop := ∃ g, e = .returned (.pointer (some ⟨g, 0, none⟩)) ∧ CipM w' g key ∧ w.heap.size ≤ g ∧ Below w.heap.size w w'
set_option maxRecDepth 100000 in
set_option maxHeartbeats 1600000 in
theorem anew_ok (key : Nat → Nat) (hk : B16 key) (w : World) : Calls Tryz.prog 214 #[.agg (b16 key)] w (NewC key w) := by
  have HSU := Lib.hid (fun V => substitution_ok V)
  have HSC := Lib.hid (fun V => schedule_ok sbx isb key (boxK_lt 255) hk V)
  have HZ := zeroBoxes
  obtain ⟨BX, hBX⟩ : ∃ BX, BX = boxArr sbx isb := ⟨_, rfl⟩
  obtain ⟨ZX, hZX⟩ : ∃ ZX, ZX = boxArr (fun _ => 0) (fun _ => 0) := ⟨_, rfl⟩
  obtain ⟨KY, hKY⟩ : ∃ KY, KY = b16 key := ⟨_, rfl⟩
  obtain ⟨KS, hKS⟩ : ∃ KS, KS = keyArr (sched sbx key) 176 := ⟨_, rfl⟩
  have hBS : BX.size = 512 := by rw [hBX]; exact boxArr_size _ _
  have hKSS : KS.size = 176 := by rw [hKS]; exact keyArr_size _ _
  have HSB : Hid ((Tryz.prog.info? 355).map (·.size) = some BX.size) := Lib.hid (by rw [hBS]; kernel_rfl)
  have HSBL : Hid ((Tryz.prog.info? 355).map (·.size) = some BX.toList.length) := Lib.hid (by rw [Array.length_toList]; exact HSB.out)
  have HZB : Hid (ZX.size = BX.size) := Lib.hid (by rw [hZX, hBX, boxArr_size, boxArr_size])
  have HOB : Hid (BX.all (·.oneCell') = true) := Lib.hid (by rw [hBX]; exact boxArr_one _ _)
  have HSKL : Hid ((Tryz.prog.info? 23).map (·.size) = some KY.toList.length) := Lib.hid (by rw [Array.length_toList, hKY, b16_size]; kernel_rfl)
  have HCB := Lib.hid (fun V => cipBuild BX KS hBS hKSS V)
  have HCI : Hid (∀ V g, Blk V g 361 (BX ++ KS) → CipM V g key) := Lib.hid (fun V g h => by rw [hBX, hKS] at h; exact h)
  rw [← hBX] at HSU HSC
  rw [← hZX] at HZ
  rw [← hKY] at HSC
  rw [← hKS] at HSC
  rw [← hKY]
  clear hBX hZX hKY hKS hBS hKSS hk
  go_enter Tryz.func214, Tryz.ntmps214
  obtain ⟨kb, hkb⟩ : ∃ kb, kb = w.heap.size := ⟨_, rfl⟩
  go_upto_region 1 with (fail)
  refine wp_let (fun V => Blk V kb 23 KY ∧ Below w.heap.size w V ∧ V.heap.size = kb + 1) ⟨by rw [hkb]; exact Blk.new _ _ _, (Below.refl _ _).alloc (Nat.le_refl _) _, by rw [hkb]; simp⟩ ?_
  rintro W1 ⟨b1, b2, b3⟩
  have B1 := Lib.hid b1
  have B2 := Lib.hid b2
  have HKB := Lib.hid (show w.heap.size ≤ kb ∧ kb < W1.heap.size by omega)
  rw [← hkb]
  clear b1 b2 b3 hkb
  go_upto_region 2 with (first
    | (go_at_call 258; refine (HSU.out _).mono ?_; rintro e w2 ⟨rfl, hb2⟩; have C1 := Lib.hid (B1.out.below hb2 B1.out.lt); have C2 := Lib.hid (B2.out.trans (hb2.mono B2.out.size)); have C3 := Lib.hid (show kb < w2.heap.size by have := C1.out.lt; omega); clear hb2)
    | (refine wpList_store_row rfl _ _ _ rfl w2.heap.size BX rfl rfl 355 ZX (Blk.new w2 _ _) HSB.out HZB.out HOB.out ?_))
  obtain ⟨sb, hsb⟩ : ∃ sb, sb = w2.heap.size := ⟨_, rfl⟩
  refine wp_let (fun V => Blk V kb 23 KY ∧ Blk V sb 355 BX ∧ Below w.heap.size w V) ⟨(setRow_other _ _ _ _ (by have := C3.out; omega)).trans (C1.out.alloc _), by rw [hsb]; exact setRow_heap _ _ ZX BX 355 (0, 0) (Blk.new _ _ _), belowRow (C2.out.alloc C2.out.size _) C2.out.size _⟩ ?_
  rintro W3 ⟨b1, b2, b3⟩
  have D1 := Lib.hid b1
  have D2 := Lib.hid b2
  have D3 := Lib.hid b3
  rw [← hsb]
  clear b1 b2 b3 hsb B1 B2 C1 C2 C3 HZ
  have hu := Tryz.underlying355
  have huk := Tryz.underlying23
  have hi1 := HSBL.out
  have hi2 := HSKL.out
  have rS : ∀ V, Below W3.heap.size W3 V → V.rangeAt sb 0 BX.toList := fun V hV j v hv => by
    rw [(D2.out.below hV D2.out.lt).cell, Nat.zero_add, ← Array.getElem?_toList]; exact hv
  have rK : ∀ V, Below W3.heap.size W3 V → V.rangeAt kb 0 KY.toList := fun V hV j v hv => by
    rw [(D1.out.below hV D1.out.lt).cell, Nat.zero_add, ← Array.getElem?_toList]; exact hv
  refine wp_region_held_drew (S := fun w' => Below W3.heap.size W3 w') (by kernel_rfl) (Below.refl _ _).drew (fun hHeld => ?_)
  refine' wpAnyH_take (i := 0) (oi := ⟨some 5, _, _, _, _, _⟩) (v := _) rfl (by kernel_rfl) (by kernel_rfl) (by kernel_rfl) (fun _ _ _ h => h) (yieldsIf_load_mid (by rfl) _ _ rfl sb 0 rfl BX.toList _ (fun w h => (fun w h => rS w h) w h) hu rfl hi1) (by assumption) ?_
  try simp only [Act.put, List.setIfInBounds_toArray, List.set_cons_zero, List.set_cons_succ]
  refine' wpAnyH_take (i := 1) (oi := ⟨some 6, _, _, _, _, _⟩) (v := _) rfl (by kernel_rfl) (by kernel_rfl) (by kernel_rfl) (fun _ _ _ h => h) (yieldsIf_load_mid (by rfl) _ _ rfl sb 0 rfl BX.toList _ (fun w h => (fun w h => rS w h) w h) hu rfl hi1) (by assumption) ?_
  try simp only [Act.put, List.setIfInBounds_toArray, List.set_cons_zero, List.set_cons_succ]
  refine' wpAnyH_take (i := 2) (oi := ⟨some 7, _, _, _, _, _⟩) (v := _) rfl (by kernel_rfl) (by kernel_rfl) (by kernel_rfl) (fun _ _ _ h => h) (yieldsIf_load_mid (by rfl) _ _ rfl kb 0 rfl KY.toList _ (fun w h => (fun w h => rK w h) w h) huk rfl hi2) (by assumption) ?_
  try simp only [Act.put, List.setIfInBounds_toArray, List.set_cons_zero, List.set_cons_succ]
  refine wpAnyH_ready (rs := [3]) (by kernel_rfl) (by simp) ?_
  refine AllReadyH.cons (o := ⟨some 8, _, _, _, _, _⟩) rfl (fun K hK => ?_) AllReadyH.nil
  rw [if_pos (by rfl)]
  go_simp
  go_at_call 259
  refine (HSC.out _).mono ?_
  rintro e w4 ⟨rfl, hb4⟩
  have E4 := Lib.hid (show Below W3.heap.size W3 w4 from (Below.refl _ W3).drew.trans (hb4.mono (by simp)))
  clear hb4
  refine hK.out _ _ E4.out (fun hHeld => ?_)
  clear hK K
  try simp only [Act.put, List.setIfInBounds_toArray, List.set_cons_zero, List.set_cons_succ]
  refine wpAnyH_take (i := 4) (oi := ⟨some 9, _, _, _, _, _⟩) (v := .agg (BX ++ KS)) rfl (by kernel_rfl) (by kernel_rfl) (by kernel_rfl) (fun _ _ _ h => h) (Or.inl ⟨by rfl, fun W hW => (by have hcb := HCB.out W; simp [execOp, Act.eval, hcb])⟩) (by assumption) ?_
  try simp only [Act.put, List.setIfInBounds_toArray, List.set_cons_zero, List.set_cons_succ]
  refine wpAnyH_ready (rs := [5]) (by kernel_rfl) (by simp) ?_
  refine AllReadyH.cons (o := ⟨some 10, _, _, _, _, _⟩) rfl (fun K hK => ?_) AllReadyH.nil
  rw [if_pos (by rfl)]
  go_simp
  refine hK.out _ _ (E4.out.alloc E4.out.size _) (fun hHeld => ?_)
  clear hK K
  try simp only [Act.put, List.setIfInBounds_toArray, List.set_cons_zero, List.set_cons_succ]
  refine wpAnyH_take (i := 6) (oi := ⟨some 2, _, _, _, _, _⟩) (v := .pointer (some ⟨w4.heap.size, 0, none⟩)) rfl (by kernel_rfl) (by kernel_rfl) (by kernel_rfl) (fun _ _ _ h => h) (Or.inl ⟨by rfl, fun W hW => (by rfl)⟩) (by assumption) ?_
  try simp only [Act.put, List.setIfInBounds_toArray, List.set_cons_zero, List.set_cons_succ]
  refine wpAnyH_done (by kernel_rfl) ?_ _
  go_wp2
  go_ret
  exact ⟨_, rfl, HCI.out _ _ (Blk.new _ _ _), Nat.le_trans D3.out.size E4.out.size, (D3.out.trans (E4.out.mono D3.out.size)).alloc (Nat.le_trans D3.out.size E4.out.size) _⟩
theorem aown_ok (g : Nat) (key : Nat → Nat) (w : World) (h : CipM w g key) : Calls Tryz.prog 262 #[.pointer (some ⟨g, 0, none⟩)] w fun e w' => e = .returned (.pointer (some ⟨g, 0, none⟩)) ∧ w = w' := by
  have c0 : w.cell? ⟨g, 0, none⟩ = some (.int .u8 99) := (h.box (x := 0) (by decide)).trans (by rw [sbx_zero]; rfl)
  clear h
  go_enter Tryz.func262, Tryz.ntmps262
  go_wp2
  go_ret
  exact ⟨rfl, rfl⟩
end Go.Proofs.YthadfbekfbfkpaaGreat
namespace Go.Proofs.YthadfbekfbfkpaaGreat
open Go.RowKit
set_option linter.unusedVariables false
attribute [local go_sem ↓] Go.wp_at_zero Go.wp_at_succ

def fnArr : Array Value := #[.func (.func 264) #[] #[], .func (.func 265) #[] #[], .func (.func 266) #[] #[], .func (.func 263) #[] #[]]
def stepK (key : Nat → Nat) (n : Nat) (b : Nat → Nat) (k : Nat) : Nat → Nat := if k = 0 then b else if k = 1 then sSub b else if k = 2 then sShift (sSub b) else if k = 3 then sMix n (sShift (sSub b)) else sAdd (sched sbx key) n (sMix n (sShift (sSub b)))
theorem stepK_lt {key b : Nat → Nat} {n : Nat} (hk : B16 key) (hb : B16 b) (k : Nat) : B16 (stepK key n b k) := by
  unfold stepK
  split
  · exact hb
  split
  · exact sSub_lt b
  split
  · exact sShift_lt (sSub_lt b)
  split
  · exact sMix_lt n (sShift_lt (sSub_lt b))
  · exact sAdd_lt n (fun i hi => sched_lt (boxK_lt 255) hk n i hi) (sMix_lt n (sShift_lt (sSub_lt b)))
theorem idx_fn0 (w : World) : (Instr.index 367 (.agg fnArr) (.int .i64 0)).run Tryz.prog w = .ok (.func (.func 264) #[] #[]) w := by kernel_rfl
theorem idx_fn1 (w : World) : (Instr.index 367 (.agg fnArr) (.int .i64 1)).run Tryz.prog w = .ok (.func (.func 265) #[] #[]) w := by kernel_rfl
theorem idx_fn2 (w : World) : (Instr.index 367 (.agg fnArr) (.int .i64 2)).run Tryz.prog w = .ok (.func (.func 266) #[] #[]) w := by kernel_rfl
theorem idx_fn3 (w : World) : (Instr.index 367 (.agg fnArr) (.int .i64 3)).run Tryz.prog w = .ok (.func (.func 263) #[] #[]) w := by kernel_rfl
theorem sizeFns : (Tryz.prog.info? 367).map (·.size) = some fnArr.size := by kernel_rfl
set_option maxRecDepth 100000 in
set_option maxHeartbeats 3200000 in
theorem encrypt_ok (key b : Nat → Nat) (hk : B16 key) (hb : B16 b) (cg : Nat) (w : World) (h : CipM w cg key) :
    Calls Tryz.prog 219 #[.pointer (some ⟨cg, 0, none⟩), .agg (b16 b)] w fun e w' => e = .returned (.agg (b16 (aesF key b))) ∧ Below w.heap.size w w' := by
  have HCI := Lib.hid h
  have HSL := Lib.hid (fun n (hn : B16 (sRounds (sched sbx key) b n)) k => stepK_lt (n := n + 1) hk hn k)
  have HRL := Lib.hid (fun n => sRounds_lt (keys := sched sbx key) (fun n i hi => sched_lt (boxK_lt 255) hk n i hi) hb n)
  have HK := Lib.hid hk
  have HAD := Lib.hid (fun V (hV : CipM V cg key) => add_ok b hb cg key hk 0 (by decide) V hV)
  have HSB := Lib.hid (sizeBlock b)
  have HSK : Hid ((Tryz.prog.info? 23).map (·.size) = some (b16 b).size) := Lib.hid (by rw [b16_size]; kernel_rfl)
  have HS16 : Hid (∀ c, (Tryz.prog.info? 23).map (·.size) = some (b16 c).size) := Lib.hid (fun c => by rw [b16_size]; kernel_rfl)
  obtain ⟨ZB, hZB⟩ : ∃ ZB : Array Value, ZB = #[.int .u8 0, .int .u8 0, .int .u8 0, .int .u8 0, .int .u8 0, .int .u8 0, .int .u8 0, .int .u8 0, .int .u8 0, .int .u8 0, .int .u8 0, .int .u8 0, .int .u8 0, .int .u8 0, .int .u8 0, .int .u8 0] := ⟨_, rfl⟩
  have HZS : Hid (∀ c, ZB.size = (b16 c).size) := Lib.hid (fun c => by rw [hZB, b16_size]; rfl)
  have HZB := Lib.hid hZB
  obtain ⟨BA, hBA⟩ : ∃ BA, BA = b16 b := ⟨_, rfl⟩
  obtain ⟨E, hE⟩ : ∃ E : (Nat → Nat) → Array Value, E = b16 := ⟨_, rfl⟩
  have HEE := Lib.hid hE
  have HF := Lib.hid sizeFns
  obtain ⟨FA, hFA⟩ : ∃ FA, FA = fnArr := ⟨_, rfl⟩
  have ix0 := idx_fn0
  have ix1 := idx_fn1
  have ix2 := idx_fn2
  have ix3 := idx_fn3
  have HFA := Lib.hid (hFA.trans (show fnArr = #[.func (.func 264) #[] #[], .func (.func 265) #[] #[], .func (.func 266) #[] #[], .func (.func 263) #[] #[]] from rfl))
  rw [← hFA] at ix0 ix1 ix2 ix3 HF
  have HBA := Lib.hid hBA
  rw [← hBA] at HAD HSK
  rw [← hBA]
  clear hZB hBA hE hk hb h hFA
  go_enter Tryz.func219, Tryz.ntmps219
  go_upto_region 1 with (fail)
  obtain ⟨p0, hp0⟩ : ∃ p0, p0 = w.heap.size := ⟨_, rfl⟩
  refine wp_let (fun V => Blk V p0 23 BA ∧ Blk V (p0 + 1) 23 ZB ∧ CipM V cg key ∧ Below w.heap.size w V) ⟨by rw [hp0]; exact (blk_atA _ _ _ _ rfl).alloc _, by rw [hp0, HZB.out]; exact blk_atA _ _ _ _ (by simp), HCI.out.below (((Below.refl _ _).alloc (Nat.le_refl _) _).alloc (by simp) _), ((Below.refl _ _).alloc (Nat.le_refl _) _).alloc (by simp) _⟩ ?_
  rintro W1 ⟨b1, b2, b3, b4⟩
  have B1 := Lib.hid b1
  have B2 := Lib.hid b2
  have B3 := Lib.hid b3
  have B4 := Lib.hid b4
  have HOW := Lib.hid (aown_ok cg key W1 b3)
  have HP0 := Lib.hid hp0
  rw [← hp0]
  clear b1 b2 b3 b4 hp0 HCI
  go_upto_region 2 with (go_at_call 262; refine (HOW.out).mono ?_; rintro e w2 ⟨rfl, rfl⟩)
  have HA1 := Lib.hid (HAD.out W1 B3.out)
  obtain ⟨S0, hS0⟩ : ∃ S0, S0 = b16 (sAdd (sched sbx key) 0 b) := ⟨_, rfl⟩
  have HSZ0 : Hid ((Tryz.prog.info? 357).map (·.size) = some S0.size) := Lib.hid (by rw [hS0]; exact sizeBlock _)
  have HO0 : Hid (S0.all (·.oneCell') = true) := Lib.hid (by rw [hS0]; exact b16_one _)
  have HZ0 : Hid (ZB.size = S0.size) := Lib.hid (by rw [hS0]; exact HZS.out _)
  have HS0 := Lib.hid hS0
  rw [← hS0] at HA1
  clear hS0
  go_upto_region 3 with (first
    | (refine wpList_load_row rfl _ _ rfl p0 rfl 23 BA (0, 0) _ B1.out Tryz.underlying23 rfl HSK.out ?_)
    | (go_at_call 263; refine (HA1.out).mono ?_; rintro e w4 ⟨rfl, hb4⟩; have C2 := Lib.hid (B2.out.below hb4 B2.out.lt); have C3 := Lib.hid (B3.out.below hb4); have C4 := Lib.hid (B4.out.trans (hb4.mono B4.out.size)); clear hb4)
    | (refine wpList_store_row rfl _ _ _ rfl w4.heap.size S0 rfl rfl 357 ZB (by rw [HZB.out]; exact Blk.new _ _ _) HSZ0.out HZ0.out HO0.out ?_))
  obtain ⟨sb, hsb⟩ : ∃ sb, sb = w4.heap.size := ⟨_, rfl⟩
  refine wp_let (fun V => Blk V sb 357 S0 ∧ Blk V (p0 + 1) 23 ZB ∧ CipM V cg key ∧ Below w.heap.size w V) ⟨by rw [hsb]; exact setRow_heap _ _ ZB S0 357 (0, 0) (by rw [HZB.out]; exact Blk.new _ _ _), (setRow_other _ _ _ _ (by have := C2.out.lt; omega)).trans (C2.out.alloc _), (setRow_other _ _ _ _ (by have := Blk.lt C3.out; omega)).trans (Blk.alloc C3.out _), belowRow (C4.out.alloc C4.out.size _) C4.out.size _⟩ ?_
  rintro W5 ⟨b1, b2, b3, b4⟩
  have D1 := Lib.hid b1
  have D2 := Lib.hid b2
  have D3 := Lib.hid b3
  have D4 := Lib.hid b4
  have HSB0 := Lib.hid (show w.heap.size ≤ sb ∧ p0 + 1 < sb by have := C4.out.size; have := C2.out.lt; omega)
  rw [← hsb]
  clear b1 b2 b3 b4 hsb B1 B2 B3 B4 C2 C3 C4 HA1
  go_upto_region 4 with (fail)
  try rw [show (#[.func (.func 264) #[] #[], .func (.func 265) #[] #[], .func (.func 266) #[] #[], .func (.func 263) #[] #[]] : Array Value) = FA from HFA.out.symm]
  obtain ⟨fb, hfb⟩ : ∃ fb, fb = W5.heap.size := ⟨_, rfl⟩
  refine wp_let (fun V => Blk V sb 357 S0 ∧ Blk V (p0 + 1) 23 ZB ∧ CipM V cg key ∧ Blk V fb 367 FA ∧ Below w.heap.size w V) ⟨D1.out.alloc _, D2.out.alloc _, Blk.alloc D3.out _, by rw [hfb]; exact Blk.new _ _ _, D4.out.alloc D4.out.size _⟩ ?_
  rintro W6 ⟨b1, b2, b3, b4, b5⟩
  have E1 := Lib.hid b1
  have E2 := Lib.hid b2
  have E3 := Lib.hid b3
  have E4 := Lib.hid b4
  have E5 := Lib.hid b5
  have HFB := Lib.hid (show sb < fb by have := D1.out.lt; omega)
  rw [← hfb]
  clear b1 b2 b3 b4 b5 hfb D1 D2 D3 D4
  go_wp2
  go_loopw [7] (fun v7 wr => ∃ m n : Nat, m ≤ 10 ∧ n = m + 1 ∧ v7 = .int .i64 n ∧ Blk wr sb 357 (E (sRounds (sched sbx key) b m)) ∧ Blk wr (p0 + 1) 23 ZB ∧ CipM wr cg key ∧ Blk wr fb 367 FA ∧ Below w.heap.size w wr) (fun v7 _ => 11 - (intOf v7).toNat)
  case atStart => exact ⟨0, 1, by omega, rfl, rfl, by rw [HEE.out]; have := E1.out; rw [HS0.out] at this; exact this, E2.out, E3.out, E4.out, E5.out⟩
  case round =>
    clear E1 E2 E3 E4 E5
    obtain ⟨m, n, hm, hn, rfl, hB, hR, hC, hA, hb⟩ := hrel
    have HB := Lib.hid hB
    have HR := Lib.hid hR
    have HC := Lib.hid hC
    have HA := Lib.hid hA
    have HBW := Lib.hid hb
    have HN := Lib.hid hn
    clear hB hR hC hA hb hn
    by_cases hlt : m < 10
    · have n10 : (n : Int) ≤ 10 := by have := HN.out; omega
      have nn : n < 11 := by omega
      have n0 : (0 : Int) ≤ (n : Int) := by omega
      obtain ⟨B, hBq⟩ : ∃ B, B = sRounds (sched sbx key) b m := ⟨_, rfl⟩
      have HSn : Hid (sRounds (sched sbx key) b n = stepK key n B 4) := Lib.hid (by rw [HN.out, hBq]; rfl)
      have HBL : Hid (∀ k, B16 (stepK key n B k)) := Lib.hid (fun k => by rw [hBq, HN.out]; exact HSL.out m (HRL.out m) k)
      rw [← hBq] at HB
      clear hBq hm hlt
      go_wp2_with (refine wpList_load_row rfl _ _ rfl fb rfl 367 FA (0, 0) _ HA.out Tryz.underlying367 rfl HF.out ?_)
      go_loopw [21] (fun v wr => ∃ k : Nat, k ≤ 4 ∧ v = .int .i64 k ∧ Blk wr sb 357 (E (stepK key n B k)) ∧ Blk wr (p0 + 1) 23 ZB ∧ CipM wr cg key ∧ Blk wr fb 367 FA ∧ Below w.heap.size w wr) (fun v _ => 4 - (intOf v).toNat)
      case atStart => exact ⟨0, by omega, rfl, HB.out, HR.out, HC.out, HA.out, HBW.out⟩
      case round =>
        clear HB HR HC HA HBW
        obtain ⟨k, hk, rfl, hB, hR, hC, hA, hb⟩ := hrel
        have HB := Lib.hid hB
        have HR := Lib.hid hR
        have HC := Lib.hid hC
        have HA := Lib.hid hA
        have HBW := Lib.hid hb
        clear hB hR hC hA hb
        by_cases hlt : k < 4
        · have HX1 : Hid ((Tryz.prog.info? 357).map (·.size) = some (E (stepK key n B k)).size) := Lib.hid (by rw [HEE.out]; exact sizeBlock _)
          have HX2 : Hid ((Tryz.prog.info? 357).map (·.size) = some (E (stepK key n B (k + 1))).size) := Lib.hid (by rw [HEE.out]; exact sizeBlock _)
          have HX3 : Hid ((E (stepK key n B (k + 1))).all (·.oneCell') = true) := Lib.hid (by rw [HEE.out]; exact b16_one _)
          have HX4 : Hid ((E (stepK key n B k)).size = (E (stepK key n B (k + 1))).size) := Lib.hid (by rw [HEE.out, b16_size, b16_size])
          rcases (by omega : k = 0 ∨ k = 1 ∨ k = 2 ∨ k = 3) with rfl | rfl | rfl | rfl
          · have HST : Hid (Calls Tryz.prog 264 #[.pointer (some ⟨cg, 0, none⟩), .agg (E (stepK key n B 0)), .int .i64 n] wr fun e w' => e = .returned (.agg (E (stepK key n B 1))) ∧ Below wr.heap.size wr w') := Lib.hid (by rw [HEE.out]; exact sub_ok _ (HBL.out 0) cg key n wr HC.out)
            obtain ⟨X, hX⟩ : ∃ X, X = E (stepK key n B 0) := ⟨_, rfl⟩
            obtain ⟨Y, hY⟩ : ∃ Y, Y = E (stepK key n B 1) := ⟨_, rfl⟩
            have HY := Lib.hid hY
            rw [← hX] at HX1 HX4 HB HST
            rw [← hY] at HX2 HX3 HX4 HST
            clear hX hY hlt hk
            go_wp2_with (first
              | (refine wpList_load_row rfl _ _ rfl sb rfl 357 X (0, 0) _ HB.out Tryz.underlying357 rfl HX1.out ?_)
              | (go_at_call 264; refine (HST.out).mono ?_; rintro e w4 ⟨rfl, hb4⟩; have C1 := Lib.hid (HB.out.below hb4 HB.out.lt); have C2 := Lib.hid (HR.out.below hb4 HR.out.lt); have C3 := Lib.hid (HC.out.below hb4); have C4 := Lib.hid (HA.out.below hb4 HA.out.lt); have C5 := Lib.hid (HBW.out.trans (hb4.mono HBW.out.size)); clear hb4)
              | (refine wpList_store_row rfl _ _ _ rfl sb Y rfl rfl 357 X C1.out HX2.out HX4.out HX3.out ?_))
            go_roundw
            case rel => exact ⟨1, by omega, rfl, by rw [← HY.out]; exact setRow_heap _ _ X Y 357 (0, 0) C1.out, (setRow_other _ _ _ _ (by have := HSB0.out; omega)).trans C2.out, (setRow_other _ _ _ _ (fun e => cells_ne C1.out C3.out (by decide) e.symm)).trans C3.out, (setRow_other _ _ _ _ (by have := HFB.out; omega)).trans C4.out, belowRow C5.out (by have := HSB0.out; omega) _⟩
            case measure => simp [intOf]
          · have HST : Hid (Calls Tryz.prog 265 #[.pointer (some ⟨cg, 0, none⟩), .agg (E (stepK key n B 1)), .int .i64 n] wr fun e w' => e = .returned (.agg (E (stepK key n B 2))) ∧ Below wr.heap.size wr w') := Lib.hid (by rw [HEE.out]; exact shift_ok _ (HBL.out 1) _ n wr)
            obtain ⟨X, hX⟩ : ∃ X, X = E (stepK key n B 1) := ⟨_, rfl⟩
            obtain ⟨Y, hY⟩ : ∃ Y, Y = E (stepK key n B 2) := ⟨_, rfl⟩
            have HY := Lib.hid hY
            rw [← hX] at HX1 HX4 HB HST
            rw [← hY] at HX2 HX3 HX4 HST
            clear hX hY hlt hk
            go_wp2_with (first
              | (refine wpList_load_row rfl _ _ rfl sb rfl 357 X (0, 0) _ HB.out Tryz.underlying357 rfl HX1.out ?_)
              | (go_at_call 265; refine (HST.out).mono ?_; rintro e w4 ⟨rfl, hb4⟩; have C1 := Lib.hid (HB.out.below hb4 HB.out.lt); have C2 := Lib.hid (HR.out.below hb4 HR.out.lt); have C3 := Lib.hid (HC.out.below hb4); have C4 := Lib.hid (HA.out.below hb4 HA.out.lt); have C5 := Lib.hid (HBW.out.trans (hb4.mono HBW.out.size)); clear hb4)
              | (refine wpList_store_row rfl _ _ _ rfl sb Y rfl rfl 357 X C1.out HX2.out HX4.out HX3.out ?_))
            go_roundw
            case rel => exact ⟨2, by omega, rfl, by rw [← HY.out]; exact setRow_heap _ _ X Y 357 (0, 0) C1.out, (setRow_other _ _ _ _ (by have := HSB0.out; omega)).trans C2.out, (setRow_other _ _ _ _ (fun e => cells_ne C1.out C3.out (by decide) e.symm)).trans C3.out, (setRow_other _ _ _ _ (by have := HFB.out; omega)).trans C4.out, belowRow C5.out (by have := HSB0.out; omega) _⟩
            case measure => simp [intOf]
          · have HST : Hid (Calls Tryz.prog 266 #[.pointer (some ⟨cg, 0, none⟩), .agg (E (stepK key n B 2)), .int .i64 n] wr fun e w' => e = .returned (.agg (E (stepK key n B 3))) ∧ Below wr.heap.size wr w') := Lib.hid (by rw [HEE.out]; exact mix_ok _ (HBL.out 2) _ n wr)
            obtain ⟨X, hX⟩ : ∃ X, X = E (stepK key n B 2) := ⟨_, rfl⟩
            obtain ⟨Y, hY⟩ : ∃ Y, Y = E (stepK key n B 3) := ⟨_, rfl⟩
            have HY := Lib.hid hY
            rw [← hX] at HX1 HX4 HB HST
            rw [← hY] at HX2 HX3 HX4 HST
            clear hX hY hlt hk
            go_wp2_with (first
              | (refine wpList_load_row rfl _ _ rfl sb rfl 357 X (0, 0) _ HB.out Tryz.underlying357 rfl HX1.out ?_)
              | (go_at_call 266; refine (HST.out).mono ?_; rintro e w4 ⟨rfl, hb4⟩; have C1 := Lib.hid (HB.out.below hb4 HB.out.lt); have C2 := Lib.hid (HR.out.below hb4 HR.out.lt); have C3 := Lib.hid (HC.out.below hb4); have C4 := Lib.hid (HA.out.below hb4 HA.out.lt); have C5 := Lib.hid (HBW.out.trans (hb4.mono HBW.out.size)); clear hb4)
              | (refine wpList_store_row rfl _ _ _ rfl sb Y rfl rfl 357 X C1.out HX2.out HX4.out HX3.out ?_))
            go_roundw
            case rel => exact ⟨3, by omega, rfl, by rw [← HY.out]; exact setRow_heap _ _ X Y 357 (0, 0) C1.out, (setRow_other _ _ _ _ (by have := HSB0.out; omega)).trans C2.out, (setRow_other _ _ _ _ (fun e => cells_ne C1.out C3.out (by decide) e.symm)).trans C3.out, (setRow_other _ _ _ _ (by have := HFB.out; omega)).trans C4.out, belowRow C5.out (by have := HSB0.out; omega) _⟩
            case measure => simp [intOf]
          · have HST : Hid (Calls Tryz.prog 263 #[.pointer (some ⟨cg, 0, none⟩), .agg (E (stepK key n B 3)), .int .i64 n] wr fun e w' => e = .returned (.agg (E (stepK key n B 4))) ∧ Below wr.heap.size wr w') := Lib.hid (by rw [HEE.out]; exact add_ok _ (HBL.out 3) cg key HK.out n nn wr HC.out)
            obtain ⟨X, hX⟩ : ∃ X, X = E (stepK key n B 3) := ⟨_, rfl⟩
            obtain ⟨Y, hY⟩ : ∃ Y, Y = E (stepK key n B 4) := ⟨_, rfl⟩
            have HY := Lib.hid hY
            rw [← hX] at HX1 HX4 HB HST
            rw [← hY] at HX2 HX3 HX4 HST
            clear hX hY hlt hk
            go_wp2_with (first
              | (refine wpList_load_row rfl _ _ rfl sb rfl 357 X (0, 0) _ HB.out Tryz.underlying357 rfl HX1.out ?_)
              | (go_at_call 263; refine (HST.out).mono ?_; rintro e w4 ⟨rfl, hb4⟩; have C1 := Lib.hid (HB.out.below hb4 HB.out.lt); have C2 := Lib.hid (HR.out.below hb4 HR.out.lt); have C3 := Lib.hid (HC.out.below hb4); have C4 := Lib.hid (HA.out.below hb4 HA.out.lt); have C5 := Lib.hid (HBW.out.trans (hb4.mono HBW.out.size)); clear hb4)
              | (refine wpList_store_row rfl _ _ _ rfl sb Y rfl rfl 357 X C1.out HX2.out HX4.out HX3.out ?_))
            go_roundw
            case rel => exact ⟨4, by omega, rfl, by rw [← HY.out]; exact setRow_heap _ _ X Y 357 (0, 0) C1.out, (setRow_other _ _ _ _ (by have := HSB0.out; omega)).trans C2.out, (setRow_other _ _ _ _ (fun e => cells_ne C1.out C3.out (by decide) e.symm)).trans C3.out, (setRow_other _ _ _ _ (by have := HFB.out; omega)).trans C4.out, belowRow C5.out (by have := HSB0.out; omega) _⟩
            case measure => simp [intOf]
        · obtain rfl : k = 4 := by omega
          have n1 : ¬ (4 : Int) < 4 := by omega
          rw [← HSn.out] at HB
          clear HSn HBL
          go_wp2
          go_roundw
          case rel => exact ⟨m + 1, n + 1, by have := HN.out; omega, by have := HN.out; omega, by go_num, by rw [← HN.out]; exact HB.out, HR.out, HC.out, HA.out, HBW.out⟩
          case measure => simp [intOf]; omega
    · obtain rfl : m = 10 := by omega
      have hn := HN.out
      subst hn
      obtain ⟨R, hR⟩ : ∃ R, R = E (sRounds (sched sbx key) b 10) := ⟨_, rfl⟩
      have HRQ : Hid (b16 (aesF key b) = R) := Lib.hid (by rw [hR, HEE.out]; rfl)
      have HX1 : Hid ((Tryz.prog.info? 357).map (·.size) = some R.size) := Lib.hid (by rw [hR, HEE.out]; exact sizeBlock _)
      have HX2 : Hid ((Tryz.prog.info? 23).map (·.size) = some R.size) := Lib.hid (by rw [hR, HEE.out]; exact HS16.out _)
      have HX3 : Hid (R.all (·.oneCell') = true) := Lib.hid (by rw [hR, HEE.out]; exact b16_one _)
      have HX4 : Hid (ZB.size = R.size) := Lib.hid (by rw [hR, HEE.out]; exact HZS.out _)
      rw [← hR] at HB
      clear hR hm hlt
      have n1 : ¬ (11 : Int) ≤ 10 := by omega
      go_wp2_with (first
        | (refine wpList_load_row rfl _ _ rfl sb rfl 357 R (0, 0) _ HB.out Tryz.underlying357 rfl HX1.out ?_)
        | (refine wpList_store_row rfl _ _ _ rfl (p0 + 1) R rfl rfl 23 ZB HR.out HX2.out HX4.out HX3.out ?_))
      refine bodyPost_ret (v := .agg R) (results_cell_row (g := p0 + 1) (t := 23) (fr := (0, 0)) Tryz.results219 _ _ R _ rfl (setRow_heap wr (p0 + 1) ZB R 23 (0, 0) HR.out) Tryz.underlying23 rfl HX2.out) rfl ⟨by rw [HRQ.out], ?_⟩
      exact belowRow HBW.out (by rw [HP0.out]; omega) _
end Go.Proofs.YthadfbekfbfkpaaGreat
