/- AES-128: Encrypt. Printed by gen/xvn.py. -/
import Derived.Test.YtiffminhlimajaaGreatVM
import Derived.Laws.EntriesVeiled
import Derived.Test.YtiffminhlimajaaGreatTE
namespace Go.Proofs.YtiffminhlimajaaGreat
open Go.RowKit
set_option linter.unusedVariables false
attribute [local go_sem ↓] Go.wp_at_zero Go.wp_at_succ

def fnArr : Array Value := #[.func (.func 125) #[] #[], .func (.func 126) #[] #[], .func (.func 127) #[] #[], .func (.func 124) #[] #[]]
def stepK (key : Nat → Nat) (n : Nat) (b : Nat → Nat) (k : Nat) : Nat → Nat := if k = 0 then b else if k = 1 then sSub b else if k = 2 then sShift (sSub b) else if k = 3 then sMix n (sShift (sSub b)) else sAdd (sched sbx key) n (sMix n (sShift (sSub b)))
theorem stepK_lt {key b : Nat → Nat} {n : Nat} (hk : B16 key) (hb : B16 b) (k : Nat) : B16 (stepK key n b k) := by
  unfold stepK
  split
  · exact hb
  split
  · exact sSub_lt b
  split
  · exact sShift_lt (sSub_lt b)
  split
  · exact sMix_lt n (sShift_lt (sSub_lt b))
  · exact sAdd_lt n (fun i hi => sched_lt (boxK_lt 255) hk n i hi) (sMix_lt n (sShift_lt (sSub_lt b)))
theorem idx_fn0 (w : World) : (Instr.index 221 (.agg fnArr) (.int .i64 0)).run Tryz.prog w = .ok (.func (.func 125) #[] #[]) w := by kernel_rfl
theorem idx_fn1 (w : World) : (Instr.index 221 (.agg fnArr) (.int .i64 1)).run Tryz.prog w = .ok (.func (.func 126) #[] #[]) w := by kernel_rfl
theorem idx_fn2 (w : World) : (Instr.index 221 (.agg fnArr) (.int .i64 2)).run Tryz.prog w = .ok (.func (.func 127) #[] #[]) w := by kernel_rfl
theorem idx_fn3 (w : World) : (Instr.index 221 (.agg fnArr) (.int .i64 3)).run Tryz.prog w = .ok (.func (.func 124) #[] #[]) w := by kernel_rfl
theorem sizeFns : (Tryz.prog.info? 221).map (·.size) = some fnArr.size := by kernel_rfl
set_option maxRecDepth 100000 in
set_option maxHeartbeats 3200000 in
theorem encrypt_ok (key b : Nat → Nat) (hk : B16 key) (hb : B16 b) (cg : Nat) (w : World) (h : CipM w cg key) :
    Calls Tryz.prog 94 #[.pointer (some ⟨cg, 0, none⟩), .agg (b16 b)] w fun e w' => e = .returned (.agg (b16 (aesF key b))) ∧ Below w.heap.size w w' := by
  have HCI := Lib.hid h
  have HSL := Lib.hid (fun n (hn : B16 (sRounds (sched sbx key) b n)) k => stepK_lt (n := n + 1) hk hn k)
  have HRL := Lib.hid (fun n => sRounds_lt (keys := sched sbx key) (fun n i hi => sched_lt (boxK_lt 255) hk n i hi) hb n)
  have HK := Lib.hid hk
  have HAD := Lib.hid (fun V (hV : CipM V cg key) => add_ok b hb cg key hk 0 (by decide) V hV)
  have HSB := Lib.hid (sizeBlock b)
  have HSK : Hid ((Tryz.prog.info? 23).map (·.size) = some (b16 b).size) := Lib.hid (by rw [b16_size]; kernel_rfl)
  have HS16 : Hid (∀ c, (Tryz.prog.info? 23).map (·.size) = some (b16 c).size) := Lib.hid (fun c => by rw [b16_size]; kernel_rfl)
  obtain ⟨ZB, hZB⟩ : ∃ ZB : Array Value, ZB = #[.int .u8 0, .int .u8 0, .int .u8 0, .int .u8 0, .int .u8 0, .int .u8 0, .int .u8 0, .int .u8 0, .int .u8 0, .int .u8 0, .int .u8 0, .int .u8 0, .int .u8 0, .int .u8 0, .int .u8 0, .int .u8 0] := ⟨_, rfl⟩
  have HZS : Hid (∀ c, ZB.size = (b16 c).size) := Lib.hid (fun c => by rw [hZB, b16_size]; rfl)
  have HZB := Lib.hid hZB
  obtain ⟨BA, hBA⟩ : ∃ BA, BA = b16 b := ⟨_, rfl⟩
  obtain ⟨E, hE⟩ : ∃ E : (Nat → Nat) → Array Value, E = b16 := ⟨_, rfl⟩
  have HEE := Lib.hid hE
  have HF := Lib.hid sizeFns
  obtain ⟨FA, hFA⟩ : ∃ FA, FA = fnArr := ⟨_, rfl⟩
  have ix0 := idx_fn0
  have ix1 := idx_fn1
  have ix2 := idx_fn2
  have ix3 := idx_fn3
  have HFA := Lib.hid (hFA.trans (show fnArr = #[.func (.func 125) #[] #[], .func (.func 126) #[] #[], .func (.func 127) #[] #[], .func (.func 124) #[] #[]] from rfl))
  rw [← hFA] at ix0 ix1 ix2 ix3 HF
  have HBA := Lib.hid hBA
  rw [← hBA] at HAD HSK
  rw [← hBA]
  clear hZB hBA hE hk hb h hFA
  go_enter Tryz.func94, Tryz.ntmps94
  go_upto_region 1 with (fail)
  obtain ⟨p0, hp0⟩ : ∃ p0, p0 = w.heap.size := ⟨_, rfl⟩
  refine wp_let (fun V => Blk V p0 23 BA ∧ Blk V (p0 + 1) 23 ZB ∧ CipM V cg key ∧ Below w.heap.size w V) ⟨by rw [hp0]; exact (blk_atA _ _ _ _ rfl).alloc _, by rw [hp0, HZB.out]; exact blk_atA _ _ _ _ (by simp), HCI.out.below (((Below.refl _ _).alloc (Nat.le_refl _) _).alloc (by simp) _), ((Below.refl _ _).alloc (Nat.le_refl _) _).alloc (by simp) _⟩ ?_
  rintro W1 ⟨b1, b2, b3, b4⟩
  have B1 := Lib.hid b1
  have B2 := Lib.hid b2
  have B3 := Lib.hid b3
  have B4 := Lib.hid b4
  have HOW := Lib.hid (aown_ok cg key W1 b3)
  have HP0 := Lib.hid hp0
  rw [← hp0]
  clear b1 b2 b3 b4 hp0 HCI
  go_upto_region 2 with (go_at_call 123; refine (HOW.out).mono ?_; rintro e w2 ⟨rfl, rfl⟩)
  have HA1 := Lib.hid (HAD.out W1 B3.out)
  obtain ⟨S0, hS0⟩ : ∃ S0, S0 = b16 (sAdd (sched sbx key) 0 b) := ⟨_, rfl⟩
  have HSZ0 : Hid ((Tryz.prog.info? 213).map (·.size) = some S0.size) := Lib.hid (by rw [hS0]; exact sizeBlock _)
  have HO0 : Hid (S0.all (·.oneCell') = true) := Lib.hid (by rw [hS0]; exact b16_one _)
  have HZ0 : Hid (ZB.size = S0.size) := Lib.hid (by rw [hS0]; exact HZS.out _)
  have HS0 := Lib.hid hS0
  rw [← hS0] at HA1
  clear hS0
  go_upto_region 3 with (first
    | (refine wpList_load_row rfl _ _ rfl p0 rfl 23 BA (0, 0) _ B1.out Tryz.underlying23 rfl HSK.out ?_)
    | (go_at_call 124; refine (HA1.out).mono ?_; rintro e w4 ⟨rfl, hb4⟩; have C2 := Lib.hid (B2.out.below hb4 B2.out.lt); have C3 := Lib.hid (B3.out.below hb4); have C4 := Lib.hid (B4.out.trans (hb4.mono B4.out.size)); clear hb4)
    | (refine wpList_store_row rfl _ _ _ rfl w4.heap.size S0 rfl rfl 213 ZB (by rw [HZB.out]; exact Blk.new _ _ _) HSZ0.out HZ0.out HO0.out ?_))
  obtain ⟨sb, hsb⟩ : ∃ sb, sb = w4.heap.size := ⟨_, rfl⟩
  refine wp_let (fun V => Blk V sb 213 S0 ∧ Blk V (p0 + 1) 23 ZB ∧ CipM V cg key ∧ Below w.heap.size w V) ⟨by rw [hsb]; exact setRow_heap _ _ ZB S0 213 (0, 0) (by rw [HZB.out]; exact Blk.new _ _ _), (setRow_other _ _ _ _ (by have := C2.out.lt; omega)).trans (C2.out.alloc _), (setRow_other _ _ _ _ (by have := Blk.lt C3.out; omega)).trans (Blk.alloc C3.out _), belowRow (C4.out.alloc C4.out.size _) C4.out.size _⟩ ?_
  rintro W5 ⟨b1, b2, b3, b4⟩
  have D1 := Lib.hid b1
  have D2 := Lib.hid b2
  have D3 := Lib.hid b3
  have D4 := Lib.hid b4
  have HSB0 := Lib.hid (show w.heap.size ≤ sb ∧ p0 + 1 < sb by have := C4.out.size; have := C2.out.lt; omega)
  rw [← hsb]
  clear b1 b2 b3 b4 hsb B1 B2 B3 B4 C2 C3 C4 HA1
  go_upto_region 4 with (fail)
  try rw [show (#[.func (.func 125) #[] #[], .func (.func 126) #[] #[], .func (.func 127) #[] #[], .func (.func 124) #[] #[]] : Array Value) = FA from HFA.out.symm]
  obtain ⟨fb, hfb⟩ : ∃ fb, fb = W5.heap.size := ⟨_, rfl⟩
  refine wp_let (fun V => Blk V sb 213 S0 ∧ Blk V (p0 + 1) 23 ZB ∧ CipM V cg key ∧ Blk V fb 221 FA ∧ Below w.heap.size w V) ⟨D1.out.alloc _, D2.out.alloc _, Blk.alloc D3.out _, by rw [hfb]; exact Blk.new _ _ _, D4.out.alloc D4.out.size _⟩ ?_
  rintro W6 ⟨b1, b2, b3, b4, b5⟩
  have E1 := Lib.hid b1
  have E2 := Lib.hid b2
  have E3 := Lib.hid b3
  have E4 := Lib.hid b4
  have E5 := Lib.hid b5
  have HFB := Lib.hid (show sb < fb by have := D1.out.lt; omega)
  rw [← hfb]
  clear b1 b2 b3 b4 b5 hfb D1 D2 D3 D4
  go_wp2
  go_loopw [7] (fun v7 wr => ∃ m n : Nat, m ≤ 10 ∧ n = m + 1 ∧ v7 = .int .i64 n ∧ Blk wr sb 213 (E (sRounds (sched sbx key) b m)) ∧ Blk wr (p0 + 1) 23 ZB ∧ CipM wr cg key ∧ Blk wr fb 221 FA ∧ Below w.heap.size w wr) (fun v7 _ => 11 - (intOf v7).toNat)
  case atStart => exact ⟨0, 1, by omega, rfl, rfl, by rw [HEE.out]; have := E1.out; rw [HS0.out] at this; exact this, E2.out, E3.out, E4.out, E5.out⟩
  case round =>
    clear E1 E2 E3 E4 E5
    obtain ⟨m, n, hm, hn, rfl, hB, hR, hC, hA, hb⟩ := hrel
    have HB := Lib.hid hB
    have HR := Lib.hid hR
    have HC := Lib.hid hC
    have HA := Lib.hid hA
    have HBW := Lib.hid hb
    have HN := Lib.hid hn
    clear hB hR hC hA hb hn
    by_cases hlt : m < 10
    · have n10 : (n : Int) ≤ 10 := by have := HN.out; omega
      have nn : n < 11 := by omega
      have n0 : (0 : Int) ≤ (n : Int) := by omega
      obtain ⟨B, hBq⟩ : ∃ B, B = sRounds (sched sbx key) b m := ⟨_, rfl⟩
      have HSn : Hid (sRounds (sched sbx key) b n = stepK key n B 4) := Lib.hid (by rw [HN.out, hBq]; rfl)
      have HBL : Hid (∀ k, B16 (stepK key n B k)) := Lib.hid (fun k => by rw [hBq, HN.out]; exact HSL.out m (HRL.out m) k)
      rw [← hBq] at HB
      clear hBq hm hlt
      go_wp2_with (refine wpList_load_row rfl _ _ rfl fb rfl 221 FA (0, 0) _ HA.out Tryz.underlying221 rfl HF.out ?_)
      go_loopw [21] (fun v wr => ∃ k : Nat, k ≤ 4 ∧ v = .int .i64 k ∧ Blk wr sb 213 (E (stepK key n B k)) ∧ Blk wr (p0 + 1) 23 ZB ∧ CipM wr cg key ∧ Blk wr fb 221 FA ∧ Below w.heap.size w wr) (fun v _ => 4 - (intOf v).toNat)
      case atStart => exact ⟨0, by omega, rfl, HB.out, HR.out, HC.out, HA.out, HBW.out⟩
      case round =>
        clear HB HR HC HA HBW
        obtain ⟨k, hk, rfl, hB, hR, hC, hA, hb⟩ := hrel
        have HB := Lib.hid hB
        have HR := Lib.hid hR
        have HC := Lib.hid hC
        have HA := Lib.hid hA
        have HBW := Lib.hid hb
        clear hB hR hC hA hb
        by_cases hlt : k < 4
        · have HX1 : Hid ((Tryz.prog.info? 213).map (·.size) = some (E (stepK key n B k)).size) := Lib.hid (by rw [HEE.out]; exact sizeBlock _)
          have HX2 : Hid ((Tryz.prog.info? 213).map (·.size) = some (E (stepK key n B (k + 1))).size) := Lib.hid (by rw [HEE.out]; exact sizeBlock _)
          have HX3 : Hid ((E (stepK key n B (k + 1))).all (·.oneCell') = true) := Lib.hid (by rw [HEE.out]; exact b16_one _)
          have HX4 : Hid ((E (stepK key n B k)).size = (E (stepK key n B (k + 1))).size) := Lib.hid (by rw [HEE.out, b16_size, b16_size])
          rcases (by omega : k = 0 ∨ k = 1 ∨ k = 2 ∨ k = 3) with rfl | rfl | rfl | rfl
          · have HST : Hid (Calls Tryz.prog 125 #[.pointer (some ⟨cg, 0, none⟩), .agg (E (stepK key n B 0)), .int .i64 n] wr fun e w' => e = .returned (.agg (E (stepK key n B 1))) ∧ Below wr.heap.size wr w') := Lib.hid (by rw [HEE.out]; exact sub_ok _ (HBL.out 0) cg key n wr HC.out)
            obtain ⟨X, hX⟩ : ∃ X, X = E (stepK key n B 0) := ⟨_, rfl⟩
            obtain ⟨Y, hY⟩ : ∃ Y, Y = E (stepK key n B 1) := ⟨_, rfl⟩
            have HY := Lib.hid hY
            rw [← hX] at HX1 HX4 HB HST
            rw [← hY] at HX2 HX3 HX4 HST
            clear hX hY hlt hk
            go_wp2_with (first
              | (refine wpList_load_row rfl _ _ rfl sb rfl 213 X (0, 0) _ HB.out Tryz.underlying213 rfl HX1.out ?_)
              | (go_at_call 125; refine (HST.out).mono ?_; rintro e w4 ⟨rfl, hb4⟩; have C1 := Lib.hid (HB.out.below hb4 HB.out.lt); have C2 := Lib.hid (HR.out.below hb4 HR.out.lt); have C3 := Lib.hid (HC.out.below hb4); have C4 := Lib.hid (HA.out.below hb4 HA.out.lt); have C5 := Lib.hid (HBW.out.trans (hb4.mono HBW.out.size)); clear hb4)
              | (refine wpList_store_row rfl _ _ _ rfl sb Y rfl rfl 213 X C1.out HX2.out HX4.out HX3.out ?_))
            go_roundw
            case rel => exact ⟨1, by omega, rfl, by rw [← HY.out]; exact setRow_heap _ _ X Y 213 (0, 0) C1.out, (setRow_other _ _ _ _ (by have := HSB0.out; omega)).trans C2.out, (setRow_other _ _ _ _ (fun e => cells_ne C1.out C3.out (by decide) e.symm)).trans C3.out, (setRow_other _ _ _ _ (by have := HFB.out; omega)).trans C4.out, belowRow C5.out (by have := HSB0.out; omega) _⟩
            case measure => simp [intOf]
          · have HST : Hid (Calls Tryz.prog 126 #[.pointer (some ⟨cg, 0, none⟩), .agg (E (stepK key n B 1)), .int .i64 n] wr fun e w' => e = .returned (.agg (E (stepK key n B 2))) ∧ Below wr.heap.size wr w') := Lib.hid (by rw [HEE.out]; exact shift_ok _ (HBL.out 1) _ n wr)
            obtain ⟨X, hX⟩ : ∃ X, X = E (stepK key n B 1) := ⟨_, rfl⟩
            obtain ⟨Y, hY⟩ : ∃ Y, Y = E (stepK key n B 2) := ⟨_, rfl⟩
            have HY := Lib.hid hY
            rw [← hX] at HX1 HX4 HB HST
            rw [← hY] at HX2 HX3 HX4 HST
            clear hX hY hlt hk
            go_wp2_with (first
              | (refine wpList_load_row rfl _ _ rfl sb rfl 213 X (0, 0) _ HB.out Tryz.underlying213 rfl HX1.out ?_)
              | (go_at_call 126; refine (HST.out).mono ?_; rintro e w4 ⟨rfl, hb4⟩; have C1 := Lib.hid (HB.out.below hb4 HB.out.lt); have C2 := Lib.hid (HR.out.below hb4 HR.out.lt); have C3 := Lib.hid (HC.out.below hb4); have C4 := Lib.hid (HA.out.below hb4 HA.out.lt); have C5 := Lib.hid (HBW.out.trans (hb4.mono HBW.out.size)); clear hb4)
              | (refine wpList_store_row rfl _ _ _ rfl sb Y rfl rfl 213 X C1.out HX2.out HX4.out HX3.out ?_))
            go_roundw
            case rel => exact ⟨2, by omega, rfl, by rw [← HY.out]; exact setRow_heap _ _ X Y 213 (0, 0) C1.out, (setRow_other _ _ _ _ (by have := HSB0.out; omega)).trans C2.out, (setRow_other _ _ _ _ (fun e => cells_ne C1.out C3.out (by decide) e.symm)).trans C3.out, (setRow_other _ _ _ _ (by have := HFB.out; omega)).trans C4.out, belowRow C5.out (by have := HSB0.out; omega) _⟩
            case measure => simp [intOf]
          · have HST : Hid (Calls Tryz.prog 127 #[.pointer (some ⟨cg, 0, none⟩), .agg (E (stepK key n B 2)), .int .i64 n] wr fun e w' => e = .returned (.agg (E (stepK key n B 3))) ∧ Below wr.heap.size wr w') := Lib.hid (by rw [HEE.out]; exact mix_ok _ (HBL.out 2) _ n wr)
            obtain ⟨X, hX⟩ : ∃ X, X = E (stepK key n B 2) := ⟨_, rfl⟩
            obtain ⟨Y, hY⟩ : ∃ Y, Y = E (stepK key n B 3) := ⟨_, rfl⟩
            have HY := Lib.hid hY
            rw [← hX] at HX1 HX4 HB HST
            rw [← hY] at HX2 HX3 HX4 HST
            clear hX hY hlt hk
            go_wp2_with (first
              | (refine wpList_load_row rfl _ _ rfl sb rfl 213 X (0, 0) _ HB.out Tryz.underlying213 rfl HX1.out ?_)
              | (go_at_call 127; refine (HST.out).mono ?_; rintro e w4 ⟨rfl, hb4⟩; have C1 := Lib.hid (HB.out.below hb4 HB.out.lt); have C2 := Lib.hid (HR.out.below hb4 HR.out.lt); have C3 := Lib.hid (HC.out.below hb4); have C4 := Lib.hid (HA.out.below hb4 HA.out.lt); have C5 := Lib.hid (HBW.out.trans (hb4.mono HBW.out.size)); clear hb4)
              | (refine wpList_store_row rfl _ _ _ rfl sb Y rfl rfl 213 X C1.out HX2.out HX4.out HX3.out ?_))
            go_roundw
            case rel => exact ⟨3, by omega, rfl, by rw [← HY.out]; exact setRow_heap _ _ X Y 213 (0, 0) C1.out, (setRow_other _ _ _ _ (by have := HSB0.out; omega)).trans C2.out, (setRow_other _ _ _ _ (fun e => cells_ne C1.out C3.out (by decide) e.symm)).trans C3.out, (setRow_other _ _ _ _ (by have := HFB.out; omega)).trans C4.out, belowRow C5.out (by have := HSB0.out; omega) _⟩
            case measure => simp [intOf]
          · have HST : Hid (Calls Tryz.prog 124 #[.pointer (some ⟨cg, 0, none⟩), .agg (E (stepK key n B 3)), .int .i64 n] wr fun e w' => e = .returned (.agg (E (stepK key n B 4))) ∧ Below wr.heap.size wr w') := Lib.hid (by rw [HEE.out]; exact add_ok _ (HBL.out 3) cg key HK.out n nn wr HC.out)
            obtain ⟨X, hX⟩ : ∃ X, X = E (stepK key n B 3) := ⟨_, rfl⟩
            obtain ⟨Y, hY⟩ : ∃ Y, Y = E (stepK key n B 4) := ⟨_, rfl⟩
            have HY := Lib.hid hY
            rw [← hX] at HX1 HX4 HB HST
            rw [← hY] at HX2 HX3 HX4 HST
            clear hX hY hlt hk
            go_wp2_with (first
              | (refine wpList_load_row rfl _ _ rfl sb rfl 213 X (0, 0) _ HB.out Tryz.underlying213 rfl HX1.out ?_)
              | (go_at_call 124; refine (HST.out).mono ?_; rintro e w4 ⟨rfl, hb4⟩; have C1 := Lib.hid (HB.out.below hb4 HB.out.lt); have C2 := Lib.hid (HR.out.below hb4 HR.out.lt); have C3 := Lib.hid (HC.out.below hb4); have C4 := Lib.hid (HA.out.below hb4 HA.out.lt); have C5 := Lib.hid (HBW.out.trans (hb4.mono HBW.out.size)); clear hb4)
              | (refine wpList_store_row rfl _ _ _ rfl sb Y rfl rfl 213 X C1.out HX2.out HX4.out HX3.out ?_))
            go_roundw
            case rel => exact ⟨4, by omega, rfl, by rw [← HY.out]; exact setRow_heap _ _ X Y 213 (0, 0) C1.out, (setRow_other _ _ _ _ (by have := HSB0.out; omega)).trans C2.out, (setRow_other _ _ _ _ (fun e => cells_ne C1.out C3.out (by decide) e.symm)).trans C3.out, (setRow_other _ _ _ _ (by have := HFB.out; omega)).trans C4.out, belowRow C5.out (by have := HSB0.out; omega) _⟩
            case measure => simp [intOf]
        · obtain rfl : k = 4 := by omega
          have n1 : ¬ (4 : Int) < 4 := by omega
          rw [← HSn.out] at HB
          clear HSn HBL
          go_wp2
          go_roundw
          case rel => exact ⟨m + 1, n + 1, by have := HN.out; omega, by have := HN.out; omega, by go_num, by rw [← HN.out]; exact HB.out, HR.out, HC.out, HA.out, HBW.out⟩
          case measure => simp [intOf]; omega
    · obtain rfl : m = 10 := by omega
      have hn := HN.out
      subst hn
      obtain ⟨R, hR⟩ : ∃ R, R = E (sRounds (sched sbx key) b 10) := ⟨_, rfl⟩
      have HRQ : Hid (b16 (aesF key b) = R) := Lib.hid (by rw [hR, HEE.out]; rfl)
      have HX1 : Hid ((Tryz.prog.info? 213).map (·.size) = some R.size) := Lib.hid (by rw [hR, HEE.out]; exact sizeBlock _)
      have HX2 : Hid ((Tryz.prog.info? 23).map (·.size) = some R.size) := Lib.hid (by rw [hR, HEE.out]; exact HS16.out _)
      have HX3 : Hid (R.all (·.oneCell') = true) := Lib.hid (by rw [hR, HEE.out]; exact b16_one _)
      have HX4 : Hid (ZB.size = R.size) := Lib.hid (by rw [hR, HEE.out]; exact HZS.out _)
      rw [← hR] at HB
      clear hR hm hlt
      have n1 : ¬ (11 : Int) ≤ 10 := by omega
      go_wp2_with (first
        | (refine wpList_load_row rfl _ _ rfl sb rfl 213 R (0, 0) _ HB.out Tryz.underlying213 rfl HX1.out ?_)
        | (refine wpList_store_row rfl _ _ _ rfl (p0 + 1) R rfl rfl 23 ZB HR.out HX2.out HX4.out HX3.out ?_))
      refine bodyPost_ret (v := .agg R) (results_cell_row (g := p0 + 1) (t := 23) (fr := (0, 0)) Tryz.results94 _ _ R _ rfl (setRow_heap wr (p0 + 1) ZB R 23 (0, 0) HR.out) Tryz.underlying23 rfl HX2.out) rfl ⟨by rw [HRQ.out], ?_⟩
      exact belowRow HBW.out (by rw [HP0.out]; omega) _
end Go.Proofs.YtiffminhlimajaaGreat
