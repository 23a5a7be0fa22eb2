/- PdcptxValid: the walk. -/
import Derived.Test.YtiffminhlimajaaGreatZO
namespace Go.Proofs.YtiffminhlimajaaGreat
open Go.RowKit
set_option linter.unusedVariables false
attribute [local go_sem ↓] Go.wp_at_zero Go.wp_at_succ

set_option maxRecDepth 100000 in
set_option maxHeartbeats 3200000 in
theorem valid_walk (c : Cfg) (hok : c.Ok) (w : World) : Calls Tryz.prog 7 #[.agg c.arr] w fun e w' => e = .returned (.bool true) ∧ Below w.heap.size w w' := by
  have HRV := Lib.hid (fun V => rvalid45_ok c V)
  have HPV := Lib.hid (fun V => tvalid_ok c V)
  have HKN := Lib.hid (fun V => known45_true V)
  have HS : Hid ((Tryz.prog.info? 25).map (·.size) = some c.arr.size) := Lib.hid (by rw [c.arr_size]; exact infoPd)
  have HU := Lib.hid Tryz.underlying25
  by_cases hv : c.Valid
  · have HN := Lib.hid (fun V => tNew_ok c hv V)
    rw [decide_eq_true hv] at HRV HPV
    have hself := cfg_self c
    have HO : Hid (c.arr.all (·.oneCell') = true) := Lib.hid c.arr_one
    have H39 : Hid (c.arr.size = 39) := Lib.hid c.arr_size
    have HNS : Hid ((newS c).C.arr = c.arr) := Lib.hid rfl
    obtain ⟨NS, hNS⟩ : ∃ NS, NS = newS c := ⟨_, rfl⟩
    have HNP : Hid (NS.P = [] ∧ NS.Q = [] ∧ NS.next = 0) := Lib.hid (by rw [hNS]; exact ⟨rfl, rfl, rfl⟩)
    rw [← hNS] at HN HNS
    obtain ⟨Z, hZ⟩ : ∃ Z, Z = c.arr := ⟨_, rfl⟩
    rw [← hZ] at HS HN HRV HPV hself HO H39 HNS ⊢
    clear hZ hNS hv
    go_enter Tryz.func7, Tryz.ntmps7
    go_upto_region 1 with (fail)
    refine wp_let (fun W => Blk W w.heap.size 25 Z ∧ Below w.heap.size w W) ⟨Blk.new _ _ _, (Below.refl _ w).alloc (Nat.le_refl _) _⟩ ?_
    rintro W1 ⟨b1, b2⟩
    have B1 := Lib.hid b1
    have D1 := Lib.hid b2
    clear b1 b2
    go_upto_region 2 with (first
      | (refine wpList_load_row rfl _ _ rfl w.heap.size rfl 25 Z (0, 0) _ B1.out HU.out rfl HS.out ?_)
      | (go_at_call 21; with_reducible refine (HN.out _).mono ?_; rintro e w2 ⟨g, rfl, hO⟩; have O2 := Lib.hid hO; clear hO))
    obtain ⟨W2, R2, i2, _, _, hb2⟩ := O2.out
    have I2 := Lib.hid i2
    have B2 := Lib.hid (B1.out.below hb2 B1.out.lt)
    have D2 := Lib.hid (D1.out.trans (hb2.mono D1.out.size))
    clear i2 hb2
    go_upto_region 4 with (first
      | (refine wpList_load_row rfl _ _ rfl w.heap.size rfl 25 Z (0, 0) _ B2.out HU.out rfl HS.out ?_)
      | (go_at_call 16; with_reducible refine (HRV.out _).mono ?_; rintro e w3 ⟨rfl, hB⟩; have E3 := Lib.hid hB; clear hB))
    have B3 := Lib.hid (B2.out.below E3.out B2.out.lt)
    have D3 := Lib.hid (D2.out.trans (E3.out.mono D2.out.size))
    have I3 := Lib.hid (I2.out.below E3.out)
    go_upto_region 6 with (first
      | (refine wpList_load_rowG (by rfl) _ _ rfl w.heap.size rfl 25 Z (0, 0) _ B3.out HU.out rfl HS.out ?_)
      | (go_at_call 26; with_reducible refine (HPV.out _).mono ?_; rintro e w4 ⟨rfl, hB⟩; have E4 := Lib.hid hB; clear hB))
    have B4 := Lib.hid (B3.out.below E4.out B3.out.lt)
    have D4 := Lib.hid (D3.out.trans (E4.out.mono D3.out.size))
    have I4 := Lib.hid (I3.out.below E4.out)
    have HCF := Lib.hid (tconfig_ok g NS W2 R2 w4 I4.out)
    rw [HNS.out] at HCF
    go_upto_region 7 with (first
      | (refine wpList_store_row rfl _ _ _ rfl w5.heap.size Z rfl rfl 25 _ (Blk.new w5 _ _) HS.out (by rw [H39.out]; rfl) HO.out ?_)
      | (go_at_call 27; with_reducible refine (HCF.out).mono ?_; rintro e w5 ⟨rfl, hB⟩; have E5 := Lib.hid hB; clear hB))
    have B5 := Lib.hid (B4.out.below E5.out B4.out.lt)
    have D5 := Lib.hid (D4.out.trans (E5.out.mono D4.out.size))
    have I5 := Lib.hid (I4.out.below E5.out)
    refine wp_let (fun X => Below w5.heap.size w5 X ∧ Blk X w5.heap.size 25 Z) ⟨belowRow ((Below.refl _ w5).alloc (Nat.le_refl _) _) (Nat.le_refl _) _, Blk.setRow (Blk.new _ _ _)⟩ ?_
    rintro X ⟨x1, x2⟩
    have B6 := Lib.hid (B5.out.below x1 B5.out.lt)
    have D6 := Lib.hid (D5.out.trans (x1.mono D5.out.size))
    have I6 := Lib.hid (I5.out.below x1)
    have C6 := Lib.hid x2
    obtain ⟨db, hdb⟩ : ∃ db, db = w5.heap.size := ⟨_, rfl⟩
    obtain ⟨zb, hzb⟩ : ∃ zb, zb = w.heap.size := ⟨_, rfl⟩
    have HZB := Lib.hid hzb
    rw [← hdb] at C6 ⊢
    rw [← hzb] at B6 ⊢
    clear x1 x2 hdb hzb
    have HEX : Hid (Calls Tryz.prog 24 #[.pointer (some ⟨g, 0, none⟩)] X fun e w' => ∃ pA pc qA qc, e = .returned (.agg #[.int .u32 0, .bool false, .slice pA 0 pc, .slice qA 0 qc]) ∧ Below X.heap.size X w') := Lib.hid ((texport_ok g NS W2 R2 X I6.out (by rw [HNP.out.1, HNP.out.2.1]; exact ⟨Nat.zero_le _, Nat.zero_le _⟩)).mono (by
      rintro e w' ⟨pA, pc, lp, qA, qc, lq, rfl, hF, hB⟩
      have h1 : lp.length = 0 := by have := congrArg List.length hF.pv; rw [List.length_map, HNP.out.1] at this; exact this
      have h2 : lq.length = 0 := by have := congrArg List.length hF.qv; rw [List.length_map, HNP.out.2.1] at this; exact this
      exact ⟨pA, pc, qA, qc, by rw [h1, h2, HNP.out.2.2]; rfl, hB⟩))
    go_wp2_with (first
      | (go_at_call 24; with_reducible refine (HEX.out).mono ?_; rintro e w7 ⟨pA, pc, qA, qc, rfl, hB⟩; have E7 := Lib.hid hB; clear hB)
      | (go_at_call 25; refine (samef_true 0 false pA none qA none 0 pc 0 0 qc 0 w7 (Nat.zero_le _) (Nat.zero_le _) (fun k hk => absurd hk (Nat.not_lt_zero k)) (fun k hk => absurd hk (Nat.not_lt_zero k))).mono ?_; rintro e w8 ⟨rfl, hB⟩; have E8 := Lib.hid (E7.out.trans (hB.mono E7.out.size)); clear hB)
      | (refine wpList_load_rowG (by rfl) _ _ rfl db rfl 25 Z (0, 0) _ (C6.out.below E8.out C6.out.lt) HU.out rfl HS.out ?_)
      | (refine wpList_load_rowG (by rfl) _ _ rfl zb rfl 25 Z (0, 0) _ (B6.out.below E8.out B6.out.lt) HU.out rfl HS.out ?_)
      | (go_at_call 17; with_reducible refine (HKN.out _).mono ?_; rintro e w9 ⟨rfl, hB⟩; have E9 := Lib.hid hB; clear hB))
    go_ret
    have D8 := D6.out.trans (E8.out.mono D6.out.size)
    exact ⟨rfl, D8.trans (E9.out.mono D8.size)⟩
  · have HN := Lib.hid (fun V => tNew_no c hv V)
    rw [decide_eq_false hv] at HRV HPV
    obtain ⟨Z, hZ⟩ : ∃ Z, Z = c.arr := ⟨_, rfl⟩
    rw [← hZ] at HS HN HRV HPV ⊢
    clear hZ hv
    go_enter Tryz.func7, Tryz.ntmps7
    go_upto_region 1 with (fail)
    refine wp_let (fun W => Blk W w.heap.size 25 Z ∧ Below w.heap.size w W) ⟨Blk.new _ _ _, (Below.refl _ w).alloc (Nat.le_refl _) _⟩ ?_
    rintro W1 ⟨b1, b2⟩
    have B1 := Lib.hid b1
    have D1 := Lib.hid b2
    clear b1 b2
    go_upto_region 2 with (first
      | (refine wpList_load_row rfl _ _ rfl w.heap.size rfl 25 Z (0, 0) _ B1.out HU.out rfl HS.out ?_)
      | (go_at_call 21; with_reducible refine (HN.out _).mono ?_; rintro e w2 ⟨rfl, hB⟩; have E2 := Lib.hid hB; clear hB))
    have B2 := Lib.hid (B1.out.below E2.out B1.out.lt)
    have D2 := Lib.hid (D1.out.trans (E2.out.mono D1.out.size))
    go_upto_region 3 with (first
      | (refine wpList_load_row rfl _ _ rfl w.heap.size rfl 25 Z (0, 0) _ B2.out HU.out rfl HS.out ?_)
      | (go_at_call 16; with_reducible refine (HRV.out _).mono ?_; rintro e w3 ⟨rfl, hB⟩; have E3 := Lib.hid hB; clear hB))
    have B3 := Lib.hid (B2.out.below E3.out B2.out.lt)
    have D3 := Lib.hid (D2.out.trans (E3.out.mono D2.out.size))
    go_wp2_with (first
      | (refine wpList_load_row rfl _ _ rfl w.heap.size rfl 25 Z (0, 0) _ B3.out HU.out rfl HS.out ?_)
      | (go_at_call 26; with_reducible refine (HPV.out _).mono ?_; rintro e w4 ⟨rfl, hB⟩; have E4 := Lib.hid hB; clear hB)
      | (go_at_call 17; with_reducible refine (HKN.out _).mono ?_; rintro e w5 ⟨rfl, hB⟩; have E5 := Lib.hid hB; clear hB))
    go_ret
    have D4 := D3.out.trans (E4.out.mono D3.out.size)
    exact ⟨rfl, D4.trans (E5.out.mono D4.size)⟩
end Go.Proofs.YtiffminhlimajaaGreat
