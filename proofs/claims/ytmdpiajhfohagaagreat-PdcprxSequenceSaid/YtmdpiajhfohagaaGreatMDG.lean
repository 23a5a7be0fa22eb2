/- law 46: known. pdcprx: the calls of a nil or a zero receiver. -/
import Derived.Test.YtmdpiajhfohagaaGreatMDF
namespace Go.Proofs.YtmdpiajhfohagaaGreat
open Go.RowKit
set_option linter.unusedVariables false
set_option linter.unusedSimpArgs false
attribute [local go_sem ↓] Go.wp_at_zero Go.wp_at_succ

set_option maxRecDepth 100000 in
set_option maxHeartbeats 6400000 in
theorem known_true (w : World) : Calls Tryz.prog 9 #[] w fun e w' => e = .returned (.bool true) ∧ Below w.heap.size w w' := by
  have HN0 := Lib.hid (fun W => rnew_ok (cfR 0) W (cfR_valid 0 (by decide)))
  have HN5 := Lib.hid (fun W => rnew_ok (cfR 5) W (cfR_valid 5 (by decide)))
  have HFI := Lib.hid (fun W => first_ok (cfR 0) (cfR_ok 0) (cfR_valid 0 (by decide)) rfl 3 (by omega) W)
  rw [cfR_arr] at HN0 HN5 HFI
  have HK2L := Lib.hid (fun W => known2_true W)
  go_enter Tryz.func9, Tryz.ntmps9
  go_upto_region 2 with (first
    | (go_at_call 25; refine (HN0.out _).mono ?_; rintro e w2 ⟨v, rfl, g, mS, mU, eb, X, rfl, hT, h1, h2, h3, h4, hB⟩; have HT := Lib.hid hT; have HB := Lib.hid hB; have HF := Lib.hid (And.intro h1 (And.intro h2 (And.intro h3 h4))); clear hT h1 h2 h3 h4 hB))
  go_upto_region 6 with (first
    | (go_at_call 25; refine (HN5.out _).mono ?_; rintro e w3 ⟨v, rfl, g5, mS5, mU5, eb5, X5, rfl, hT, h1, h2, h3, h4, hB⟩; have HT5 := Lib.hid hT; have HB5 := Lib.hid hB; have HF5 := Lib.hid (And.intro h1 (And.intro h2 (And.intro h3 h4))); clear hT h1 h2 h3 h4 hB)
    | (go_at_call 28; refine (HFI.out _).mono ?_; rintro e w4 ⟨A4, c4, rfl, hF4⟩; have HF4 := Lib.hid hF4; clear hF4))
  obtain ⟨L, hL, hSL, hP, hA, hBW, hBZ⟩ := HF4.out
  have HSL := Lib.hid hSL
  have HP := Lib.hid hP
  have HBW := Lib.hid hBW
  have HL := Lib.hid hL
  have HA := Lib.hid hA
  clear hSL hP hA hBW hBZ hL HF4
  go_upto_region 8 with (fail)
  obtain ⟨b, hb⟩ : ∃ b, b = w4.heap.size := ⟨_, rfl⟩
  refine wp_let (fun V => Below w4.heap.size w4 V ∧ Blk V (b + 5) 3 #[.int .i64 0, .int .i64 2, .int .i64 1, .int .i64 1] ∧ Blk V (b + 4) 41 #[.slice (some ⟨b, 0, none⟩) 1 1, .slice (some ⟨b + 1, 0, none⟩) 0 0, .slice (some ⟨b + 2, 0, none⟩) 2 2, .slice (some ⟨b + 3, 0, none⟩) 0 0] ∧ Blk V b 5 #[.int .u8 0] ∧ Blk V (b + 2) 5 #[.int .u8 1, .int .u8 2])
    ⟨((((((Below.refl _ w4).alloc (Nat.le_refl _) _).alloc (by simp <;> omega) _).alloc (by simp <;> omega) _).alloc (by simp <;> omega) _).alloc (by simp <;> omega) _).alloc (by simp <;> omega) _,
     by rw [hb]; exact blk_atZ _ _ _ _ (by simp), by rw [hb]; exact (blk_atZ _ _ _ _ (by simp)).alloc _, by rw [hb]; exact (((((Blk.new _ _ _).alloc _).alloc _).alloc _).alloc _).alloc _, by rw [hb]; exact (((blk_atZ _ _ _ _ (by simp)).alloc _).alloc _).alloc _⟩ ?_
  rintro W8 ⟨b8, o8, v8, x8, y8⟩
  have HB8 := Lib.hid b8
  have HO8 := Lib.hid (And.intro o8 (And.intro v8 (And.intro x8 y8)))
  have HBB := Lib.hid hb
  rw [← hb]
  clear b8 o8 v8 x8 y8 hb
  rw [show b + 1 + 1 + 1 + 1 + 1 = b + 5 from rfl, show b + 1 + 1 + 1 + 1 = b + 4 from rfl]
  have hb3 : Below w2.heap.size w2 w3 := HB5.out
  have hb4 : Below w2.heap.size w2 w4 := hb3.trans (HBW.out.mono hb3.size)
  have hb8 : Below w2.heap.size w2 W8 := hb4.trans (HB8.out.mono hb4.size)
  have HT8 := Lib.hid (HT.out.below hb8)
  have HWL := Lib.hid HT.out.win
  clear hb3 hb4 hb8
  go_wp2
  go_loopw [8] (fun v8 wr => ∃ (k : Nat) (l : List SE) (R : Nat → Prop), k ≤ 4 ∧ v8 = .int .i64 k ∧ RxM wr g (kst X k) (fun k => k = g ∨ k = mS ∨ k = mU ∨ k = eb) R mS l mU eb ∧ KeepF (fun k => k = g ∨ k = mS ∨ k = mU ∨ k = eb) W8 wr ∧ (∀ q, R q → W8.heap.size ≤ q)) (fun v8 _ => 4 - (intOf v8).toNat)
  case atStart => exact ⟨0, [], fun _ => False, by omega, rfl, HT8.out, KeepF.refl, fun q h => h.elim⟩
  case round =>
    obtain ⟨k, l, R, hk, rfl, hT, hK, hR⟩ := hrel
    have HTR := Lib.hid hT
    have HKR := Lib.hid hK
    have HRR := Lib.hid hR
    clear hT hK hR
    by_cases hk4 : k < 4
    rotate_left
    · obtain rfl : k = 4 := by omega
      have hs23 := HB5.out.size
      have hs34 := HBW.out.size
      have hs48 := HB8.out.size
      have hT5 : RxM wr g5 (rnewS (cfR 5) X5) (fun k => k = g5 ∨ k = mS5 ∨ k = mU5 ∨ k = eb5) (fun _ => False) mS5 [] mU5 eb5 := ((HT5.out.below HBW.out).below (HB8.out)).keepF HKR.out (fun q h => ⟨fun h5 => by
        have h1 := HWL.out q h
        have h2 := HF5.out
        rcases h5 with rfl | rfl | rfl | rfl <;> omega, fun h => h⟩)
      have HT5r := Lib.hid hT5
      have HTr := Lib.hid HTR.out
      clear hT5
      have hpd : ∀ i, i < 3 → ∃ p, L[i]? = some p ∧ Pdu1 wr w3.heap.size (cfR 0) i p := fun i hi => by
        have hil : i < L.length := by rw [HL.out]; exact hi
        refine ⟨L[i], List.getElem?_eq_getElem hil, ?_⟩
        have hpd := (HP.out _ _ (List.getElem?_eq_getElem hil)).1
        exact (hpd.keep (KeepF.of_below (F := fun _ => False) HB8.out) (fun _ _ h => h)).keep HKR.out (fun a ha h => by have := hpd.2.2 a ha; have := HWL.out _ h; omega)
      obtain ⟨p0, hl0, hp0⟩ := hpd 0 (by decide)
      obtain ⟨p2, hl2, hp2⟩ := hpd 2 (by decide)
      have hSLr : SL wr 41 1 A4 3 c4 (L.map (pv (cfR 0))) := (HSL.out.next HB8.out).keepF HKR.out (fun a ha h => by have := HA.out a ha; have := HWL.out _ h; omega)
      obtain ⟨ab, ao, hAA, hab⟩ := hSLr.some_ (by omega)
      have cA0 : wr.cell? ⟨ab, ao, none⟩ = some (.slice p0.1 (pduN (cfR 0) 1) p0.2) := by
        have h := hSLr.cell (j := 0) hAA (by decide)
        rw [Nat.add_zero] at h
        rw [h, List.getElem?_map, hl0]
        rfl
      have cA2 : wr.cell? ⟨ab, ao + 2, none⟩ = some (.slice p2.1 (pduN (cfR 0) 1) p2.2) := by
        rw [hSLr.cell (j := 2) hAA (by decide), List.getElem?_map, hl2]
        rfl
      have habw : w3.heap.size ≤ ab := by rw [hAA] at HA; exact Nat.le_of_lt (HA.out _ rfl)
      have HW5 := Lib.hid (show ∀ q, (q = g5 ∨ q = mS5 ∨ q = mU5 ∨ q = eb5) → q < w3.heap.size from fun q h => HT5.out.win _ h)
      have HX1 := Lib.hid (show (rnewS (cfR 5) X5).receive 0 (pduN (cfR 0) 1) (pduZ (cfR 0) 0 1 (fun _ => 0)) = ([sv1 5 0], 0, kS 5 X5 0 1 1 [] false 0 0 0) from k_next 5 X5 0 0 (by decide) 0 (by decide))
      have HX2 := Lib.hid (show (kS 5 X5 0 1 1 [] false 0 0 0).receive 1 (pduN (cfR 0) 1) (pduZ (cfR 0) 2 1 (fun _ => 2)) = ([], 0, kS 5 X5 1 1 3 [sv1 5 2] true 3 6 0) from k_gap5 5 (by decide) X5 0 1 (by decide))
      have HX3 := Lib.hid (k_wait X5)
      have HX4 := Lib.hid (k_due X5)
      have HRC1 := Lib.hid (recv_plain g5 (rnewS (cfR 5) X5) _ _ mS5 [] mU5 eb5 wr HT5r.out 5 rfl (by decide) (by decide) (by show (0 : Int) < _; decide) 0 p0.1 (pduN (cfR 0) 1) p0.2 (pduZ (cfR 0) 0 1 (fun _ => 0)) (by decide) hp0.2.1 (fun j _ => pduZ_lt (fun q hq => nf_lt (cfR_ok 0).key hq) (fun _ _ => by omega) j) hp0.1 (fun a ha h => by have := hp0.2.2 a ha; have := HW5.out _ h; omega))
      have HRC2 := Lib.hid (show ∀ (R9 : Nat → Prop) (l9 : List SE) (W9 : World), RxM W9 g5 (kS 5 X5 0 1 1 [] false 0 0 0) (fun k => k = g5 ∨ k = mS5 ∨ k = mU5 ∨ k = eb5) R9 mS5 l9 mU5 eb5 → KeepF (fun k => k = g5 ∨ k = mS5 ∨ k = mU5 ∨ k = eb5) wr W9 → Calls Tryz.prog 11 #[.pointer (some ⟨g5, 0, none⟩), .int .i64 1, .slice p2.1 (pduN (cfR 0) 1) p2.2] W9 (RecvO g5 (kS 5 X5 0 1 1 [] false 0 0 0) (fun k => k = g5 ∨ k = mS5 ∨ k = mU5 ∨ k = eb5) R9 mS5 mU5 eb5 1 (pduN (cfR 0) 1) (pduZ (cfR 0) 2 1 (fun _ => 2)) W9) from fun R9 l9 W9 hM hK => by
        have hq := hp2.keep hK (fun a ha h => by have := hp2.2.2 a ha; have := HW5.out _ h; omega)
        have hl0 : l9.length ≤ 12 := by
          have h1 := congrArg List.length hM.lv
          rw [List.length_map] at h1
          rw [h1]
          show 0 ≤ 12
          decide
        exact recv_plain g5 _ _ R9 mS5 l9 mU5 eb5 W9 hM 5 rfl (by decide) hl0 (by show (0 : Int) < _; decide) 1 p2.1 (pduN (cfR 0) 1) p2.2 (pduZ (cfR 0) 2 1 (fun _ => 2)) (by decide) hq.2.1 (fun j _ => pduZ_lt (fun q hq => nf_lt (cfR_ok 0).key hq) (fun _ _ => by omega) j) hq.1 (fun a ha h => by have := hq.2.2 a ha; have := HW5.out _ h; omega))
      have HTK := Lib.hid (show ∀ (s : RS) (R9 : Nat → Prop) (l9 : List SE) (W9 : World) (t : Int), RxM W9 g5 s (fun k => k = g5 ∨ k = mS5 ∨ k = mU5 ∨ k = eb5) R9 mS5 l9 mU5 eb5 → s.C = cfR 5 → s.L.length ≤ 12 → Calls Tryz.prog 16 #[.pointer (some ⟨g5, 0, none⟩), .int .i64 t] W9 (TickO g5 s (fun k => k = g5 ∨ k = mS5 ∨ k = mU5 ∨ k = eb5) R9 mS5 mU5 eb5 t W9) from fun s R9 l9 W9 t hM hC hL => by
        have h1 := congrArg List.length hM.lv
        rw [List.length_map] at h1
        exact tick_ok g5 s _ R9 mS5 l9 mU5 eb5 W9 hM (by rw [hC]; show (0 : Int) ≤ 5 ∧ (5 : Int) ≤ _; decide) (by omega) t)
      have HA2 := Lib.hid (show ∀ W', KeepF (fun k => k = g5 ∨ k = mS5 ∨ k = mU5 ∨ k = eb5) wr W' → W'.cell? ⟨ab, ao + 2, none⟩ = some (.slice p2.1 (pduN (cfR 0) 1) p2.2) from fun W' hW => (hW.cell (p := ⟨ab, ao + 2, none⟩) hab (fun h => by have h1 := HW5.out _ h; simp only at h1; omega)).trans cA2)
      subst hAA
      clear hpd hl0 hl2 hp0 hp2 hSLr cA2 habw
      have k4 : ¬ (4 : Int) < 4 := by decide
      go_upto_region 15 with (go_at_call 11; refine (HRC1.out).mono ?_; rintro e u1 ⟨R1, l1, A1, c1, lo1, rfl, hM1, hm1, hp1, hT1, hr1, hr1b, hk1⟩; rw [HX1.out] at hm1 hT1 ⊢; have HM1 := Lib.hid (And.intro hM1 (And.intro hm1 hp1)); have HT1 := Lib.hid hT1; have HR1 := Lib.hid hr1; have HK1 := Lib.hid hk1; clear hM1 hm1 hp1 hT1 hr1 hr1b hk1)
      have HRC2' := Lib.hid (HRC2.out R1 l1 u1 HT1.out HK1.out)
      have cA2 := HA2.out u1 HK1.out
      go_upto_region 16 with (go_at_call 11; refine (HRC2'.out).mono ?_; rintro e u2 ⟨R2, l2, A2, c2, lo2, rfl, hM2, hm2, hp2, hT2, hr2, hr2b, hk2⟩; rw [HX2.out] at hm2 hT2 ⊢; have HM2 := Lib.hid (And.intro hM2 (And.intro hm2 hp2)); have HT2 := Lib.hid hT2; have HR2 := Lib.hid (And.intro hr2 hr2b); have HK2 := Lib.hid hk2; clear hM2 hm2 hp2 hT2 hr2 hr2b hk2)
      have HTK1 := Lib.hid (HTK.out _ R2 l2 u2 5 HT2.out rfl (by show 1 ≤ 12; decide))
      clear cA0 cA2
      go_upto_region 17 with (go_at_call 16; refine (HTK1.out).mono ?_; rintro e u3 ⟨l3, A3, c3, lo3, rfl, hM3, hm3, hp3, hT3, hk3⟩; rw [HX3.out] at hm3 hT3 ⊢; have HM3 := Lib.hid (And.intro hM3 (And.intro hm3 hp3)); have HT3 := Lib.hid hT3; have HK3 := Lib.hid hk3; clear hM3 hm3 hp3 hT3 hk3)
      have HTK2 := Lib.hid (HTK.out _ R2 l3 u3 6 HT3.out rfl (by show 1 ≤ 12; decide))
      go_upto_region 18 with (go_at_call 16; refine (HTK2.out).mono ?_; rintro e u4 ⟨l4, A5, c5, lo4, rfl, hM4, hm4, hp4, hT4, hk4'⟩; rw [HX4.out] at hm4 hT4 ⊢; have HM4 := Lib.hid (And.intro hM4 (And.intro hm4 hp4)); have HT4 := Lib.hid hT4; have HK4 := Lib.hid hk4'; clear hM4 hm4 hp4 hT4 hk4')
      have hk24 : KeepF (fun k => k = g5 ∨ k = mS5 ∨ k = mU5 ∨ k = eb5) u1 u4 := (HK2.out.trans HK3.out (fun _ _ h => h)).trans HK4.out (fun _ _ h => h)
      have hk34 : KeepF (fun k => k = g5 ∨ k = mS5 ∨ k = mU5 ∨ k = eb5) u2 u4 := HK3.out.trans HK4.out (fun _ _ h => h)
      have hk14 : KeepF (fun k => k = g5 ∨ k = mS5 ∨ k = mU5 ∨ k = eb5) wr u4 := HK1.out.trans hk24 (fun _ _ h => h)
      have HK14 := Lib.hid hk14
      have hlow : w3.heap.size ≤ wr.heap.size ∧ w3.heap.size ≤ u1.heap.size ∧ w3.heap.size ≤ u2.heap.size ∧ w3.heap.size ≤ u3.heap.size := by
        have h1 := HKR.out.size
        have h2 := HK1.out.size
        have h3 := HK2.out.size
        have h4 := HK3.out.size
        omega
      have hG : ∀ (A : Option Addr) (c : Nat) (lo : List SE) (R' : Nat → Prop) (V0 u : World) (s : RS) (l' : List SE), OutM u V0.heap.size A c lo → (∀ x, x ∈ lo → Pkt u R' x.A x.v.n x.c x.v.z) → RxM u g5 s (fun k => k = g5 ∨ k = mS5 ∨ k = mU5 ∨ k = eb5) R' mS5 l' mU5 eb5 → w3.heap.size ≤ V0.heap.size → KeepF (fun k => k = g5 ∨ k = mS5 ∨ k = mU5 ∨ k = eb5) u u4 → ∀ V, KeepF (fun _ => False) u4 V → ∀ (Bw : Option Addr) (m cb : Nat) (f : Nat → Int), Row V V.heap.size Bw m (fun j => .int .u8 (f j)) → lo.length = m → m ≤ 1000000 → (∀ (k : Nat) (e : SE), lo[k]? = some e → e.v.n = 1 ∧ e.v.z 0 = f k) → Calls Tryz.prog 29 #[.slice A lo.length c, .int .i64 0, .slice Bw m cb] V fun e w' => e = .returned (.bool true) ∧ KeepF (fun _ => False) V w' := fun A c lo R' V0 u s l' hO hP hT hV hK V hKV Bw m cb f hB hm hm9 hv =>
        gets_yes A c lo R' Bw m cb f V ((hO.1.keepF hK (fun a ha h => by have h1 := hO.2 a ha; have h2 := HW5.out _ h; omega)).keepF hKV (fun _ _ h => h)) (fun x hx => ((hP x hx).keep hK (fun k h hr => hT.dis k h hr)).keep hKV (fun _ h => h.elim)) hB hm hm9 hv
      have HG1 := Lib.hid (hG A1 c1 lo1 R1 wr u1 _ l1 HM1.out.1 HM1.out.2.2 HT1.out hlow.1 hk24)
      have HG2 := Lib.hid (hG A2 c2 lo2 R2 u1 u2 _ l2 HM2.out.1 HM2.out.2.2 HT2.out hlow.2.1 hk34)
      have HG3 := Lib.hid (hG A3 c3 lo3 R2 u2 u3 _ l3 HM3.out.1 (fun x hx => HM3.out.2.2 x hx) HT3.out hlow.2.2.1 HK4.out)
      have HG4 := Lib.hid (hG A5 c5 lo4 R2 u3 u4 _ l4 HM4.out.1 (fun x hx => HM4.out.2.2 x hx) HT4.out hlow.2.2.2 KeepF.refl)
      have one : ∀ (lo : List SE) (k : Nat), lo.map (·.v) = [sv1 5 k] → lo.length = 1 ∧ ∀ (j : Nat) (e : SE), lo[j]? = some e → e.v.n = 1 ∧ e.v.z 0 = (k : Int) := fun lo k h => by
        have h1 := congrArg List.length h
        rw [List.length_map] at h1
        refine ⟨h1, fun j e he => ?_⟩
        have h2 : (lo.map (·.v))[j]? = some e.v := by rw [List.getElem?_map, he]; rfl
        rw [h] at h2
        rcases j with _ | j
        · have h3 : sv1 5 k = e.v := by simpa using h2
          rw [← h3]
          exact ⟨rfl, sv1_z 5 k⟩
        · simp at h2
      have nol : ∀ (lo : List SE), lo.map (·.v) = [] → lo.length = 0 ∧ ∀ (j : Nat) (e : SE), lo[j]? = some e → e.v.n = 1 ∧ e.v.z 0 = 0 := fun lo h => by
        have h1 : lo = [] := by simpa using h
        subst h1
        exact ⟨rfl, fun j e he => by simp at he⟩
      have L1 := Lib.hid (one lo1 0 HM1.out.2.1)
      have L2 := Lib.hid (nol lo2 HM2.out.2.1)
      have L3 := Lib.hid (nol lo3 HM3.out.2.1)
      have L4 := Lib.hid (one lo4 2 HM4.out.2.1)
      have hTg : RxM u4 g (kst X 4) (fun k => k = g ∨ k = mS ∨ k = mU ∨ k = eb) R mS l mU eb := HTr.out.keepF hk14 (fun q h => ⟨fun h5 => by
        have h1 := HWL.out q h5
        have h2 := HF5.out
        rcases h with rfl | rfl | rfl | rfl <;> omega, fun hr => by
        have h1 := HRR.out q hr
        have h2 := HW5.out q h
        have h3 := HB8.out.size
        omega⟩)
      have HDU := Lib.hid (dups_ok g (kst X 4) _ R mS l mU eb u4 hTg)
      have hd1 : (kst X 4).dup = 1 := rfl
      rw [hd1] at HDU
      have E0 : KeepF (fun _ => False) u4 (u4.alloc (.cells #[.int .u8 0] 5)) := (KeepF.refl (F := fun _ => False) (w := u4)).alloc _
      have HE0 := Lib.hid E0
      have HG1a := Lib.hid (HG1.out _ E0 (some ⟨u4.heap.size, 0, none⟩) 1 1 (fun _ => 0) (row_lit u4 #[.int .u8 0] 1 (fun _ => 0) rfl (fun j hj => by obtain rfl : j = 0 := (by omega); rfl)) L1.out.1 (by decide) L1.out.2)
      have HG2a := Lib.hid (fun V (hV : KeepF (fun _ => False) u4 V) => HG2.out V hV none 0 0 (fun _ => 0) (fun h => absurd h (by decide)) L2.out.1 (by decide) L2.out.2)
      have HG3a := Lib.hid (fun V (hV : KeepF (fun _ => False) u4 V) => HG3.out V hV none 0 0 (fun _ => 0) (fun h => absurd h (by decide)) L3.out.1 (by decide) L3.out.2)
      have HG4a := Lib.hid (fun V (hV : KeepF (fun _ => False) u4 V) => HG4.out (V.alloc (.cells #[.int .u8 2] 5)) (hV.alloc _) (some ⟨V.heap.size, 0, none⟩) 1 1 (fun _ => 2) (row_lit V #[.int .u8 2] 1 (fun _ => 2) rfl (fun j hj => by obtain rfl : j = 0 := (by omega); rfl)) L4.out.1 (by decide) L4.out.2)
      clear hk24 hk34 hk14 hlow hG one nol hTg hd1 E0
      go_wp2_with (first
        | (go_at_call 30; refine (HK2L.out _).mono ?_; rintro e v5 ⟨rfl, hB⟩; have E5 := Lib.hid hB; clear hB)
        | (go_at_call 29; with_reducible refine (HG4a.out v3 E3.out).mono ?_; rintro e v4 ⟨rfl, hk⟩; have E4 := Lib.hid ((E3.out.alloc _).trans hk (fun _ _ h => h)); clear hk)
        | (go_at_call 29; with_reducible refine (HG3a.out v2 E2.out).mono ?_; rintro e v3 ⟨rfl, hk⟩; have E3 := Lib.hid (E2.out.trans hk (fun _ _ h => h)); clear hk)
        | (go_at_call 29; with_reducible refine (HG2a.out v1 E1.out).mono ?_; rintro e v2 ⟨rfl, hk⟩; have E2 := Lib.hid (E1.out.trans hk (fun _ _ h => h)); clear hk)
        | (go_at_call 29; with_reducible refine (HG1a.out).mono ?_; rintro e v1 ⟨rfl, hk⟩; have E1 := Lib.hid (HE0.out.trans hk (fun _ _ h => h)); clear hk)
        | (go_at_call 14; refine (HDU.out).mono ?_; rintro e v0 ⟨rfl, hv0⟩; rw [← hv0]; clear hv0 v0))
      go_ret
      have x1 := HB.out.trans (HB5.out.mono HB.out.size)
      have x2 := x1.trans (HBW.out.mono x1.size)
      have x3 := x2.trans (HB8.out.mono x2.size)
      have x4 := KeepF.below x3 HKR.out (fun k hk => by
        have h1 := HF.out
        rcases hk with rfl | rfl | rfl | rfl <;> omega) x3.size
      have x5 := KeepF.below x4 HK14.out (fun k hk => by
        have h1 := HF5.out
        have h2 := HB.out.size
        rcases hk with rfl | rfl | rfl | rfl <;> omega) x4.size
      have x6 := KeepF.below x5 E4.out (fun _ h => h.elim) x5.size
      exact ⟨rfl, x6.trans (E5.out.mono x6.size)⟩
    have hs23 := HB5.out.size
    have hs48 := HB8.out.size
    have hkl : kord k < L.length := by rw [HL.out]; unfold kord; split <;> (try split) <;> omega
    obtain ⟨p, hp⟩ : ∃ p, L[kord k]? = some p := ⟨_, List.getElem?_eq_getElem hkl⟩
    have hpd := (HP.out _ _ hp).1
    have hpw : Pdu1 wr w3.heap.size (cfR 0) (kord k) p := ((hpd.keep (KeepF.of_below (F := fun _ => False) HB8.out) (fun _ _ h => h)).keep HKR.out (fun a ha h => by have := hpd.2.2 a ha; have := HWL.out _ h; omega))
    have hSLr : SL wr 41 1 A4 3 c4 (L.map (pv (cfR 0))) := (HSL.out.next HB8.out).keepF HKR.out (fun a ha h => by have := HA.out a ha; have := HWL.out _ h; omega)
    obtain ⟨ab, ao, hAA, hab⟩ := hSLr.some_ (by omega)
    have cA : wr.cell? ⟨ab, ao + kord k, none⟩ = some (.slice p.1 (pduN (cfR 0) 1) p.2) := by
      rw [hSLr.cell hAA (by rw [HL.out] at hkl; omega), List.getElem?_map, hp]
      rfl
    have hl12 : l.length ≤ 12 := by
      have h1 := congrArg List.length HTR.out.lv
      rw [List.length_map] at h1
      have := kst_L X k
      omega
    have HREC := Lib.hid (recv_plain g (kst X k) _ R mS l mU eb wr HTR.out 0 (kst_C X k) (by decide) hl12 (by have := kst_dup X k; omega) 0 p.1 (pduN (cfR 0) 1) p.2 (pduZ (cfR 0) (kord k) 1 (fun _ => kord k)) (by decide) hpw.2.1 (fun j _ => pduZ_lt (fun q hq => nf_lt (cfR_ok 0).key hq) (fun _ _ => by unfold kord; split <;> (try split) <;> omega) j) hpw.1 (fun a ha h => by have := hpw.2.2 a ha; have := HWL.out _ h; omega))
    have HX := Lib.hid (k_step X k hk4)
    have hb4w : ∀ q, (q = g ∨ q = mS ∨ q = mU ∨ q = eb) → q < b := fun q h => by have := HWL.out _ h; have := HBB.out; have := HBW.out.size; omega
    have o8 := HKR.out.blk HO8.out.1 (fun h => by have := hb4w _ h; omega)
    have v8 := HKR.out.blk HO8.out.2.1 (fun h => by have := hb4w _ h; omega)
    have x8 := HKR.out.blk HO8.out.2.2.1 (fun h => by have := hb4w _ h; omega)
    have y8 := HKR.out.blk HO8.out.2.2.2 (fun h => by have := hb4w _ h; omega)
    have co : wr.cell? ⟨b + 5, k, none⟩ = some (.int .i64 (kord k : Nat)) := (o8.cell k).trans (by
      rcases (by omega : k = 0 ∨ k = 1 ∨ k = 2 ∨ k = 3) with rfl | rfl | rfl | rfl <;> rfl)
    have cv : ∀ W', KeepF (fun k => k = g ∨ k = mS ∨ k = mU ∨ k = eb) wr W' → W'.cell? ⟨b + 4, k, none⟩ = some (.slice (some ⟨b + k, 0, none⟩) (kout k).length (kout k).length) ∧ Row W' W'.heap.size (some ⟨b + k, 0, none⟩) (kout k).length (fun j => .int .u8 (kwant k j)) := fun W' hW => by
      have v9 := hW.blk v8 (fun h => by have := hb4w _ h; omega)
      have x9 := hW.blk x8 (fun h => by have := hb4w _ h; omega)
      have y9 := hW.blk y8 (fun h => by have := hb4w _ h; omega)
      rcases (by omega : k = 0 ∨ k = 1 ∨ k = 2 ∨ k = 3) with rfl | rfl | rfl | rfl
      · exact ⟨v9.cell 0, fun _ => ⟨b, 0, rfl, x9.lt, fun j hj => by
          obtain rfl : j = 0 := by have : j < 1 := hj; omega
          exact x9.cell 0⟩⟩
      · exact ⟨v9.cell 1, fun h => absurd h (by show ¬ 0 < 0; omega)⟩
      · exact ⟨v9.cell 2, fun _ => ⟨b + 2, 0, rfl, y9.lt, fun j hj => by
          have : j < 2 := hj
          rcases (by omega : j = 0 ∨ j = 1) with rfl | rfl
          · exact y9.cell 0
          · exact y9.cell 1⟩⟩
      · exact ⟨v9.cell 3, fun h => absurd h (by show ¬ 0 < 0; omega)⟩
    have HCV := Lib.hid cv
    obtain ⟨ko, hko⟩ : ∃ q, q = kord k := ⟨_, rfl⟩
    have hko3 : ko < 3 := by rw [hko]; unfold kord; split <;> (try split) <;> omega
    rw [← hko] at co cA HREC HX
    have k0 : (0 : Int) ≤ (k : Int) := by omega
    have k1 : (k : Int) < 4 := by omega
    have q0 : (0 : Int) ≤ (ko : Int) := by omega
    have q1 : (ko : Int) < 3 := by omega
    subst hAA
    clear o8 v8 x8 y8 cv hpw hSLr hp hpd hkl hko
    go_upto_region 12 with (go_at_call 11; refine (HREC.out).mono ?_; rintro e w9 ⟨R9, l9, A9, c9, lo9, rfl, hM9, hm9, hp9, hT9, hr9, hr9b, hk9⟩; rw [HX.out] at hm9 hT9 ⊢; have HM9 := Lib.hid (And.intro hM9 (And.intro hm9 hp9)); have HT9 := Lib.hid hT9; have HR9 := Lib.hid hr9; have HK9 := Lib.hid hk9; clear hM9 hm9 hp9 hT9 hr9 hr9b hk9)
    have hsl9 := HM9.out.2.1
    obtain ⟨cv4, rv4⟩ := HCV.out w9 HK9.out
    have hlen9 : lo9.length = (kout k).length := by rw [← HM9.out.2.1, List.length_map]
    have HGT := Lib.hid (gets_yes A9 c9 lo9 R9 (some ⟨b + k, 0, none⟩) (kout k).length (kout k).length (kwant k) w9 HM9.out.1.1 HM9.out.2.2 rv4 hlen9 (by have : (kout k).length ≤ 2 := (by unfold kout; split <;> (try split) <;> decide); omega) (fun j e he => by
      have h1 : (kout k)[j]? = some e.v := by rw [← HM9.out.2.1, List.getElem?_map, he]; rfl
      exact k_out k hk4 j e.v h1))
    clear hsl9 rv4 hlen9
    go_wp2_with (go_at_call 29; refine (HGT.out).mono ?_; rintro e w10 ⟨rfl, hk10⟩; have HK10 := Lib.hid hk10; clear hk10)
    go_roundw
    case rel => exact ⟨k + 1, l9, R9, by omega, by go_num, HT9.out.keepF HK10.out (fun _ h => h.elim), (HKR.out.trans HK9.out (fun _ _ h => h)).trans HK10.out (fun _ _ h => h.elim), fun q hq => by
      rcases HR9.out q hq with h | h
      · exact HRR.out q h
      · have := HKR.out.size; omega⟩
    case measure => simp [intOf]; omega
end Go.Proofs.YtmdpiajhfohagaaGreat
namespace Go.Proofs.YtmdpiajhfohagaaGreat
open Go.RowKit
set_option linter.unusedVariables false
set_option linter.unusedSimpArgs false
attribute [local go_sem ↓] Go.wp_at_zero Go.wp_at_succ
attribute [local go_sem] Oper.semAt_some

def zRx : Array Value := #[.int .i64 0, .int .i64 0, .int .u8 0, .int .u8 0, .int .u8 0, .int .u8 0, .int .u8 0, .int .u8 0, .int .u8 0, .int .u8 0, .int .u8 0, .int .u8 0, .int .u8 0, .int .u8 0, .int .u8 0, .int .u8 0, .int .u8 0, .int .u8 0, .int .u8 0, .int .u8 0, .int .u8 0, .int .u8 0, .int .u8 0, .int .u8 0, .int .u8 0, .int .u8 0, .int .u8 0, .int .u8 0, .int .u8 0, .int .u8 0, .int .u8 0, .int .u8 0, .int .u8 0, .int .u8 0, .bool false, .bool false, .bool false, .int .i64 0, .int .i64 0, .bool false, .int .i64 0, .int .u64 0, .int .u64 0, .map none, .bool false, .int .u64 0, .int .i64 0, .map none, .pointer none, .slice none 0 0, .int .i64 0]
/-- a receiver that is nil or has only zero cells -/
def RZ (p : Value) (w : World) : Prop := p = .pointer none ∨ ∃ g, p = .pointer (some ⟨g, 0, none⟩) ∧ Blk w g 54 zRx
theorem RZ.none {p : Value} {w : World} (h : RZ p w) : TNone p w := by
  rcases h with rfl | ⟨g, rfl, h⟩
  · exact .inl rfl
  · exact .inr ⟨g, rfl, h.lt, h.cell 39⟩
theorem RZ.below {p : Value} {w w' : World} (h : RZ p w) (hb : Below w.heap.size w w') : RZ p w' := by
  rcases h with rfl | ⟨g, rfl, h⟩
  · exact .inl rfl
  · exact .inr ⟨g, rfl, h.below hb h.lt⟩
theorem rat_none (p : Value) (t : Int) (w : World) (h : TNone p w) : Calls Tryz.prog 35 #[p, .int .i64 t] w fun e w' => e = .returned (.int .i64 1) ∧ w = w' := by
  have HN := Lib.hid (rnone_ok p w h)
  clear h
  go_enter Tryz.func35, Tryz.ntmps35
  go_wp2_with (go_at_call 43; refine (HN.out).mono ?_; rintro e w2 ⟨rfl, rfl⟩)
  go_ret
  exact ⟨rfl, rfl⟩
theorem rtick_none (p : Value) (t : Int) (w : World) (h : TNone p w) : Calls Tryz.prog 16 #[p, .int .i64 t] w fun e w' => e = .returned (.tuple #[.slice none 0 0, .int .i64 1]) ∧ Below w.heap.size w w' := by
  have HN := Lib.hid (rat_none p t w h)
  clear h
  go_enter Tryz.func16, Tryz.ntmps16
  go_wp2_with (go_at_call 35; refine (HN.out).mono ?_; rintro e w2 ⟨rfl, rfl⟩)
  go_ret2
  exact ⟨rfl, Below.refl _ _⟩
theorem rstat_none (p : Value) (w : World) (h : TNone p w) : Calls Tryz.prog 18 #[p] w fun e w' => e = .returned (.tuple #[.int .u64 0, .slice none 0 0]) ∧ Below w.heap.size w w' := by
  have HN := Lib.hid (rnone_ok p w h)
  clear h
  go_enter Tryz.func18, Tryz.ntmps18
  go_wp2_with (go_at_call 43; refine (HN.out).mono ?_; rintro e w2 ⟨rfl, rfl⟩)
  go_ret2
  exact ⟨rfl, Below.refl _ _⟩
theorem rrekey_none (p : Value) (K C : Array Value) (w : World) (h : TNone p w) : Calls Tryz.prog 19 #[p, .agg K, .agg C] w fun e w' => e = .returned (.int .i64 1) ∧ Below w.heap.size w w' := by
  have HN := Lib.hid (fun (V : World) (hb : Below w.heap.size w V) => rnone_ok p V (h.below hb))
  clear h
  go_enter Tryz.func19, Tryz.ntmps19
  go_wp2_with (go_at_call 43; refine (HN.out _ (((Below.refl _ w).alloc (Nat.le_refl _) _).alloc (by simp) _)).mono ?_; rintro e w2 ⟨rfl, rfl⟩)
  go_ret
  exact ⟨rfl, ((Below.refl _ w).alloc (Nat.le_refl _) _).alloc (by simp) _⟩
theorem rfresh_none (p : Value) (K : Array Value) (w : World) (h : TNone p w) : Calls Tryz.prog 20 #[p, .agg K] w fun e w' => e = .returned (.bool false) ∧ Below w.heap.size w w' := by
  have HN := Lib.hid (fun (V : World) (hb : Below w.heap.size w V) => rnone_ok p V (h.below hb))
  clear h
  go_enter Tryz.func20, Tryz.ntmps20
  go_upto_region 1 with (fail)
  refine wp_let (fun V => Below w.heap.size w V) ((Below.refl _ w).alloc (Nat.le_refl _) _) ?_
  intro V hV
  have HV := Lib.hid hV
  clear hV
  go_quiet ((go_at_call 43; exact Calls.quiet_of_same ((HN.out _ (below_drewN HV.out _)).mono (fun _ _ h => ⟨h.1, h.2.symm⟩))))
  go_wp2
  go_ret
  exact ⟨rfl, HV.out.trans (below_drewN (Below.refl _ _) _)⟩
theorem rcopy_none (p : Value) (w : World) (h : TNone p w) : Calls Tryz.prog 21 #[p] w fun e w' => e = .returned (.pointer none) ∧ Below w.heap.size w w' := by
  have HN := Lib.hid (rnone_ok p w h)
  clear h
  go_enter Tryz.func21, Tryz.ntmps21
  go_wp2_with (go_at_call 43; refine (HN.out).mono ?_; rintro e w2 ⟨rfl, rfl⟩)
  go_ret
  exact ⟨rfl, Below.refl _ _⟩
theorem rfeed_none (p : Value) (w : World) (h : TNone p w) : Calls Tryz.prog 22 #[p] w fun e w' => e = .returned (.slice none 0 0) ∧ Below w.heap.size w w' := by
  have HN := Lib.hid (rnone_ok p w h)
  clear h
  go_enter Tryz.func22, Tryz.ntmps22
  go_wp2_with (go_at_call 43; refine (HN.out).mono ?_; rintro e w2 ⟨rfl, rfl⟩)
  go_ret
  exact ⟨rfl, Below.refl _ _⟩
theorem rdups_zero (p : Value) (w : World) (h : RZ p w) : Calls Tryz.prog 14 #[p] w fun e w' => e = .returned (.int .i64 0) ∧ w = w' := by
  rcases h with rfl | ⟨g, rfl, hB⟩
  · go_enter Tryz.func14, Tryz.ntmps14
    go_wp2
    go_ret
    exact ⟨rfl, rfl⟩
  · have c := (hB.cell 50).trans (show zRx[50]? = some (.int .i64 0) from rfl)
    clear hB
    go_enter Tryz.func14, Tryz.ntmps14
    go_wp2
    go_ret
    exact ⟨rfl, rfl⟩
theorem rexport_none (p : Value) (w : World) (h : TNone p w) : Calls Tryz.prog 13 #[p] w fun e w' => e = .returned (.agg #[.int .u64 0, .int .u64 0, .slice none 0 0]) ∧ Below w.heap.size w w' := by
  have HN := Lib.hid (fun (V : World) (hb : Below w.heap.size w V) => rnone_ok p V (h.below hb))
  clear h
  go_enter Tryz.func13, Tryz.ntmps13
  go_upto_region 1 with (fail)
  refine wp_let (fun V => Blk V w.heap.size 37 #[.int .u64 0, .int .u64 0, .slice none 0 0] ∧ Below w.heap.size w V) ⟨Blk.new _ _ _, (Below.refl _ w).alloc (Nat.le_refl _) _⟩ ?_
  rintro V ⟨v1, v2⟩
  have x0 := v1.cell 0
  have x1 := v1.cell 1
  have x2 := v1.cell 2
  simp only [List.getElem?_toArray, List.getElem?_cons_zero, List.getElem?_cons_succ] at x0 x1 x2
  have f0 := v1.frozen 0
  have f1 := v1.frozen 1
  have f2 := v1.frozen 2
  have HB := Lib.hid v1
  have HV := Lib.hid v2
  obtain ⟨fb, hfb⟩ : ∃ fb, fb = w.heap.size := ⟨_, rfl⟩
  have HFB := Lib.hid hfb
  rw [← hfb] at x0 x1 x2 f0 f1 f2 HB ⊢
  clear v1 v2 hfb
  go_wp2_with (go_at_call 43; refine (HN.out _ HV.out).mono ?_; rintro e w2 ⟨rfl, rfl⟩)
  have hB := (((HB.out.set_ 0 (.int .u64 0)).set_ 1 (.int .u64 0)).set_ 2 (.slice none 0 0))
  have hB' : Blk (((V.setCell ⟨fb, 0, none⟩ (.int .u64 0)).setCell ⟨fb, 1, none⟩ (.int .u64 0)).setCell ⟨fb, 2, none⟩ (.slice none 0 0)) fb 37 #[.int .u64 0, .int .u64 0, .slice none 0 0] := by simpa using hB
  refine bodyPost_ret (v := .agg #[.int .u64 0, .int .u64 0, .slice none 0 0]) ?_ ?_ ?_
  case refine_1 => exact results_cell_row (g := fb) (t := 37) (fr := (0, 0)) Tryz.results13 _ _ _ _ rfl hB' Tryz.underlying37 rfl (by kernel_rfl)
  case refine_2 => rfl
  have hw : w.heap.size ≤ fb := Nat.le_of_eq HFB.out.symm
  exact ⟨rfl, ((HV.out.setCell (p := ⟨fb, 0, none⟩) hw _).setCell (p := ⟨fb, 1, none⟩) hw _).setCell (p := ⟨fb, 2, none⟩) hw _⟩
set_option maxRecDepth 100000 in
set_option maxHeartbeats 3200000 in
theorem recv_none (p : Value) (t : Int) (x : Value) (w : World) (h : TNone p w) : Calls Tryz.prog 11 #[p, .int .i64 t, x] w fun e w' => e = .returned (.tuple #[.slice none 0 0, .int .i64 1]) ∧ Below w.heap.size w w' := by
  obtain ⟨ob, hob⟩ : ∃ ob, ob = w.heap.size := ⟨_, rfl⟩
  obtain ⟨W1, hW1⟩ : ∃ W1, W1 = (w.alloc (.cells #[.slice none 0 0] 38)).alloc (.cells #[.int .i64 0] 31) := ⟨_, rfl⟩
  have hB1 : Below w.heap.size w W1 := by rw [hW1]; exact ((Below.refl _ w).alloc (Nat.le_refl _) _).alloc (by simp) _
  have hO : Blk W1 ob 38 #[.slice none 0 0] := by rw [hW1, hob]; exact (Blk.new _ _ _).alloc _
  have hE : Blk W1 (ob + 1) 31 #[.int .i64 0] := by rw [hW1, hob]; exact blk_atA _ _ _ _ (by simp)
  have HN := Lib.hid (rat_none p t W1 (h.below hB1))
  have HO := Lib.hid hO
  have HE := Lib.hid hE
  have HB1 := Lib.hid hB1
  have HWW := Lib.hid hW1
  have HOB := Lib.hid hob
  clear h hO hE hB1 hW1
  refine (callsIn_wide (n := 9)).1 ?_
  refine callsIn_of_wp_marks Tryz.func11 rfl trivial ?_ rfl
  simp only [Tryz.ntmps11, List.size_toArray, List.length_cons, List.length_nil, Nat.reduceAdd, Nat.reduceSub, Array.replicate_succ, Array.replicate_zero, List.push_toArray, List.append_toArray, List.nil_append, List.cons_append]
  refine wpIn_wide.2 ?_
  go_upto_region 1 with (fail)
  rw [← HWW.out, ← HOB.out]
  clear hob
  have f1 := HO.out.frozen 0
  have f2 := HE.out.frozen 0
  have o1 := HO.out.cell 0
  have o2 := HE.out.cell 0
  go_wp2_with (go_at_call 35; refine (HN.out).mono ?_; rintro e w2 ⟨rfl, rfl⟩)
  have k3 := keep_set W1 ob 0 (.slice none 0 0)
  have k4 := keep_set (W1.setCell ⟨ob, 0, none⟩ (.slice none 0 0)) (ob + 1) 0 (.int .i64 1)
  have q1 := (k4.blk (HO.out.set_ 0 (.slice none 0 0)) (by omega)).cell 0
  have q2 := ((k3.blk HE.out (by omega)).set_ 0 (.int .i64 1)).cell 0
  simp at q1 q2
  refine ⟨.tuple #[.slice none 0 0, .int .i64 1], by simp [results, Tryz.results11, go_sem, q1, q2], ?_⟩
  have hw : w.heap.size ≤ ob := Nat.le_of_eq HOB.out.symm
  exact ⟨rfl, (HB1.out.setCell (p := ⟨ob, 0, none⟩) hw _).setCell (p := ⟨ob + 1, 0, none⟩) (Nat.le_succ_of_le hw) _⟩
end Go.Proofs.YtmdpiajhfohagaaGreat
