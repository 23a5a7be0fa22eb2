/- pdcptx.build without compression and integrity. Printed by gen/xzf.py. -/
import Derived.Test.YtiffminhlimajaaGreatZE
import Derived.Test.YtiffminhlimajaaGreatVV
namespace Go.Proofs.YtiffminhlimajaaGreat
open Go.RowKit
set_option linter.unusedVariables false
attribute [local go_sem ↓] Go.wp_at_zero Go.wp_at_succ

/-- what build answers -/
def BuildC (cf : Cfg) (ct n : Nat) (z : Nat → Int) (w : World) (e : Ending) (w' : World) : Prop :=
  ∃ A c, e = .returned (.tuple #[.slice A (pduN cf n) c, .int .i64 0]) ∧ pduN cf n ≤ c ∧ Fresh w.heap.size A ∧ Row w' w'.heap.size A (pduN cf n) (fun j => .int .u8 ((pduZ cf ct n (nf z) j : Nat) : Int)) ∧ Below w.heap.size w w'
theorem Cfg.Ok.keyN {C : Cfg} (hok : C.Ok) : B16 (nf C.key) := fun j hj => nf_lt hok.key hj
theorem pdu_plain {cf : Cfg} {ct n : Nat} {z : Nat → Nat} (h : cf.ig = false) {j : Nat} (hj : j < n) : cryF (nf cf.key) ct cf.b.toNat cf.d.toNat (plainZ cf ct n z) j = cryF (nf cf.key) ct cf.b.toNat cf.d.toNat z j := by
  unfold cryF plainZ catF
  rw [if_pos hj]
theorem sl_row {w : World} {A : Option Addr} {n c : Nat} {xs : List Value} {v : Nat → Value} (h : SL w 5 1 A n c xs) (hx : ∀ j, j < n → xs[j]? = some (v j)) : Row w w.heap.size A n v := fun hn => by
  obtain ⟨b, o, hA, hb⟩ := h.some_ hn
  exact ⟨b, o, hA, hb, fun j hj => (h.cell hA (by omega)).trans (hx j hj)⟩
set_option maxRecDepth 100000 in
set_option maxHeartbeats 1600000 in
theorem tbuild_plain (g : Nat) (s : TS) (W R : Nat → Prop) (w : World) (h : TxI w g s W R) (hok : s.C.Ok) (hv : s.C.Valid) (hig : s.C.ig = false) (hcm : s.C.cm = false) (ct : Nat) (hct : ct < 4294967296) (A : Option Addr) (n c : Nat) (z : Nat → Int) (hp1 : 1 ≤ n) (hp9 : n ≤ 9000) (hr : Row w w.heap.size A n (fun j => .int .u8 (z j))) (hz : ∀ j, j < n → 0 ≤ z j ∧ z j < 256) :
    Calls Tryz.prog 51 #[.pointer (some ⟨g, 0, none⟩), .int .u32 ct, .slice A n c] w (BuildC s.C ct n z w) := by
  obtain ⟨qA, qc, lq, pA, pc, lp, ub, cb, hT⟩ := h
  have HT := Lib.hid hT
  have HR := Lib.hid hr
  have HZ := Lib.hid hz
  have c35 : w.cell? ⟨g, 35, none⟩ = some (.bool false) := (hT.cC (j := 35) (by decide)).trans (by rw [show s.C.cell 35 = .bool s.C.cm from rfl, hcm])
  have c0 : (0 : Int) ≤ (ct : Int) := by omega
  have c1 : (ct : Int) < 4294967296 := by omega
  have HIG := Lib.hid hig
  have HKL := Lib.hid hok.keyN
  obtain ⟨B, hB⟩ : ∃ B : Nat, B = s.C.b.toNat := ⟨_, rfl⟩
  obtain ⟨D, hD⟩ : ∃ D : Nat, D = s.C.d.toNat := ⟨_, rfl⟩
  have HB := Lib.hid hB
  have HD := Lib.hid hD
  have HBI : Hid (s.C.b = (B : Int)) := Lib.hid (by rw [hB]; have := hv.1; omega)
  have HDI : Hid (s.C.d = (D : Int)) := Lib.hid (by rw [hD]; have := hv.2.2.1; omega)
  have HBL : Hid (B < 32) := Lib.hid (by rw [hB]; have := hv.2.1; omega)
  have HDL : Hid (D < 2) := Lib.hid (by rw [hD]; have := hv.2.2.1; omega)
  have HCT := Lib.hid hct
  have HP : Hid (1 ≤ n ∧ n ≤ 9000) := Lib.hid ⟨hp1, hp9⟩
  have HNF := Lib.hid (show (fun j => Value.int .u8 (((nf z j : Nat)) : Int)) = (fun j => Value.int .u8 ((nf z j : Nat) : Int)) from rfl)
  clear hT hr hz hig hB hD hv hct hp1 hp9 hcm HNF
  go_enter Tryz.func51, Tryz.ntmps51
  go_upto_region 8 with (fail)
  obtain ⟨hb, hhb⟩ : ∃ hb, hb = w.heap.size := ⟨_, rfl⟩
  have HHB := Lib.hid hhb
  refine wp_let (fun V => Blk V hb 5 #[.int .u8 (128 + (ct : Int) / 256 % 16), .int .u8 ((ct : Int) % 256)] ∧ Below w.heap.size w V) ⟨by rw [hhb]; exact Blk.new _ _ _, (Below.refl _ w).alloc (Nat.le_refl _) _⟩ ?_
  rintro V ⟨b1, b2⟩
  have B1 := Lib.hid b1
  have B2 := Lib.hid b2
  have HCL := Lib.hid (clone_any A n c z V (by have := HP.out; omega) (HR.out.next b2))
  rw [← hhb]
  clear b1 b2 hhb c35
  go_upto_region 9 with (go_at_call 47; refine (HCL.out).mono ?_; rintro e V2 ⟨A2, c2, rfl, hc2, hR2, hF2, hbk⟩; have HR2 := Lib.hid hR2; have HF2 := Lib.hid hF2; have HBK := Lib.hid hbk; clear hc2 hR2 hF2 hbk)
  have T2 := Lib.hid (HT.out.below (B2.out.trans (HBK.out.mono B2.out.size)))
  have c34 : V2.cell? ⟨g, 34, none⟩ = some (.bool false) := (T2.out.cC (j := 34) (by decide)).trans (by rw [show s.C.cell 34 = .bool s.C.ig from rfl, HIG.out])
  go_upto_region 14 with (fail)
  have HBW := Lib.hid (B2.out.trans (HBK.out.mono B2.out.size))
  have HBH := Lib.hid (B1.out.below HBK.out B1.out.lt)
  obtain ⟨w0, hw0⟩ : ∃ w0, w0 = V2.drew := ⟨_, rfl⟩
  have hb0 : Below V2.heap.size V2 w0 := by rw [hw0]; exact (Below.refl _ _).drew
  have HKR := Lib.hid (show ∀ W', Below V2.heap.size V2 W' → W'.rangeAt g 2 (b16 (nf s.C.key)).toList from fun W' hW j v hv => by
    have hj : j < 16 := by have := (List.getElem?_eq_some_iff.1 hv).1; rw [Array.length_toList, b16_size] at this; exact this
    rw [(T2.out.below hW).cC (j := 2 + j) (by omega), ← hv, Array.getElem?_toList, b16_at _ hj]
    unfold Cfg.cell
    rw [if_neg (by omega), if_neg (by omega), if_pos (by omega), show 2 + j - 2 = j by omega, nf_cast hok.key hj])
  have HC0 := Lib.hid (show ∀ W', Below V2.heap.size V2 W' → W'.cell? ⟨g, 0, none⟩ = some (.int .i64 (B : Int)) from fun W' hW => ((T2.out.below hW).cC (j := 0) (by decide)).trans (by rw [show s.C.cell 0 = .int .i64 s.C.b from rfl, HBI.out]))
  have HC1 := Lib.hid (show ∀ W', Below V2.heap.size V2 W' → W'.cell? ⟨g, 1, none⟩ = some (.int .i64 (D : Int)) from fun W' hW => ((T2.out.below hW).cC (j := 1) (by decide)).trans (by rw [show s.C.cell 1 = .int .i64 s.C.d from rfl, HDI.out]))
  have HS16 : Hid ((Tryz.prog.info? 23).map (·.size) = some (b16 (nf s.C.key)).toList.length) := Lib.hid (by rw [Array.length_toList, b16_size]; kernel_rfl)
  have HUK := Lib.hid Tryz.underlying23
  have HCR := Lib.hid (crypt_ok (nf s.C.key) ct B D HKL.out HCT.out HBL.out HDL.out A2 n c2 (nf z) HP.out.1 (by have := HP.out; omega) (fun j hj => nf_lt HZ.out hj) w0 (Row.congr (HR2.out.next hb0) (fun j hj => by rw [nf_cast HZ.out hj])))
  refine wp_region_held_drew (S := fun w' => Below V2.heap.size V2 w') (by kernel_rfl) ((Below.refl _ V2).drew) (fun hHeld => ?_)
  rw [← hw0]
  rw [← hw0] at hHeld
  clear hw0 c34
  refine wpAnyH_take (i := 0) (oi := ⟨some 93, _, _, _, _, _⟩) (v := .pointer (some ⟨g, 0, none⟩)) rfl (by kernel_rfl) (by kernel_rfl) (by kernel_rfl) (fun _ _ _ h => h) (Or.inl ⟨by rfl, fun W hW => (by rfl)⟩) (by assumption) ?_
  try simp only [Act.put, List.setIfInBounds_toArray, List.set_cons_zero, List.set_cons_succ]
  refine wpAnyH_take (i := 1) (oi := ⟨some 94, _, _, _, _, _⟩) (v := .pointer (some ⟨g, 0, none⟩)) rfl (by kernel_rfl) (by kernel_rfl) (by kernel_rfl) (fun _ _ _ h => h) (Or.inl ⟨by rfl, fun W hW => (by go_simp)⟩) (by assumption) ?_
  try simp only [Act.put, List.setIfInBounds_toArray, List.set_cons_zero, List.set_cons_succ]
  refine wpAnyH_take (i := 2) (oi := ⟨some 95, _, _, _, _, _⟩) (v := .pointer (some ⟨g, 0, none⟩)) rfl (by kernel_rfl) (by kernel_rfl) (by kernel_rfl) (fun _ _ _ h => h) (Or.inl ⟨by rfl, fun W hW => (by go_simp)⟩) (by assumption) ?_
  try simp only [Act.put, List.setIfInBounds_toArray, List.set_cons_zero, List.set_cons_succ]
  refine wpAnyH_take (i := 3) (oi := ⟨some 96, _, _, _, _, _⟩) (v := .pointer (some ⟨g, 2, none⟩)) rfl (by kernel_rfl) (by kernel_rfl) (by kernel_rfl) (fun _ _ _ h => h) (Or.inl ⟨by rfl, fun W hW => (by go_simp)⟩) (by assumption) ?_
  try simp only [Act.put, List.setIfInBounds_toArray, List.set_cons_zero, List.set_cons_succ]
  refine' wpAnyH_take (i := 4) (oi := ⟨some 97, _, _, _, _, _⟩) (v := _) rfl (by kernel_rfl) (by kernel_rfl) (by kernel_rfl) (fun _ _ _ h => h) (yieldsIf_load_mid (by rfl) _ _ rfl g 2 rfl (b16 (nf s.C.key)).toList _ (fun w h => HKR.out w h) HUK.out rfl HS16.out) (by assumption) ?_
  try simp only [Act.put, List.setIfInBounds_toArray, List.set_cons_zero, List.set_cons_succ]
  refine wpAnyH_take (i := 5) (oi := ⟨some 98, _, _, _, _, _⟩) (v := .int .u32 ct) rfl (by kernel_rfl) (by kernel_rfl) (by kernel_rfl) (fun _ _ _ h => h) (Or.inl ⟨by rfl, fun W hW => (by rfl)⟩) (by assumption) ?_
  try simp only [Act.put, List.setIfInBounds_toArray, List.set_cons_zero, List.set_cons_succ]
  refine wpAnyH_take (i := 6) (oi := ⟨some 99, _, _, _, _, _⟩) (v := .pointer (some ⟨g, 0, none⟩)) rfl (by kernel_rfl) (by kernel_rfl) (by kernel_rfl) (fun _ _ _ h => h) (Or.inl ⟨by rfl, fun W hW => (by rfl)⟩) (by assumption) ?_
  try simp only [Act.put, List.setIfInBounds_toArray, List.set_cons_zero, List.set_cons_succ]
  refine wpAnyH_take (i := 7) (oi := ⟨some 100, _, _, _, _, _⟩) (v := .pointer (some ⟨g, 0, none⟩)) rfl (by kernel_rfl) (by kernel_rfl) (by kernel_rfl) (fun _ _ _ h => h) (Or.inl ⟨by rfl, fun W hW => (by go_simp)⟩) (by assumption) ?_
  try simp only [Act.put, List.setIfInBounds_toArray, List.set_cons_zero, List.set_cons_succ]
  refine wpAnyH_take (i := 8) (oi := ⟨some 101, _, _, _, _, _⟩) (v := .pointer (some ⟨g, 0, none⟩)) rfl (by kernel_rfl) (by kernel_rfl) (by kernel_rfl) (fun _ _ _ h => h) (Or.inl ⟨by rfl, fun W hW => (by go_simp)⟩) (by assumption) ?_
  try simp only [Act.put, List.setIfInBounds_toArray, List.set_cons_zero, List.set_cons_succ]
  refine wpAnyH_take (i := 9) (oi := ⟨some 102, _, _, _, _, _⟩) (v := .pointer (some ⟨g, 0, none⟩)) rfl (by kernel_rfl) (by kernel_rfl) (by kernel_rfl) (fun _ _ _ h => h) (Or.inl ⟨by rfl, fun W hW => (by go_simp)⟩) (by assumption) ?_
  try simp only [Act.put, List.setIfInBounds_toArray, List.set_cons_zero, List.set_cons_succ]
  refine wpAnyH_take (i := 10) (oi := ⟨some 103, _, _, _, _, _⟩) (v := .int .i64 (B : Int)) rfl (by kernel_rfl) (by kernel_rfl) (by kernel_rfl) (fun _ _ _ h => h) (Or.inl ⟨by rfl, fun W hW => (by have := HC0.out W hW; go_simp)⟩) (by assumption) ?_
  try simp only [Act.put, List.setIfInBounds_toArray, List.set_cons_zero, List.set_cons_succ]
  refine wpAnyH_take (i := 11) (oi := ⟨some 104, _, _, _, _, _⟩) (v := .pointer (some ⟨g, 0, none⟩)) rfl (by kernel_rfl) (by kernel_rfl) (by kernel_rfl) (fun _ _ _ h => h) (Or.inl ⟨by rfl, fun W hW => (by rfl)⟩) (by assumption) ?_
  try simp only [Act.put, List.setIfInBounds_toArray, List.set_cons_zero, List.set_cons_succ]
  refine wpAnyH_take (i := 12) (oi := ⟨some 105, _, _, _, _, _⟩) (v := .pointer (some ⟨g, 0, none⟩)) rfl (by kernel_rfl) (by kernel_rfl) (by kernel_rfl) (fun _ _ _ h => h) (Or.inl ⟨by rfl, fun W hW => (by go_simp)⟩) (by assumption) ?_
  try simp only [Act.put, List.setIfInBounds_toArray, List.set_cons_zero, List.set_cons_succ]
  refine wpAnyH_take (i := 13) (oi := ⟨some 106, _, _, _, _, _⟩) (v := .pointer (some ⟨g, 0, none⟩)) rfl (by kernel_rfl) (by kernel_rfl) (by kernel_rfl) (fun _ _ _ h => h) (Or.inl ⟨by rfl, fun W hW => (by go_simp)⟩) (by assumption) ?_
  try simp only [Act.put, List.setIfInBounds_toArray, List.set_cons_zero, List.set_cons_succ]
  refine wpAnyH_take (i := 14) (oi := ⟨some 107, _, _, _, _, _⟩) (v := .pointer (some ⟨g, 1, none⟩)) rfl (by kernel_rfl) (by kernel_rfl) (by kernel_rfl) (fun _ _ _ h => h) (Or.inl ⟨by rfl, fun W hW => (by go_simp)⟩) (by assumption) ?_
  try simp only [Act.put, List.setIfInBounds_toArray, List.set_cons_zero, List.set_cons_succ]
  refine wpAnyH_take (i := 15) (oi := ⟨some 108, _, _, _, _, _⟩) (v := .int .i64 (D : Int)) rfl (by kernel_rfl) (by kernel_rfl) (by kernel_rfl) (fun _ _ _ h => h) (Or.inl ⟨by rfl, fun W hW => (by have := HC1.out W hW; go_simp)⟩) (by assumption) ?_
  try simp only [Act.put, List.setIfInBounds_toArray, List.set_cons_zero, List.set_cons_succ]
  refine wpAnyH_take (i := 16) (oi := ⟨some 109, _, _, _, _, _⟩) (v := .slice A2 n c2) rfl (by kernel_rfl) (by kernel_rfl) (by kernel_rfl) (fun _ _ _ h => h) (Or.inl ⟨by rfl, fun W hW => (by rfl)⟩) (by assumption) ?_
  try simp only [Act.put, List.setIfInBounds_toArray, List.set_cons_zero, List.set_cons_succ]
  refine wpAnyH_ready (rs := [17]) (by kernel_rfl) (by simp) ?_
  refine AllReadyH.cons (o := ⟨some 110, _, _, _, _, _⟩) rfl (fun K hK => ?_) AllReadyH.nil
  rw [if_pos (by rfl)]
  go_simp
  refine (HCR.out).mono ?_
  rintro e w3 ⟨A3, c3, rfl, hc3, hF3, hR3, hB3⟩
  dsimp only
  have HR3 := Lib.hid hR3
  have HB3 := Lib.hid hB3
  have H3 : Below V2.heap.size V2 w3 := hHeld.trans (hB3.mono hb0.size)
  refine hK.out _ _ H3 (fun hHeld => ?_)
  clear hK K hR3 hF3 hc3 hB3
  try simp only [Act.put, List.setIfInBounds_toArray, List.set_cons_zero, List.set_cons_succ]
  refine wpAnyH_take (i := 18) (oi := ⟨some 92, _, _, _, _, _⟩) (v := .tuple #[.slice A3 n c3, .int .i64 0]) rfl (by kernel_rfl) (by kernel_rfl) (by kernel_rfl) (fun _ _ _ h => h) (Or.inl ⟨by rfl, fun W hW => (by rfl)⟩) (by assumption) ?_
  try simp only [Act.put, List.setIfInBounds_toArray, List.set_cons_zero, List.set_cons_succ]
  refine wpAnyH_take (i := 19) (oi := ⟨some 111, _, _, _, _, _⟩) (v := .slice A3 n c3) rfl (by kernel_rfl) (by kernel_rfl) (by kernel_rfl) (fun _ _ _ h => h) (Or.inl ⟨by rfl, fun W hW => (by go_simp)⟩) (by assumption) ?_
  try simp only [Act.put, List.setIfInBounds_toArray, List.set_cons_zero, List.set_cons_succ]
  refine wpAnyH_take (i := 21) (oi := ⟨some 15, _, _, _, _, _⟩) (v := .slice A3 n c3) rfl (by kernel_rfl) (by kernel_rfl) (by kernel_rfl) (fun _ _ _ h => h) (Or.inl ⟨by rfl, fun W hW => (by rfl)⟩) (by assumption) ?_
  try simp only [Act.put, List.setIfInBounds_toArray, List.set_cons_zero, List.set_cons_succ]
  refine wpAnyH_take (i := 20) (oi := ⟨some 112, _, _, _, _, _⟩) (v := .int .i64 0) rfl (by kernel_rfl) (by kernel_rfl) (by kernel_rfl) (fun _ _ _ h => h) (Or.inl ⟨by rfl, fun W hW => (by go_simp)⟩) (by assumption) ?_
  try simp only [Act.put, List.setIfInBounds_toArray, List.set_cons_zero, List.set_cons_succ]
  refine wpAnyH_take (i := 22) (oi := ⟨some 16, _, _, _, _, _⟩) (v := .int .i64 0) rfl (by kernel_rfl) (by kernel_rfl) (by kernel_rfl) (fun _ _ _ h => h) (Or.inl ⟨by rfl, fun W hW => (by rfl)⟩) (by assumption) ?_
  try simp only [Act.put, List.setIfInBounds_toArray, List.set_cons_zero, List.set_cons_succ]
  refine wpAnyH_done (by kernel_rfl) ?_ _
  have HH3 := Lib.hid H3
  clear H3 hHeld
  go_upto_region 17 with (fail)
  have HB3 := Lib.hid (HBH.out.below HH3.out HBH.out.lt)
  have HSH := Lib.hid (show SL w3 5 1 (some ⟨hb, 0, none⟩) 2 2 [.int .u8 (128 + (ct : Int) / 256 % 16), .int .u8 ((ct : Int) % 256)] from ⟨rfl, .inr ⟨hb, 0, _, rfl, HB3.out, Nat.le_refl _, by unfold maxLen; omega, by simp, fun j hj => by rw [Nat.zero_add]; simp⟩⟩)
  obtain ⟨lb, lo, hA3, hlb, hlc⟩ := HR3.out HP.out.1
  subst hA3
  have HLC := Lib.hid hlc
  obtain ⟨CF, hCF⟩ : ∃ CF, CF = cryF (nf s.C.key) ct B D (nf z) := ⟨_, rfl⟩
  have HCF := Lib.hid hCF
  rw [← hCF] at HLC
  obtain ⟨i0, hi, hz0, hz1, hz2⟩ := info_parts Tryz.infoByte
  have HSRC : Hid (Src Tryz.prog 1 27 (.slice (some ⟨lb, lo, none⟩) n c3) n ((List.range n).map fun j => .int .u8 ((CF j : Nat) : Int)) w3) := Lib.hid (Src.ofSlice _ Tryz.underlying27 ⟨lb, lo, none⟩ n c3 _ (by simp) (fun j u hu => by
      have hj : j < n := by have := (List.getElem?_eq_some_iff.1 hu).1; simpa using this
      rw [Addr.add_lit, HLC.out j hj, ← hu]
      simp [hj]) (fun u hu => by
        obtain ⟨j, _, rfl⟩ := List.mem_map.1 hu
        rfl))
  clear hlc hCF
  go_wp2_with (refine wpList_sl_append rfl _ _ _ _ rfl w3 5 i0 (.int .u8 0) 1 1 Tryz.underlying27 hi hz0 hz1 hz2 rfl (some ⟨hb, 0, none⟩) 2 2 _ rfl HSH.out _ rfl n ((List.range n).map fun j => .int .u8 ((CF j : Nat) : Int)) HSRC.out HP.out.1 (by have := HP.out; unfold maxLen; omega) (by have := HP.out; omega) ?_; intro A9 c9 wA hSL9 hK9 hA9; have HSL9 := Lib.hid hSL9; have HK9 := Lib.hid hK9; have HA9 := Lib.hid hA9; clear hSL9 hK9 hA9)
  go_ret2
  have hw3 : w.heap.size ≤ w3.heap.size := Nat.le_trans HBW.out.size HH3.out.size
  have hpn : pduN s.C n = 2 + n := by unfold pduN plainN; rw [HIG.out]; rfl
  refine ⟨A9, c9, by rw [hpn]; rfl, by rw [hpn]; exact HSL9.out.le, fun a e => ?_, ?_, KeepF.below (HBW.out.trans (HH3.out.mono HBW.out.size)) HK9.out (fun k ⟨a, ha, e⟩ => by cases ha; rw [e]; exact Nat.le_of_eq HHB.out.symm) hw3⟩
  · rcases HA9.out a e with ⟨a', ha', e'⟩ | hge
    · cases ha'
      rw [e', HHB.out]
      exact Nat.le_refl _
    · omega
  · rw [hpn]
    refine (sl_row HSL9.out (fun j hj => ?_)).more (Nat.le_refl _)
    unfold pduZ catF
    by_cases hj2 : j < 2
    · rw [if_pos hj2, List.getElem?_append_left (by simpa using hj2)]
      rcases (by omega : j = 0 ∨ j = 1) with rfl | rfl
      · simp [hdB]
      · simp [hdB]
    · rw [if_neg hj2, List.getElem?_append_right (by simp; omega)]
      have hjn : j - 2 < n := by omega
      rw [pdu_plain HIG.out hjn, ← HB.out, ← HD.out, ← HCF.out]
      simp [hjn]
end Go.Proofs.YtiffminhlimajaaGreat
