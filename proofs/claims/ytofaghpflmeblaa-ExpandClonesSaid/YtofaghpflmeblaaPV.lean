/- ExpandClones: the walk. -/
import Derived.Test.YtofaghpflmeblaaPT
import Derived.Deep.RegionHeld3
namespace Go.Proofs.Ytofaghpflmeblaa
open Go.RowKit Go.WideShapes
set_option linter.unusedVariables false
attribute [local go_sem ↓] Go.wp_at_zero Go.wp_at_succ

theorem few44_e (A : Option Addr) (m c : Nat) (most : Int) (PA : Nat → Option Addr) (pn pc : Nat → Nat) (z : Nat → Nat → Int) (w : World) (h : Rows2 w A m PA pn pc z) (hmx : m ≤ maxLen) :
    ∃ b : Bool, (b = true → (m : Int) ≤ most ∧ ∀ k, k < m → pn k ≤ 100) ∧ Calls Try.prog 16 #[.slice A m c, .int .i64 most] w fun e w' => e = .returned (.bool b) ∧ w = w' := by
  by_cases hf : (m : Int) ≤ most ∧ ∀ k, k < m → pn k ≤ 100
  · exact ⟨true, fun _ => hf, few44_yes A m c most PA pn pc z w h hf.1 hf.2 hmx⟩
  · exact ⟨false, fun e => (by cases e), few44_no A m c most PA pn pc z w h hf hmx⟩
theorem sameE_refl (S : Nat → Ec) : sameE S S = true := (eqAll_iff S S _).2 fun _ _ => rfl
/-- worlds that keep what lies in W, with two of the reference's blocks -/
def Held2 (W : World) (p q : Nat) (LA LB : List Value) (w' : World) : Prop := w'.rangeAt p 0 LA ∧ w'.rangeAt q 0 LB ∧ Below W.heap.size W w'
theorem Held2.next {W w1 w2 : World} {p q : Nat} {LA LB : List Value} (h : Held2 W p q LA LB w1) (hp : p < W.heap.size) (hq : q < W.heap.size) (hb : Below w1.heap.size w1 w2) : Held2 W p q LA LB w2 :=
  ⟨fun j v hv => (hb.cell (by have := h.2.2.size; show p < _; omega)).trans (h.1 j v hv), fun j v hv => (hb.cell (by have := h.2.2.size; show q < _; omega)).trans (h.2.1 j v hv), h.2.2.trans (hb.mono h.2.2.size)⟩
theorem blk_range {W : World} {p : Nat} {t : TypeId} (L : List Value) (h : Blk W p t L.toArray) : W.rangeAt p 0 L := h.range L rfl

set_option maxRecDepth 100000 in
set_option maxHeartbeats 6400000 in
theorem clones44_walk (A0 : Option Addr) (m0 c0 : Nat) (PA0 : Nat → Option Addr) (pn0 pc0 : Nat → Nat) (z0 : Nat → Nat → Int) (A1 : Option Addr) (m1 c1 : Nat) (PA1 : Nat → Option Addr) (pn1 pc1 : Nat → Nat) (z1 : Nat → Nat → Int) (A2 : Option Addr) (m2 c2 : Nat) (PA2 : Nat → Option Addr) (pn2 pc2 : Nat → Nat) (z2 : Nat → Nat → Int)
    (w : World) (hR0 : Rows2 w A0 m0 PA0 pn0 pc0 z0) (hx0 : m0 ≤ maxLen) (hR1 : Rows2 w A1 m1 PA1 pn1 pc1 z1) (hx1 : m1 ≤ maxLen) (hR2 : Rows2 w A2 m2 PA2 pn2 pc2 z2) (hx2 : m2 ≤ maxLen) :
    Calls Try.prog 5 #[.slice A0 m0 c0, .slice A1 m1 c1, .slice A2 m2 c2] w fun e w' => e = .returned (.bool true) ∧ Below w.heap.size w w' := by
  obtain ⟨b0, e0, F0⟩ := few44_e A0 m0 c0 20 PA0 pn0 pc0 z0 w hR0 hx0
  obtain ⟨b1, e1, F1⟩ := few44_e A1 m1 c1 3 PA1 pn1 pc1 z1 w hR1 hx1
  obtain ⟨b2, e2, F2⟩ := few44_e A2 m2 c2 3 PA2 pn2 pc2 z2 w hR2 hx2
  have HF0 := Lib.hid F0
  have HF1 := Lib.hid F1
  have HF2 := Lib.hid F2
  clear F0 F1 F2
  cases b0
  · clear e0 e1 e2 hR0 hR1 hR2
    go_enter Try.func5, Try.ntmps5
    go_wp2_with (first
      | (go_at_call 16; ((with_reducible refine (HF0.out).mono ?_); rintro e w1 ⟨rfl, rfl⟩))
      | (go_at_call 16; ((with_reducible refine (HF1.out).mono ?_); rintro e w1 ⟨rfl, rfl⟩))
      | (go_at_call 16; ((with_reducible refine (HF2.out).mono ?_); rintro e w1 ⟨rfl, rfl⟩))
      | (go_at_call 13; refine (works44_true _).mono ?_; rintro e w1 ⟨rfl, hB1⟩))
    go_ret
    exact ⟨rfl, hB1⟩
  cases b1
  · clear e0 e1 e2 hR0 hR1 hR2
    go_enter Try.func5, Try.ntmps5
    go_wp2_with (first
      | (go_at_call 16; ((with_reducible refine (HF0.out).mono ?_); rintro e w1 ⟨rfl, rfl⟩))
      | (go_at_call 16; ((with_reducible refine (HF1.out).mono ?_); rintro e w1 ⟨rfl, rfl⟩))
      | (go_at_call 16; ((with_reducible refine (HF2.out).mono ?_); rintro e w1 ⟨rfl, rfl⟩))
      | (go_at_call 13; refine (works44_true _).mono ?_; rintro e w1 ⟨rfl, hB1⟩))
    go_ret
    exact ⟨rfl, hB1⟩
  cases b2
  · clear e0 e1 e2 hR0 hR1 hR2
    go_enter Try.func5, Try.ntmps5
    go_wp2_with (first
      | (go_at_call 16; ((with_reducible refine (HF0.out).mono ?_); rintro e w1 ⟨rfl, rfl⟩))
      | (go_at_call 16; ((with_reducible refine (HF1.out).mono ?_); rintro e w1 ⟨rfl, rfl⟩))
      | (go_at_call 16; ((with_reducible refine (HF2.out).mono ?_); rintro e w1 ⟨rfl, rfl⟩))
      | (go_at_call 13; refine (works44_true _).mono ?_; rintro e w1 ⟨rfl, hB1⟩))
    go_ret
    exact ⟨rfl, hB1⟩
  obtain ⟨n0, l0⟩ := e0 rfl
  obtain ⟨n1, l1⟩ := e1 rfl
  obtain ⟨n2, l2⟩ := e2 rfl
  have HNW := Lib.hid (fun W => ernew_ok W)
  have HZR := Lib.hid (fun (L : Array Value) (hL : L = rxArr (fun _ => Ec.zero)) => hL)
  have hz' := zeroXp
  obtain ⟨S1, hS1⟩ : ∃ S, S = xrun pn0 z0 (fun _ => Ec.zero) m0 := ⟨_, rfl⟩
  obtain ⟨SA, hSA⟩ : ∃ S, S = xrun pn1 z1 S1 m1 := ⟨_, rfl⟩
  obtain ⟨SB, hSB⟩ : ∃ S, S = xrun pn2 z2 S1 m2 := ⟨_, rfl⟩
  have ok1 : ∀ i, i < 16 → (S1 i).Ok := by rw [hS1]; exact xrun_ok pn0 z0 _ m0 zero_all hR0.byte m0 (Nat.le_refl _)
  have HS0 := Lib.hid (fun (g : Nat) (W : World) (hb : Below w.heap.size w W) (hg : w.heap.size ≤ g) (h : EB W g true (fun _ => Ec.zero)) => steps44_ok g (fun _ => Ec.zero) A0 m0 c0 PA0 pn0 pc0 z0 w W hR0 hb hg l0 (by omega) zero_all h)
  have HS1 := Lib.hid (fun (g : Nat) (W : World) (hb : Below w.heap.size w W) (hg : w.heap.size ≤ g) (h : EB W g true S1) => steps44_ok g S1 A1 m1 c1 PA1 pn1 pc1 z1 w W hR1 hb hg l1 (by omega) ok1 h)
  have HS2 := Lib.hid (fun (g : Nat) (W : World) (hb : Below w.heap.size w W) (hg : w.heap.size ≤ g) (h : EB W g true S1) => steps44_ok g S1 A2 m2 c2 PA2 pn2 pc2 z2 w W hR2 hb hg l2 (by omega) ok1 h)
  rw [← hS1] at HS0
  rw [← hSA] at HS1
  rw [← hSB] at HS2
  clear hS1 hSA hSB ok1 hR0 hR1 hR2 hx0 hx1 hx2 n0 n1 n2 l0 l1 l2 e0 e1 e2
  have HEAB := Lib.hid (fun W => (show (Op.equalIn 9999 39 (.agg (rxArr SA)) (.agg (rxArr SB))).run Try.prog W = .ok (sameE SA SB) W from rx_eqarr SA SB 9995 W))
  have HEAZ := Lib.hid (fun W => (show (Op.equalIn 9999 39 (.agg (rxArr SA)) (.agg (rxArr (fun _ => Ec.zero)))).run Try.prog W = .ok (sameE SA (fun _ => Ec.zero)) W from rx_eqarr SA _ 9995 W))
  have HSX := Lib.hid (fun W (g o : Nat) (a : EB W g true S1) (b : EB W o true S1) => esame_ok g o S1 S1 W a b)
  rw [sameE_refl] at HSX
  have HSAB := Lib.hid (fun W (g o : Nat) (a : EB W g true SA) (b : EB W o true SB) => esame_ok g o SA SB W a b)
  have HSAZ := Lib.hid (fun W (g o : Nat) (a : EB W g true SA) (b : EB W o true (fun _ => Ec.zero)) => esame_ok g o SA (fun _ => Ec.zero) W a b)
  obtain ⟨rab, hrab⟩ : ∃ r, r = sameE SA SB := ⟨_, rfl⟩
  obtain ⟨raz, hraz⟩ : ∃ r, r = sameE SA (fun _ => Ec.zero) := ⟨_, rfl⟩
  rw [← hrab] at HEAB HSAB
  rw [← hraz] at HEAZ HSAZ
  obtain ⟨Z, hZ⟩ : ∃ Z, Z = rxArr (fun _ => Ec.zero) := ⟨_, rfl⟩
  obtain ⟨L1, hL1⟩ : ∃ L, L = rxArr S1 := ⟨_, rfl⟩
  obtain ⟨LA, hLA⟩ : ∃ L, L = rxArr SA := ⟨_, rfl⟩
  obtain ⟨LB, hLB⟩ : ∃ L, L = rxArr SB := ⟨_, rfl⟩
  have z192 : Z.size = 192 := by rw [hZ, rxArr_size]
  have a192 : LA.size = 192 := by rw [hLA, rxArr_size]
  have b192 : LB.size = 192 := by rw [hLB, rxArr_size]
  have TZ := Lib.hid (show Z.extract 0 192 = Z from by rw [← z192]; exact Array.extract_size)
  have HIL1 : Hid ((Try.prog.info? 41).map (·.size) = some L1.size) := Lib.hid (by rw [hL1, rxArr_size]; exact sizeXp)
  have HZL1 : Hid (Z.size = L1.size) := Lib.hid (by rw [hL1, z192, rxArr_size])
  have HOL1 : Hid (L1.all (·.oneCell') = true) := Lib.hid (by rw [hL1]; exact rxp_one _)
  have HILA : Hid ((Try.prog.info? 41).map (·.size) = some LA.size) := Lib.hid (by rw [hLA, rxArr_size]; exact sizeXp)
  have HZLA : Hid (Z.size = LA.size) := Lib.hid (by rw [hLA, z192, rxArr_size])
  have HOLA : Hid (LA.all (·.oneCell') = true) := Lib.hid (by rw [hLA]; exact rxp_one _)
  have HILB : Hid ((Try.prog.info? 41).map (·.size) = some LB.size) := Lib.hid (by rw [hLB, rxArr_size]; exact sizeXp)
  have HZLB : Hid (Z.size = LB.size) := Lib.hid (by rw [hLB, z192, rxArr_size])
  have HOLB : Hid (LB.all (·.oneCell') = true) := Lib.hid (by rw [hLB]; exact rxp_one _)
  rw [← hZ] at hz' HNW HS0 HEAZ
  rw [← hL1] at HS0 HS1 HS2
  rw [← hLA] at HS1 HEAB HEAZ
  rw [← hLB] at HS2 HEAB
  have TA0 := Lib.hid a192
  have TB0 := Lib.hid b192
  clear hrab hraz hZ hL1 hLA hLB z192 a192 b192 HZR
  go_enter Try.func5, Try.ntmps5
  go_upto_region 5 with (first
      | (go_at_call 16; ((with_reducible refine (HF0.out).mono ?_); rintro e w1 ⟨rfl, rfl⟩))
      | (go_at_call 16; ((with_reducible refine (HF1.out).mono ?_); rintro e w1 ⟨rfl, rfl⟩))
      | (go_at_call 16; ((with_reducible refine (HF2.out).mono ?_); rintro e w1 ⟨rfl, rfl⟩))
      | (go_at_call 10; refine (enew_ok2 _).mono ?_; rintro e w1 ⟨rfl, hK1, hB1⟩; have K1 := Lib.hid hK1; have B1 := Lib.hid hB1; clear hK1 hB1)
      | (go_at_call 18; refine (HNW.out _).mono ?_; rintro e w2 ⟨rfl, hB2⟩; have K2 := Lib.hid (K1.out.below hB2 K1.out.lt); have B2 := Lib.hid (below_step B1.out hB2); clear hB2)
      | (go_at_call 17; refine (HS0.out _ _ B2.out (Nat.le_refl _) K2.out).mono ?_; rintro e w3 ⟨rfl, hE3, hK3⟩; have E3 := Lib.hid hE3; have B3 := Lib.hid (below_keep B2.out hK3 (Nat.le_refl _) B2.out.size); clear hK3 hE3)
      | (refine wpList_store_row rfl _ _ _ rfl w3.heap.size L1 rfl rfl 41 Z (Blk.new w3 _ _) HIL1.out HZL1.out HOL1.out ?_))
  obtain ⟨g, hg⟩ : ∃ g, g = w.heap.size := ⟨_, rfl⟩
  have HG := Lib.hid hg
  obtain ⟨p8, hp8⟩ : ∃ p, p = w3.heap.size := ⟨_, rfl⟩
  have gp8 : g < p8 := by rw [hg, hp8]; exact E3.out.lt
  rw [← hg, ← hp8]
  refine wp_world (fun W => EB W g true S1 ∧ Blk W p8 41 L1 ∧ Below w.heap.size w W ∧ W.heap.size = p8 + 1) ⟨by rw [hg]; exact (E3.out.alloc _).rowFar (by omega) _, by rw [hp8]; exact Blk.setRow (Blk.new w3 _ _), belowRow (below_new B3.out _) (by rw [hp8]; exact B3.out.size) _, by rw [size_setRow, hp8]; simp⟩ ?_
  rintro w4 ⟨k4, l4, b4, s4⟩
  have K4 := Lib.hid k4
  have L4 := Lib.hid l4
  have B4 := Lib.hid b4
  obtain ⟨go, hgo⟩ : ∃ go, go = w4.heap.size := ⟨_, rfl⟩
  have ggo : g < go := by omega
  have pgo : p8 < go := by omega
  have HCL := Lib.hid (eclone_made g S1 w4 K4.out)
  rw [← hgo] at HCL
  have HGO := Lib.hid hgo
  clear k4 l4 b4 hg hp8 hgo s4
  go_upto_region 8 with (first
    | (go_at_call 19; refine HCL.out.mono ?_; rintro e w5 ⟨rfl, hE5, hB5⟩; have O5 := Lib.hid hE5; have hB5' : Below w4.heap.size w4 w5 := ⟨hB5.os, hB5.tape, hB5.output, hB5.size, fun i hi => hB5.block i (by have := HGO.out; omega)⟩; have K5 := Lib.hid (K4.out.below hB5' K4.out.lt); have L5 := Lib.hid (L4.out.below hB5' L4.out.lt); have B5 := Lib.hid (below_step B4.out hB5'); clear hE5 hB5 hB5')
    | (go_at_call 20; ((with_reducible refine (HSX.out w5 g go K5.out O5.out).mono ?_); rintro e w6 ⟨rfl, hB6⟩; have O6 := Lib.hid (O5.out.below hB6 O5.out.lt); have K6 := Lib.hid (K5.out.below hB6 K5.out.lt); have L6 := Lib.hid (L5.out.below hB6 L5.out.lt); have B6 := Lib.hid (below_step B5.out hB6); clear hB6))
    | (go_at_call 20; ((with_reducible refine (HSX.out w6 go g O6.out K6.out).mono ?_); rintro e w7 ⟨rfl, hB7⟩; have O7 := Lib.hid (O6.out.below hB7 O6.out.lt); have K7 := Lib.hid (K6.out.below hB7 K6.out.lt); have L7 := Lib.hid (L6.out.below hB7 L6.out.lt); have B7 := Lib.hid (below_step B6.out hB7); clear hB7)))
  have gw : w.heap.size ≤ g := by have := HG.out; omega
  go_upto_region 9 with (first
    | (refine wpList_load_row rfl _ _ rfl p8 rfl 41 L1 (0, 0) _ L7.out Try.underlying41 rfl HIL1.out ?_)
    | (go_at_call 17; refine (HS1.out _ _ B7.out gw K7.out).mono ?_; rintro e w8 ⟨rfl, hE8, hK8⟩; have K8 := Lib.hid hE8; have O8 := Lib.hid (show EB w8 go true S1 from hK8.blk O7.out (by omega)); have L8 := Lib.hid (hK8.blk L7.out (by omega)); have B8 := Lib.hid (below_keep B7.out hK8 gw B7.out.size); clear hE8 hK8)
    | (refine wpList_store_row rfl _ _ _ rfl w8.heap.size LA rfl rfl 41 Z (Blk.new w8 _ _) HILA.out HZLA.out HOLA.out ?_))
  obtain ⟨p11, hp11⟩ : ∃ p, p = w8.heap.size := ⟨_, rfl⟩
  have g11 : g < p11 := by rw [hp11]; exact K8.out.lt
  have o11 : go < p11 := by rw [hp11]; exact O8.out.lt
  have q11 : p8 < p11 := by rw [hp11]; exact L8.out.lt
  rw [← hp11]
  refine wp_world (fun W => EB W g true SA ∧ EB W go true S1 ∧ Blk W p8 41 L1 ∧ Blk W p11 41 LA ∧ Below w.heap.size w W) ⟨(K8.out.alloc _).rowFar (by omega) _, (O8.out.alloc _).rowFar (by omega) _, Blk.rowFar (L8.out.alloc _) (by omega) _, by rw [hp11]; exact Blk.setRow (Blk.new w8 _ _), belowRow (below_new B8.out _) (by rw [hp11]; exact B8.out.size) _⟩ ?_
  rintro w9 ⟨k9, o9, l9, a9, b9⟩
  have K9 := Lib.hid k9
  have O9 := Lib.hid o9
  have L9 := Lib.hid l9
  have A9 := Lib.hid a9
  have B9 := Lib.hid b9
  have gow : w.heap.size ≤ go := by omega
  clear k9 o9 l9 a9 b9 hp11
  go_upto_region 10 with (first
    | (refine wpList_load_row rfl _ _ rfl p8 rfl 41 L1 (0, 0) _ L9.out Try.underlying41 rfl HIL1.out ?_)
    | (go_at_call 17; refine (HS2.out _ _ B9.out gow O9.out).mono ?_; rintro e w10 ⟨rfl, hE10, hK10⟩; have O10 := Lib.hid hE10; have K10 := Lib.hid (show EB w10 g true SA from hK10.blk K9.out (by omega)); have A10 := Lib.hid (hK10.blk A9.out (by omega)); have B10 := Lib.hid (below_keep B9.out hK10 gow B9.out.size); clear hE10 hK10)
    | (refine wpList_store_row rfl _ _ _ rfl w10.heap.size LB rfl rfl 41 Z (Blk.new w10 _ _) HILB.out HZLB.out HOLB.out ?_))
  obtain ⟨p13, hp13⟩ : ∃ p, p = w10.heap.size := ⟨_, rfl⟩
  have g13 : g < p13 := by rw [hp13]; exact K10.out.lt
  have o13 : go < p13 := by rw [hp13]; exact O10.out.lt
  have q13 : p11 < p13 := by rw [hp13]; exact A10.out.lt
  rw [← hp13]
  refine wp_world (fun W => EB W g true SA ∧ EB W go true SB ∧ Blk W p11 41 LA ∧ Blk W p13 41 LB ∧ Below w.heap.size w W) ⟨(K10.out.alloc _).rowFar (by omega) _, (O10.out.alloc _).rowFar (by omega) _, Blk.rowFar (A10.out.alloc _) (by omega) _, by rw [hp13]; exact Blk.setRow (Blk.new w10 _ _), belowRow (below_new B10.out _) (by rw [hp13]; exact B10.out.size) _⟩ ?_
  rintro W ⟨kW, oW, aW, bW, hBW⟩
  have HKW := Lib.hid (fun (X : World) (hX : Below W.heap.size W X) => (show EB X g true SA from kW.below hX kW.lt))
  have HOW := Lib.hid (fun (X : World) (hX : Below W.heap.size W X) => (show EB X go true SB from oW.below hX oW.lt))
  have BW := Lib.hid hBW
  obtain ⟨La, hLa⟩ : ∃ L : List Value, LA = L.toArray := ⟨LA.toList, by simp⟩
  obtain ⟨Lb, hLb⟩ : ∃ L : List Value, LB = L.toArray := ⟨LB.toList, by simp⟩
  rw [hLa] at aW HEAB HEAZ
  rw [hLb] at bW HEAB
  have hia : (Try.prog.info? 41).map (·.size) = some La.length := by have := HILA.out; rw [hLa] at this; simpa using this
  have hib : (Try.prog.info? 41).map (·.size) = some Lb.length := by have := HILB.out; rw [hLb] at this; simpa using this
  have hu := Try.underlying41
  have TA := Lib.hid (show List.take 192 La = La from List.take_of_length_le (by have := TA0.out; rw [hLa] at this; simp at this; omega))
  have TB := Lib.hid (show List.take 192 Lb = Lb from List.take_of_length_le (by have := TB0.out; rw [hLb] at this; simp at this; omega))
  have pa : p11 < W.heap.size := aW.lt
  have pb : p13 < W.heap.size := bW.lt
  have h0 : Held2 W p11 p13 La Lb W := ⟨blk_range La aW, blk_range Lb bW, Below.refl _ _⟩
  clear kW oW hLa hLb hp13

  obtain ⟨Bn, hBn⟩ : ∃ Bn, Bn = W.heap.size := ⟨_, rfl⟩
  have HXR := Lib.hid (fun (X : World) (hX : Below Bn W X) => (show X.rangeAt p11 0 La from blk_range La (aW.below hX (by omega))))
  have HYR := Lib.hid (fun (X : World) (hX : Below Bn W X) => (show X.rangeAt p13 0 Lb from blk_range Lb (bW.below hX (by omega))))
  have HHW := Lib.hid hBW
  rw [← hBn] at HKW HOW
  have HU := Lib.hid hu
  have HIA := Lib.hid hia
  have HIB := Lib.hid hib
  clear aW bW hBW hu hia hib pa pb h0
  obtain ⟨w0, hw0⟩ : ∃ w0, w0 = W.drew := ⟨_, rfl⟩
  have hb0 : Below Bn W w0 := by rw [hw0, hBn]; exact (Below.refl _ W).drew
  have hz0 : Bn ≤ w0.heap.size := by rw [hw0, hBn]; exact Nat.le_refl _
  have hBB : w.heap.size ≤ Bn := by rw [hBn]; exact BW.out.size
  refine wp_region_held_drew (S := fun w' => Below Bn W w') (by kernel_rfl) (by rw [← hw0]; exact hb0) (fun hHeld => ?_)
  rw [← hw0]
  clear hw0 hHeld hBn
  have hHeld := hb0
  refine wpAnyH_take (i := 0) (oi := ⟨some 67, _, _, _, _, _⟩) (v := .bool true) rfl (by kernel_rfl) (by kernel_rfl) (by kernel_rfl) (fun _ _ _ h => h) (Or.inl ⟨by rfl, fun W hW => (by rfl)⟩) (by assumption) ?_
  try simp only [Act.put, List.setIfInBounds_toArray, List.set_cons_zero, List.set_cons_succ]
  refine wpAnyH_take (i := 1) (oi := ⟨some 68, _, _, _, _, _⟩) (v := .bool true) rfl (by kernel_rfl) (by kernel_rfl) (by kernel_rfl) (fun _ _ _ h => h) (Or.inl ⟨by rfl, fun W hW => (by rfl)⟩) (by assumption) ?_
  try simp only [Act.put, List.setIfInBounds_toArray, List.set_cons_zero, List.set_cons_succ]
  refine wpAnyH_take (i := 2) (oi := ⟨some 69, _, _, _, _, _⟩) (v := .bool true) rfl (by kernel_rfl) (by kernel_rfl) (by kernel_rfl) (fun _ _ _ h => h) (Or.inl ⟨by rfl, fun W hW => (by rfl)⟩) (by assumption) ?_
  try simp only [Act.put, List.setIfInBounds_toArray, List.set_cons_zero, List.set_cons_succ]
  refine wpAnyH_take (i := 3) (oi := ⟨some 70, _, _, _, _, _⟩) (v := .bool true) rfl (by kernel_rfl) (by kernel_rfl) (by kernel_rfl) (fun _ _ _ h => h) (Or.inl ⟨by rfl, fun W hW => (by go_simp)⟩) (by assumption) ?_
  try simp only [Act.put, List.setIfInBounds_toArray, List.set_cons_zero, List.set_cons_succ]
  refine wpAnyH_take (i := 4) (oi := ⟨some 71, _, _, _, _, _⟩) (v := .bool true) rfl (by kernel_rfl) (by kernel_rfl) (by kernel_rfl) (fun _ _ _ h => h) (Or.inl ⟨by rfl, fun W hW => (by rfl)⟩) (by assumption) ?_
  try simp only [Act.put, List.setIfInBounds_toArray, List.set_cons_zero, List.set_cons_succ]
  refine wpAnyH_take (i := 5) (oi := ⟨some 72, _, _, _, _, _⟩) (v := .pointer (some ⟨g, 0, none⟩)) rfl (by kernel_rfl) (by kernel_rfl) (by kernel_rfl) (fun _ _ _ h => h) (Or.inl ⟨by rfl, fun W hW => (by rfl)⟩) (by assumption) ?_
  try simp only [Act.put, List.setIfInBounds_toArray, List.set_cons_zero, List.set_cons_succ]
  refine wpAnyH_take (i := 6) (oi := ⟨some 73, _, _, _, _, _⟩) (v := .pointer (some ⟨go, 0, none⟩)) rfl (by kernel_rfl) (by kernel_rfl) (by kernel_rfl) (fun _ _ _ h => h) (Or.inl ⟨by rfl, fun W hW => (by rfl)⟩) (by assumption) ?_
  try simp only [Act.put, List.setIfInBounds_toArray, List.set_cons_zero, List.set_cons_succ]
  refine' wpAnyH_take (i := 8) (oi := ⟨some 75, _, _, _, _, _⟩) (v := _) rfl (by kernel_rfl) (by kernel_rfl) (by kernel_rfl) (fun _ _ _ h => h) (yieldsIf_load_mid (by rfl) _ _ rfl p11 0 rfl La _ (fun w h => HXR.out w h) HU.out rfl HIA.out) (by assumption) ?_
  try simp only [Act.put, List.setIfInBounds_toArray, List.set_cons_zero, List.set_cons_succ]
  refine' wpAnyH_take (i := 9) (oi := ⟨some 76, _, _, _, _, _⟩) (v := _) rfl (by kernel_rfl) (by kernel_rfl) (by kernel_rfl) (fun _ _ _ h => h) (yieldsIf_load_mid (by rfl) _ _ rfl p13 0 rfl Lb _ (fun w h => HYR.out w h) HU.out rfl HIB.out) (by assumption) ?_
  try simp only [Act.put, List.setIfInBounds_toArray, List.set_cons_zero, List.set_cons_succ]
  refine wpAnyH_take (i := 10) (oi := ⟨some 77, _, _, _, _, _⟩) (v := .bool rab) rfl (by kernel_rfl) (by kernel_rfl) (by kernel_rfl) (fun _ _ _ h => h) (Or.inl ⟨by rfl, fun W hW => (by have e := HEAB.out W; have t1 := TA.out; have t2 := TB.out; go_simp; cases rab <;> rfl)⟩) (by assumption) ?_
  try simp only [Act.put, List.setIfInBounds_toArray, List.set_cons_zero, List.set_cons_succ]
  refine wpAnyH_ready (rs := [7]) (by kernel_rfl) (by simp) ?_
  refine AllReadyH.cons (o := ⟨some 74, _, _, _, _, _⟩) rfl (fun K hK => ?_) AllReadyH.nil
  rw [if_pos (by rfl)]
  go_simp
  refine (HSAB.out w0 g go (HKW.out w0 hHeld) (HOW.out w0 hHeld)).mono ?_
  rintro e w1' ⟨rfl, hb⟩
  dsimp only
  have hH2 : Below Bn W w1' := hHeld.trans (hb.mono hz0)
  have hz1 : Bn ≤ w1'.heap.size := Nat.le_trans hz0 hb.size
  refine hK.out _ _ hH2 (fun hHeld => ?_)
  clear hK K hH2 hb
  try simp only [Act.put, List.setIfInBounds_toArray, List.set_cons_zero, List.set_cons_succ]
  refine wpAnyH_take (i := 11) (oi := ⟨some 78, _, _, _, _, _⟩) (v := .bool true) rfl (by kernel_rfl) (by kernel_rfl) (by kernel_rfl) (fun _ _ _ h => h) (Or.inl ⟨by rfl, fun W hW => (by go_simp)⟩) (by assumption) ?_
  try simp only [Act.put, List.setIfInBounds_toArray, List.set_cons_zero, List.set_cons_succ]
  refine wpAnyH_take (i := 12) (oi := ⟨some 79, _, _, _, _, _⟩) (v := .bool true) rfl (by kernel_rfl) (by kernel_rfl) (by kernel_rfl) (fun _ _ _ h => h) (Or.inl ⟨by rfl, fun W hW => (by go_simp)⟩) (by assumption) ?_
  try simp only [Act.put, List.setIfInBounds_toArray, List.set_cons_zero, List.set_cons_succ]
  refine wpAnyH_take (i := 13) (oi := ⟨some 80, _, _, _, _, _⟩) (v := .bool true) rfl (by kernel_rfl) (by kernel_rfl) (by kernel_rfl) (fun _ _ _ h => h) (Or.inl ⟨by rfl, fun W hW => (by rfl)⟩) (by assumption) ?_
  try simp only [Act.put, List.setIfInBounds_toArray, List.set_cons_zero, List.set_cons_succ]
  refine wpAnyH_take (i := 14) (oi := ⟨some 81, _, _, _, _, _⟩) (v := .pointer (some ⟨g, 0, none⟩)) rfl (by kernel_rfl) (by kernel_rfl) (by kernel_rfl) (fun _ _ _ h => h) (Or.inl ⟨by rfl, fun W hW => (by rfl)⟩) (by assumption) ?_
  try simp only [Act.put, List.setIfInBounds_toArray, List.set_cons_zero, List.set_cons_succ]
  refine' wpAnyH_take (i := 17) (oi := ⟨some 84, _, _, _, _, _⟩) (v := _) rfl (by kernel_rfl) (by kernel_rfl) (by kernel_rfl) (fun _ _ _ h => h) (yieldsIf_load_mid (by rfl) _ _ rfl p11 0 rfl La _ (fun w h => HXR.out w h) HU.out rfl HIA.out) (by assumption) ?_
  try simp only [Act.put, List.setIfInBounds_toArray, List.set_cons_zero, List.set_cons_succ]
  refine wpAnyH_ready (rs := [15]) (by kernel_rfl) (by simp) ?_
  refine AllReadyH.cons (o := ⟨some 82, _, _, _, _, _⟩) rfl (fun K hK => ?_) AllReadyH.nil
  rw [if_pos (by rfl)]
  go_simp
  refine (enew_ok2 w1').mono ?_
  rintro e w2' ⟨rfl, HP, hb⟩
  obtain ⟨p, hp⟩ : ∃ p, p = w1'.heap.size := ⟨_, rfl⟩
  rw [← hp] at HP ⊢
  clear hp
  dsimp only
  have hH2 : Below Bn W w2' := hHeld.trans (hb.mono hz1)
  have hz2 : Bn ≤ w2'.heap.size := Nat.le_trans hz1 hb.size
  refine hK.out _ _ hH2 (fun hHeld => ?_)
  clear hK K hH2 hb
  try simp only [Act.put, List.setIfInBounds_toArray, List.set_cons_zero, List.set_cons_succ]
  refine wpAnyH_ready (rs := [16]) (by kernel_rfl) (by simp) ?_
  refine AllReadyH.cons (o := ⟨some 83, _, _, _, _, _⟩) rfl (fun K hK => ?_) AllReadyH.nil
  rw [if_pos (by rfl)]
  go_simp
  refine (HSAZ.out w2' g p (HKW.out w2' hHeld) HP).mono ?_
  rintro e w3' ⟨rfl, hb⟩
  dsimp only
  have hH2 : Below Bn W w3' := hHeld.trans (hb.mono hz2)
  have hz3 : Bn ≤ w3'.heap.size := Nat.le_trans hz2 hb.size
  refine hK.out _ _ hH2 (fun hHeld => ?_)
  clear hK K hH2 hb
  try simp only [Act.put, List.setIfInBounds_toArray, List.set_cons_zero, List.set_cons_succ]
  refine wpAnyH_ready (rs := [18]) (by kernel_rfl) (by simp) ?_
  refine AllReadyH.cons (o := ⟨some 85, _, _, _, _, _⟩) rfl (fun K hK => ?_) AllReadyH.nil
  rw [if_pos (by rfl)]
  go_simp
  refine (HNW.out w3').mono ?_
  rintro e w4' ⟨rfl, hb⟩
  dsimp only
  have hH2 : Below Bn W w4' := hHeld.trans (hb.mono hz3)
  have hz4 : Bn ≤ w4'.heap.size := Nat.le_trans hz3 hb.size
  refine hK.out _ _ hH2 (fun hHeld => ?_)
  clear hK K hH2 hb
  try simp only [Act.put, List.setIfInBounds_toArray, List.set_cons_zero, List.set_cons_succ]
  refine wpAnyH_take (i := 19) (oi := ⟨some 86, _, _, _, _, _⟩) (v := .bool raz) rfl (by kernel_rfl) (by kernel_rfl) (by kernel_rfl) (fun _ _ _ h => h) (Or.inl ⟨by rfl, fun W hW => (by have e := HEAZ.out W; have t1 := TA.out; have t2 := TZ.out; go_simp; cases raz <;> rfl)⟩) (by assumption) ?_
  try simp only [Act.put, List.setIfInBounds_toArray, List.set_cons_zero, List.set_cons_succ]
  refine wpAnyH_take (i := 20) (oi := ⟨some 87, _, _, _, _, _⟩) (v := .bool true) rfl (by kernel_rfl) (by kernel_rfl) (by kernel_rfl) (fun _ _ _ h => h) (Or.inl ⟨by rfl, fun W hW => (by go_simp)⟩) (by assumption) ?_
  try simp only [Act.put, List.setIfInBounds_toArray, List.set_cons_zero, List.set_cons_succ]
  refine wpAnyH_take (i := 21) (oi := ⟨some 88, _, _, _, _, _⟩) (v := .bool true) rfl (by kernel_rfl) (by kernel_rfl) (by kernel_rfl) (fun _ _ _ h => h) (Or.inl ⟨by rfl, fun W hW => (by go_simp)⟩) (by assumption) ?_
  try simp only [Act.put, List.setIfInBounds_toArray, List.set_cons_zero, List.set_cons_succ]
  refine wpAnyH_take (i := 22) (oi := ⟨some 89, _, _, _, _, _⟩) (v := .bool true) rfl (by kernel_rfl) (by kernel_rfl) (by kernel_rfl) (fun _ _ _ h => h) (Or.inl ⟨by rfl, fun W hW => (by rfl)⟩) (by assumption) ?_
  try simp only [Act.put, List.setIfInBounds_toArray, List.set_cons_zero, List.set_cons_succ]
  refine wpAnyH_ready (rs := [23]) (by kernel_rfl) (by simp) ?_
  refine AllReadyH.cons (o := ⟨some 90, _, _, _, _, _⟩) rfl (fun K hK => ?_) AllReadyH.nil
  rw [if_pos (by rfl)]
  go_simp
  refine (works44_true w4').mono ?_
  rintro e w5' ⟨rfl, hb⟩
  dsimp only
  have hH2 : Below Bn W w5' := hHeld.trans (hb.mono hz4)
  have hz5 : Bn ≤ w5'.heap.size := Nat.le_trans hz4 hb.size
  refine hK.out _ _ hH2 (fun hHeld => ?_)
  clear hK K hH2 hb
  try simp only [Act.put, List.setIfInBounds_toArray, List.set_cons_zero, List.set_cons_succ]
  refine wpAnyH_take (i := 24) (oi := ⟨some 91, _, _, _, _, _⟩) (v := .bool true) rfl (by kernel_rfl) (by kernel_rfl) (by kernel_rfl) (fun _ _ _ h => h) (Or.inl ⟨by rfl, fun W hW => (by go_simp)⟩) (by assumption) ?_
  try simp only [Act.put, List.setIfInBounds_toArray, List.set_cons_zero, List.set_cons_succ]
  refine wpAnyH_take (i := 25) (oi := ⟨some 6, _, _, _, _, _⟩) (v := .bool true) rfl (by kernel_rfl) (by kernel_rfl) (by kernel_rfl) (fun _ _ _ h => h) (Or.inl ⟨by rfl, fun W hW => (by rfl)⟩) (by assumption) ?_
  try simp only [Act.put, List.setIfInBounds_toArray, List.set_cons_zero, List.set_cons_succ]
  refine wpAnyH_done (by kernel_rfl) ?_ _
  go_wp2
  go_ret
  exact ⟨rfl, BW.out.trans (hHeld.mono hBB)⟩
end Go.Proofs.Ytofaghpflmeblaa
