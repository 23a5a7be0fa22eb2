/- compress: Compress of a packet that Parse takes. compress: the reference's state; both sides answer alike. compress: packet and works of law 43. compress: works of law 43. compress: Compress of any bytes. The walk of CompressChecks. compress: Contexts, Clone and Same of a compressor that New did not make. -/
import Derived.Test.YtofaghpflmeblaaQ3
namespace Go.Proofs.Ytofaghpflmeblaa
open Go.RowKit

attribute [local go_sem ↓] Go.wp_at_zero Go.wp_at_succ

theorem pHdr_lt (n : Nat) (z : Nat → Int) (j : Nat) : 0 ≤ pHdr n z j ∧ pHdr n z j < ((2 ^ pwd (j + 1) : Nat) : Int) := by
  have hp : 0 < 2 ^ pwd (j + 1) := Nat.two_pow_pos _
  unfold pHdr gpart
  split
  · split
    · have := getv_lt z (0 + so pwd (j + 1)) (pwd (j + 1))
      unfold fieldv
      omega
    · omega
  · omega
theorem pErr_good (n : Nat) (z : Nat → Int) (h : pErr n z = 0) : 20 ≤ n ∧ n ≤ 9000 ∧ pLen n z = n - 20 := by
  refine ⟨?_, ?_, ?_⟩
  · unfold pErr at h
    by_cases h1 : n < 20
    · rw [if_pos h1] at h; cases h
    · omega
  · unfold pErr at h
    by_cases h1 : n < 20
    · omega
    · rw [if_neg h1] at h
      by_cases h2 : 9000 < n
      · rw [if_pos h2] at h; cases h
      · omega
  · unfold pLen; rw [if_pos h]
theorem kind_cases (x : Rx) (h0 h1 h2 h3 h4 h5 h6 h7 : Int) : kindOf x h0 h1 h2 h3 h4 h5 h6 h7 = 0 ∨ (kindOf x h0 h1 h2 h3 h4 h5 h6 h7 = 1 ∧ 1 ≤ kN x h6 ∧ kN x h6 ≤ 255 ∧ kT x h7 < 65536) ∨ (kindOf x h0 h1 h2 h3 h4 h5 h6 h7 = 2 ∧ 1 ≤ kN x h6 ∧ kN x h6 ≤ 255) := by
  unfold kindOf
  by_cases hk : noKind x h0 h1 h2 h3 h4 h6 = true
  · rw [if_pos hk]; exact .inl rfl
  · rw [if_neg hk]
    have hb : 1 ≤ kN x h6 ∧ kN x h6 ≤ 255 := by
      unfold noKind at hk
      simp only [Bool.or_eq_true, decide_eq_true_eq, not_or] at hk
      omega
    split
    · exact .inr (.inr ⟨rfl, hb⟩)
    · split
      · exact .inr (.inl ⟨rfl, hb.1, hb.2, by assumption⟩)
      · exact .inl rfl

theorem cell_new_at (w : World) (cs : Array Value) (t : TypeId) (k : Nat) {u : Value} (h : cs[k]? = some u) : (w.alloc (.cells cs t)).cell? ⟨w.heap.size, k, none⟩ = some u := (Blk.cell (Blk.new w t cs) k).trans h
theorem nine_set (w : World) (g : Nat) (t : TypeId) (X0 X1 X2 X3 X4 X5 X6 X7 X8 Y0 Y1 Y2 Y3 Y4 Y5 Y6 Y7 Y8 : Value) (h : Blk w g t #[X0, X1, X2, X3, X4, X5, X6, X7, X8]) : Blk ((((((((((w.setCell ⟨g, 0, none⟩ Y0).setCell ⟨g, 1, none⟩ Y1).setCell ⟨g, 2, none⟩ Y2).setCell ⟨g, 3, none⟩ Y3).setCell ⟨g, 4, none⟩ Y4).setCell ⟨g, 5, none⟩ Y5).setCell ⟨g, 6, none⟩ Y6).setCell ⟨g, 7, none⟩ Y7).setCell ⟨g, 8, none⟩ Y8)) g t #[Y0, Y1, Y2, Y3, Y4, Y5, Y6, Y7, Y8] := by
  replace h := h.set_ 0 Y0
  rw [show (#[X0, X1, X2, X3, X4, X5, X6, X7, X8] : Array Value).setIfInBounds 0 Y0 = #[Y0, X1, X2, X3, X4, X5, X6, X7, X8] from rfl] at h
  replace h := h.set_ 1 Y1
  rw [show (#[Y0, X1, X2, X3, X4, X5, X6, X7, X8] : Array Value).setIfInBounds 1 Y1 = #[Y0, Y1, X2, X3, X4, X5, X6, X7, X8] from rfl] at h
  replace h := h.set_ 2 Y2
  rw [show (#[Y0, Y1, X2, X3, X4, X5, X6, X7, X8] : Array Value).setIfInBounds 2 Y2 = #[Y0, Y1, Y2, X3, X4, X5, X6, X7, X8] from rfl] at h
  replace h := h.set_ 3 Y3
  rw [show (#[Y0, Y1, Y2, X3, X4, X5, X6, X7, X8] : Array Value).setIfInBounds 3 Y3 = #[Y0, Y1, Y2, Y3, X4, X5, X6, X7, X8] from rfl] at h
  replace h := h.set_ 4 Y4
  rw [show (#[Y0, Y1, Y2, Y3, X4, X5, X6, X7, X8] : Array Value).setIfInBounds 4 Y4 = #[Y0, Y1, Y2, Y3, Y4, X5, X6, X7, X8] from rfl] at h
  replace h := h.set_ 5 Y5
  rw [show (#[Y0, Y1, Y2, Y3, Y4, X5, X6, X7, X8] : Array Value).setIfInBounds 5 Y5 = #[Y0, Y1, Y2, Y3, Y4, Y5, X6, X7, X8] from rfl] at h
  replace h := h.set_ 6 Y6
  rw [show (#[Y0, Y1, Y2, Y3, Y4, Y5, X6, X7, X8] : Array Value).setIfInBounds 6 Y6 = #[Y0, Y1, Y2, Y3, Y4, Y5, Y6, X7, X8] from rfl] at h
  replace h := h.set_ 7 Y7
  rw [show (#[Y0, Y1, Y2, Y3, Y4, Y5, Y6, X7, X8] : Array Value).setIfInBounds 7 Y7 = #[Y0, Y1, Y2, Y3, Y4, Y5, Y6, Y7, X8] from rfl] at h
  replace h := h.set_ 8 Y8
  rw [show (#[Y0, Y1, Y2, Y3, Y4, Y5, Y6, Y7, X8] : Array Value).setIfInBounds 8 Y8 = #[Y0, Y1, Y2, Y3, Y4, Y5, Y6, Y7, Y8] from rfl] at h
  exact h

set_option maxRecDepth 100000 in
set_option maxHeartbeats 400000 in
theorem compress_good (g : Nat) (S : Nat → Rx) (T : Int) (lb lo n c : Nat) (z : Nat → Int) (w : World) (h : CB w g true S T) (hok : ∀ i, i < 16 → (S i).Ok) (hT : 0 ≤ T ∧ T < 4611686018427387904) (hp : pErr n z = 0) (hnc : n ≤ c) (hz : ∀ j, j < n → 0 ≤ z j ∧ z j < 256) (hr : Row w w.heap.size (some ⟨lb, lo, none⟩) n (fun j => .int .u8 (z j))) (hlg : lb ≠ g) :
    Calls Try.prog 25 #[.pointer (some ⟨g, 0, none⟩), .slice (some ⟨lb, lo, none⟩) n c] w (COut (1 + (cLen S T (pHdr n z) + (n - 20))) (joinY (cFirst S T (pHdr n z)) (cBody S T (pHdr n z) n z)) 0 g (cState S T (pHdr n z)) (T + 1) w) := by
  obtain ⟨n20, n9, hLn⟩ := pErr_good n z hp
  have hgl := h.lt
  have he : ckErr n = 0 := by unfold ckErr; rw [if_neg (by omega), if_neg (by omega)]
  have HB := Lib.hid (fun o : Obj => none_ok g true S T _ (h.alloc o))
  have HC := Lib.hid (fun W => ccheck_ok (some ⟨lb, lo, none⟩) n c W)
  rw [he] at HC
  have HP := Lib.hid (fun (W : World) (hR : Row W W.heap.size (some ⟨lb, lo, none⟩) n (fun j => .int .u8 (z j))) => parse_any (some ⟨lb, lo, none⟩) n c z hnc hz W hR)
  have HR := Lib.hid hr
  have HK := Lib.hid h
  have b5 := pHdr_lt n z 5
  have b6 := pHdr_lt n z 6
  have b7 := pHdr_lt n z 7
  unfold ParseEnd hdr at HP
  rw [hLn, hp] at HP
  obtain ⟨X, hX⟩ : ∃ X, X = pHdr n z := ⟨_, rfl⟩
  rw [← hX] at HP b5 b6 b7 ⊢
  obtain ⟨i, hi⟩ : ∃ i, i = cPlace S X := ⟨_, rfl⟩
  have hi16 : i < 16 := by rw [hi]; exact cPlace_lt S X
  obtain ⟨D, hD⟩ : ∃ D, D = cTurned S T X := ⟨_, rfl⟩
  have hDok : D.Ok := by
    have := hok i hi16
    rw [hD]; unfold cTurned; rw [← hi]
    exact ⟨this.hops, this.ident, this.time, this.gen, this.step⟩
  obtain ⟨o, ho⟩ : ∃ o, o = 1 + 14 * i := ⟨_, rfl⟩
  have HI := Lib.hid hi
  have HD := Lib.hid hD
  have HO := Lib.hid ho
  have HFI := Lib.hid (fun W hC => find_ok g true S T (X 0) (X 1) (X 2) (X 3) (X 4) W hC)
  have HFV : Hid (bestI (fun k => fv (X 0) (X 1) (X 2) (X 3) (X 4) (S k)) 16 = i) := Lib.hid (by rw [hi]; rfl)
  rw [HFV.out] at HFI
  have HST := Lib.hid (fun W => static_ok (X 0) (X 1) (X 2) (X 3) (X 4) (X 5) (X 6) (X 7) (X 8) W)
  have i1 : (0 : Int) ≤ (i : Int) := by omega
  have i2 : (i : Int) < 16 := by omega
  have tw : IntKind.i64.wrap (T + 1) = T + 1 := IntWalk.i64_in _ (by omega)
  clear hX h he hp hz hr hok hi hD ho
  go_enter Try.func25, Try.ntmps25
  go_wp2
  refine wp_scope_on 0 rfl ?_
  go_wp2_with (first
    | (go_at_call 40; refine (HB.out _).mono ?_; rintro e w1 ⟨rfl, rfl⟩)
    | (go_at_call 41; refine (HC.out _).mono ?_; rintro e w1 ⟨rfl, rfl⟩)
    | (go_at_call 42; refine (HP.out _ (row_new HR.out _)).mono ?_; rintro e w2 ⟨P, c2, rfl, hc2, hown, b2⟩;
       have HOWN := Lib.hid hown;
       have B2 := Lib.hid (((Below.refl _ w).alloc (Nat.le_refl _) _).trans (b2.mono (by simp)) : Below w.heap.size w w2); have q2 := (Blk.new w 36 (hdr (fun _ => 0))).below b2 (by simp); have hl2 := q2.lt; obtain ⟨a0, a1, a2, a3, a4, a5, a6, a7, a8⟩ := Blk.nine (show Blk w2 w.heap.size 36 #[.int .i64 0, .int .i64 0, .int .i64 0, .int .i64 0, .int .i64 0, .int .i64 0, .int .i64 0, .int .i64 0, .int .i64 0] from q2); have z0 := q2.frozen 0; have z1 := q2.frozen 1; have z2 := q2.frozen 2; have z3 := q2.frozen 3; have z4 := q2.frozen 4; have z5 := q2.frozen 5; have z6 := q2.frozen 6; have z7 := q2.frozen 7; have z8 := q2.frozen 8; have Q2 := Lib.hid q2; clear b2 q2 hown)
    | (go_at_call 45;
       obtain ⟨P', c3, hpe, _, _, hfr, RP2⟩ := own_any (f := fun j => .int .u8 (z (20 + j))) HOWN.out (fun j hj => by simp [hj]);
       obtain ⟨rfl, rfl⟩ : P' = P ∧ c3 = c2 := by (cases hpe; exact ⟨rfl, rfl⟩);
       have HFR := Lib.hid hfr; clear hfr hpe HOWN;
       have B3 := Lib.hid (show Below w.heap.size w (((((((((w2.setCell ⟨w.heap.size, 0, none⟩ (.int .i64 (X 0))).setCell ⟨w.heap.size, 1, none⟩ (.int .i64 (X 1))).setCell ⟨w.heap.size, 2, none⟩ (.int .i64 (X 2))).setCell ⟨w.heap.size, 3, none⟩ (.int .i64 (X 3))).setCell ⟨w.heap.size, 4, none⟩ (.int .i64 (X 4))).setCell ⟨w.heap.size, 5, none⟩ (.int .i64 (X 5))).setCell ⟨w.heap.size, 6, none⟩ (.int .i64 (X 6))).setCell ⟨w.heap.size, 7, none⟩ (.int .i64 (X 7))).setCell ⟨w.heap.size, 8, none⟩ (.int .i64 (X 8))) from (((((((((B2.out.setCell (Nat.le_refl _) _).setCell (Nat.le_refl _) _).setCell (Nat.le_refl _) _).setCell (Nat.le_refl _) _).setCell (Nat.le_refl _) _).setCell (Nat.le_refl _) _).setCell (Nat.le_refl _) _).setCell (Nat.le_refl _) _).setCell (Nat.le_refl _) _));
       have KG := Lib.hid (show Keep1 w.heap.size w2 (((((((((w2.setCell ⟨w.heap.size, 0, none⟩ (.int .i64 (X 0))).setCell ⟨w.heap.size, 1, none⟩ (.int .i64 (X 1))).setCell ⟨w.heap.size, 2, none⟩ (.int .i64 (X 2))).setCell ⟨w.heap.size, 3, none⟩ (.int .i64 (X 3))).setCell ⟨w.heap.size, 4, none⟩ (.int .i64 (X 4))).setCell ⟨w.heap.size, 5, none⟩ (.int .i64 (X 5))).setCell ⟨w.heap.size, 6, none⟩ (.int .i64 (X 6))).setCell ⟨w.heap.size, 7, none⟩ (.int .i64 (X 7))).setCell ⟨w.heap.size, 8, none⟩ (.int .i64 (X 8))) from by (unfold Keep1; repeat (first | with_reducible exact World.grownBy_refl _ _ | with_reducible refine grownBy_set ?_ _ _)));
       have H3 := Lib.hid (show Blk (((((((((w2.setCell ⟨w.heap.size, 0, none⟩ (.int .i64 (X 0))).setCell ⟨w.heap.size, 1, none⟩ (.int .i64 (X 1))).setCell ⟨w.heap.size, 2, none⟩ (.int .i64 (X 2))).setCell ⟨w.heap.size, 3, none⟩ (.int .i64 (X 3))).setCell ⟨w.heap.size, 4, none⟩ (.int .i64 (X 4))).setCell ⟨w.heap.size, 5, none⟩ (.int .i64 (X 5))).setCell ⟨w.heap.size, 6, none⟩ (.int .i64 (X 6))).setCell ⟨w.heap.size, 7, none⟩ (.int .i64 (X 7))).setCell ⟨w.heap.size, 8, none⟩ (.int .i64 (X 8))) w.heap.size 36 #[.int .i64 (X 0), .int .i64 (X 1), .int .i64 (X 2), .int .i64 (X 3), .int .i64 (X 4), .int .i64 (X 5), .int .i64 (X 6), .int .i64 (X 7), .int .i64 (X 8)] from (nine_set w2 w.heap.size _ _ _ _ _ _ _ _ _ _ _ _ _ _ _ _ _ _ _ Q2.out));
       obtain ⟨W3, hW3⟩ : ∃ W3, W3 = (((((((((w2.setCell ⟨w.heap.size, 0, none⟩ (.int .i64 (X 0))).setCell ⟨w.heap.size, 1, none⟩ (.int .i64 (X 1))).setCell ⟨w.heap.size, 2, none⟩ (.int .i64 (X 2))).setCell ⟨w.heap.size, 3, none⟩ (.int .i64 (X 3))).setCell ⟨w.heap.size, 4, none⟩ (.int .i64 (X 4))).setCell ⟨w.heap.size, 5, none⟩ (.int .i64 (X 5))).setCell ⟨w.heap.size, 6, none⟩ (.int .i64 (X 6))).setCell ⟨w.heap.size, 7, none⟩ (.int .i64 (X 7))).setCell ⟨w.heap.size, 8, none⟩ (.int .i64 (X 8))) := ⟨_, rfl⟩;
       rw [← hW3] at B3 KG H3;
       have hsz : W3.heap.size = w2.heap.size := by (rw [hW3]; simp only [World.size_setCell]);
       rw [← hW3];
       have RP3 := Lib.hid (show Row W3 W3.heap.size P' (n - 20) (fun j => .int .u8 (z (20 + j))) from by (rw [hsz]; exact KG.out.row RP2 (Nat.le_refl _) (fun a e => by have := HFR.out a e; simp at this; omega)));
       clear hW3 KG RP2 a0 a1 a2 a3 a4 a5 a6 a7 a8 z0 z1 z2 z3 z4 z5 z6 z7 z8 Q2;
       refine (HST.out W3).mono ?_; rintro e w4 ⟨rfl, b4⟩;
       have hl3 : w.heap.size < W3.heap.size := by (rw [hsz]; exact hl2);
       have B4 := Lib.hid (B3.out.trans (b4.mono (Nat.le_of_lt hl3)) : Below w.heap.size w w4);
       have H4 := Lib.hid (H3.out.below b4 hl3);
       have RP4 := Lib.hid ((RP3.out.below b4).more b4.size);
       clear b4 H3 RP3 B3)
    | (go_at_call 44;
       refine (HFI.out w4 (HK.out.below B4.out hgl)).mono ?_; rintro e w5 ⟨rfl, b5'⟩;
       have B5 := Lib.hid (B4.out.trans (b5'.mono B4.out.size) : Below w.heap.size w w5);
       have H5 := Lib.hid (H4.out.below b5' H4.out.lt);
       have RP5 := Lib.hid ((RP4.out.below b5').more b5'.size);
       have K5 := Lib.hid (HK.out.below B5.out hgl);
       have t5 := K5.out.turn_;
       have f5 := K5.out.fr 225;
       have f6 : w5.frozen? ⟨g, 1 + i * 14 + 13, none⟩ = false := K5.out.fr _;
       have f7 : w5.cell? ⟨g, 1 + i * 14 + 13, none⟩ = some (.int .i64 (S i).turn) := K5.out.ctx hi16 13 (by decide) (by omega);
       have f8 : ¬ 1 + i * 14 + 13 = 225 := by omega;
       have f9 : ¬ 225 = 1 + i * 14 + 13 := by omega;
       have g1 : ¬ w.heap.size = g := by omega;
       have g2 : ¬ g = w.heap.size := by omega;
       have y0 : w5.cell? ⟨w.heap.size, 0, none⟩ = some (.int .i64 (X 0)) := H5.out.cell 0;
       have y1 : w5.cell? ⟨w.heap.size, 1, none⟩ = some (.int .i64 (X 1)) := H5.out.cell 1;
       have y2 : w5.cell? ⟨w.heap.size, 2, none⟩ = some (.int .i64 (X 2)) := H5.out.cell 2;
       have y3 : w5.cell? ⟨w.heap.size, 3, none⟩ = some (.int .i64 (X 3)) := H5.out.cell 3;
       have y4 : w5.cell? ⟨w.heap.size, 4, none⟩ = some (.int .i64 (X 4)) := H5.out.cell 4;
       have y5 : w5.cell? ⟨w.heap.size, 5, none⟩ = some (.int .i64 (X 5)) := H5.out.cell 5;
       have y6 : w5.cell? ⟨w.heap.size, 6, none⟩ = some (.int .i64 (X 6)) := H5.out.cell 6;
       have y7 : w5.cell? ⟨w.heap.size, 7, none⟩ = some (.int .i64 (X 7)) := H5.out.cell 7;
       have y8 : w5.cell? ⟨w.heap.size, 8, none⟩ = some (.int .i64 (X 8)) := H5.out.cell 8;
       clear b5' H4 RP4 B4)
    | (go_at_call 46;
       have ED := Lib.hid (show D = { S i with turn := T + 1 } from by (rw [HD.out, HI.out]; rfl));
       have K6 := Lib.hid (show CB ((w5.setCell ⟨g, 225, none⟩ (.int .i64 (T + 1))).setCell ⟨g, 1 + i * 14 + 13, none⟩ (.int .i64 (T + 1))) g true (upd S i D) (T + 1) from by (rw [ED.out]; exact ((K5.out.setTurn (T + 1)).self i).turnc_ hi16 (by omega) (T + 1)));
       have G6 := Lib.hid (show Keep1 g w5 ((w5.setCell ⟨g, 225, none⟩ (.int .i64 (T + 1))).setCell ⟨g, 1 + i * 14 + 13, none⟩ (.int .i64 (T + 1))) from by (unfold Keep1; exact grownBy_set (grownBy_set (World.grownBy_refl _ _) _ _) _ _));
       obtain ⟨W6, hW6⟩ : ∃ W6, W6 = ((w5.setCell ⟨g, 225, none⟩ (.int .i64 (T + 1))).setCell ⟨g, 1 + i * 14 + 13, none⟩ (.int .i64 (T + 1))) := ⟨_, rfl⟩;
       rw [← hW6] at K6 G6; rw [← hW6];
       have hs6 : W6.heap.size = w5.heap.size := by (rw [hW6]; simp only [World.size_setCell]);
       clear hW6;
       have KK := kind_ok g i (1 + i * 14) true (upd S i D) (T + 1) (X 0) (X 1) (X 2) (X 3) (X 4) (X 5) (X 6) (X 7) (X 8) hi16 (by omega) (by rw [upd_same]; exact hDok) b6 b7 W6 K6.out;
       rw [upd_same] at KK;
       refine KK.mono ?_; rintro e w7 ⟨rfl, b7'⟩; clear KK)
    )
  have H7 := Lib.hid ((G6.out.blk H5.out (by omega)).below b7' (by rw [hs6]; exact H5.out.lt))
  have K7 := Lib.hid (K6.out.below b7' K6.out.lt)
  have kc := kind_cases D (X 0) (X 1) (X 2) (X 3) (X 4) (X 5) (X 6) (X 7)
  clear y0 y1 y2 y3 y4 y5 y6 y7 y8 t5 f5 f6 f7
  rcases kc with hk | ⟨hk, n1, n2, t1⟩ | ⟨hk, n1, n2⟩
  · rw [hk]
    have y0 : w7.cell? ⟨w.heap.size, 0, none⟩ = some (.int .i64 (X 0)) := H7.out.cell 0
    have y1 : w7.cell? ⟨w.heap.size, 1, none⟩ = some (.int .i64 (X 1)) := H7.out.cell 1
    have y2 : w7.cell? ⟨w.heap.size, 2, none⟩ = some (.int .i64 (X 2)) := H7.out.cell 2
    have y3 : w7.cell? ⟨w.heap.size, 3, none⟩ = some (.int .i64 (X 3)) := H7.out.cell 3
    have y4 : w7.cell? ⟨w.heap.size, 4, none⟩ = some (.int .i64 (X 4)) := H7.out.cell 4
    have y5 : w7.cell? ⟨w.heap.size, 5, none⟩ = some (.int .i64 (X 5)) := H7.out.cell 5
    have y6 : w7.cell? ⟨w.heap.size, 6, none⟩ = some (.int .i64 (X 6)) := H7.out.cell 6
    have y7 : w7.cell? ⟨w.heap.size, 7, none⟩ = some (.int .i64 (X 7)) := H7.out.cell 7
    have y8 : w7.cell? ⟨w.heap.size, 8, none⟩ = some (.int .i64 (X 8)) := H7.out.cell 8
    have rz6 := G6.out.row (HR.out.below B5.out) B5.out.size (fun a e => by cases e; exact hlg)
    have rz7 := rz6.below (b7'.mono (by rw [hs6]; exact B5.out.size))
    have RZ7 := Lib.hid (show Row w7.drew w7.drew.heap.size (some ⟨lb, lo, none⟩) n (fun j => .int .u8 (z j)) from Row.drew (rz7.more (by have e1 := b7'.size; rw [hs6] at e1; exact Nat.le_trans B5.out.size e1)))
    clear rz6 rz7
    have hix : ∀ W : World, (Instr.index 102 (.agg #[.func (.func 47) #[] #[], .func (.func 48) #[] #[], .func (.func 49) #[] #[]]) (.int .i64 0)).run Try.prog W = .ok (.func (.func 47) #[] #[]) W := fun W => by kernel_rfl
    go_region_held3 (fun w' => w'.cell? ⟨w.heap.size, 0, none⟩ = some (.int .i64 (X 0)) ∧ w'.cell? ⟨w.heap.size, 1, none⟩ = some (.int .i64 (X 1)) ∧ w'.cell? ⟨w.heap.size, 2, none⟩ = some (.int .i64 (X 2)) ∧ w'.cell? ⟨w.heap.size, 3, none⟩ = some (.int .i64 (X 3)) ∧ w'.cell? ⟨w.heap.size, 4, none⟩ = some (.int .i64 (X 4)) ∧ w'.cell? ⟨w.heap.size, 5, none⟩ = some (.int .i64 (X 5)) ∧ w'.cell? ⟨w.heap.size, 6, none⟩ = some (.int .i64 (X 6)) ∧ w'.cell? ⟨w.heap.size, 7, none⟩ = some (.int .i64 (X 7)) ∧ w'.cell? ⟨w.heap.size, 8, none⟩ = some (.int .i64 (X 8))) (go_keep) (first
      | (go_at_call 47; refine (full_ok g i (1 + i * 14) true (upd S i D) (T + 1) (X 0) (X 1) (X 2) (X 3) (X 4) (X 5) (X 6) (X 7) (X 8) lb lo n c z hi16 (by omega) (by omega) hnc w7.drew K7.out.drew RZ7.out hlg).mono ?_; rintro e w8 ⟨A8, c8, rfl, hc8, R8', K8', G8'⟩; have R8 := Lib.hid R8'; have K8 := Lib.hid K8'; have G8 := Lib.hid G8'; have H8 := Lib.hid (G8'.blk (show Blk w7.drew w.heap.size _ _ from H7.out) (by omega)); clear R8' K8' G8'; obtain ⟨v0, v1, v2, v3, v4, v5, v6, v7, v8⟩ := H8.out.nine)
      | (go_at_call 43;
         have SZ8 : w5.heap.size ≤ w8.heap.size := (by have e1 := b7'.size; have e2 := G8.out.size; have e3 : w7.drew.heap.size = w7.heap.size := rfl; omega);
         have hgP : ∀ a, P' = some a → a.block ≠ g := (fun a e => by have := HFR.out a e; simp at this; omega);
         have r6 : Row W6 w5.heap.size P' (n - 20) (fun j => .int .u8 (z (20 + j))) := G6.out.row RP5.out (Nat.le_refl _) hgP;
         have r7 : Row w7 w5.heap.size P' (n - 20) (fun j => .int .u8 (z (20 + j))) := r6.below (b7'.mono (Nat.le_of_eq hs6.symm));
         have RP8 := Lib.hid ((G8.out.row (show Row w7.drew w5.heap.size P' (n - 20) (fun j => .int .u8 (z (20 + j))) from r7) (by have e1 := b7'.size; show _ ≤ w7.heap.size; omega) hgP).more SZ8);
         refine (joined2_ok _ w8.heap.size A8 P' 19 c8 (n - 20) c3 _ _ (by decide) (by omega) (w8.alloc (.cells #[.slice A8 19 c8, .slice P' (n - 20) c3] 24)) (by simp) (cell_new_at w8 _ _ 0 rfl) (row_new R8.out _) (cell_new_at w8 _ _ 1 rfl) (row_new RP8.out _)).mono ?_;
         rintro e w9 ⟨B9, d9, rfl, hd9, F9, R9, b9⟩; have H9 := Lib.hid ((H8.out.alloc _).below b9 (by have := H8.out.lt; simp; omega)); obtain ⟨u0, u1, u2, u3, u4, u5, u6, u7, u8⟩ := H9.out.nine)
      )
    go_wp2
    rw [jump_ret]
    go_ret2
    have e0 : cKind S T X = 0 := by unfold cKind; rw [← HD.out]; exact hk
    have e1 : cLen S T X = 19 := by unfold cLen; rw [e0]; rfl
    have e2 : cNew S T X = (fulled D (X 0) (X 1) (X 2) (X 3) (X 4) (X 5) (X 6) (X 7)) := by unfold cNew; rw [e0, if_pos rfl, ← HD.out]
    have e3 : cState S T X = upd S i (fulled D (X 0) (X 1) (X 2) (X 3) (X 4) (X 5) (X 6) (X 7)) := by unfold cState; rw [e2, ← HI.out]
    have e4 : cFirst S T X = 0 + 4 * (i : Int) := by unfold cFirst; rw [e0, ← HI.out]; omega
    have hu : IntKind.u8.wrap (bits .or .i64 (IntKind.i64.wrap 0) (IntKind.i64.wrap ((i : Int) * 4))) = 0 + 4 * (i : Int) := (by decide : ∀ i : Fin 16, IntKind.u8.wrap (bits .or .i64 (IntKind.i64.wrap 0) (IntKind.i64.wrap ((i.1 : Int) * 4))) = 0 + 4 * (i.1 : Int)) ⟨i, hi16⟩
    have G9 : Keep1 g w w9 := ((((keep_of_below B5.out).trans G6.out).trans (keep_of_below b7')).trans (grownBy_drew (World.grownBy_refl _ _) : Keep1 g w7 w7.drew)).trans (G8.out.trans (keep_of_below (((Below.refl _ w8).alloc (Nat.le_refl _) _).trans (b9.mono (by simp)))))
    have K9 : CB w9 g true (upd (upd S i D) i (fulled ((upd S i D) i) (X 0) (X 1) (X 2) (X 3) (X 4) (X 5) (X 6) (X 7))) (T + 1) := (K8.out.alloc _).below b9 (by have := K8.out.lt; simp; omega)
    have R9b := R9
    rw [hu] at R9b
    refine ⟨B9, d9, ?_, ?_, F9.mono (by have q5 := B5.out.size; have q8 : w5.heap.size ≤ w8.heap.size := (by have e1 := b7'.size; have e2 := G8.out.size; have e3 : w7.drew.heap.size = w7.heap.size := rfl; omega); simp; omega), ?_, ?_, G9⟩
    · rw [e1]; rfl
    · rw [e1]; exact hd9
    · have ey : (fun j => joinY (cFirst S T X) (cBody S T X n z) j) = joinY (0 + 4 * (i : Int)) (fun j => if j < 19 then (if j = 0 then (fulled D (X 0) (X 1) (X 2) (X 3) (X 4) (X 5) (X 6) (X 7)).gen else z (j - 1)) else z (20 + (j - 19))) := by
        funext j
        rw [e4]
        congr 1
        funext j
        unfold cBody
        simp [catY, tot, cHead, e0, e1, e2]
      rw [e1]
      have h9 := R9b
      rw [upd_same] at h9
      show Row w9 w9.heap.size B9 (1 + (19 + (n - 20))) (fun j => Value.int .u8 ((fun j => joinY (cFirst S T X) (cBody S T X n z) j) j))
      rw [ey]
      exact h9
    · have k9 := K9
      rw [e3]; rw [upd_same, upd_upd] at k9; exact k9
  · rw [hk]
    have y0 : w7.cell? ⟨w.heap.size, 0, none⟩ = some (.int .i64 (X 0)) := H7.out.cell 0
    have y1 : w7.cell? ⟨w.heap.size, 1, none⟩ = some (.int .i64 (X 1)) := H7.out.cell 1
    have y2 : w7.cell? ⟨w.heap.size, 2, none⟩ = some (.int .i64 (X 2)) := H7.out.cell 2
    have y3 : w7.cell? ⟨w.heap.size, 3, none⟩ = some (.int .i64 (X 3)) := H7.out.cell 3
    have y4 : w7.cell? ⟨w.heap.size, 4, none⟩ = some (.int .i64 (X 4)) := H7.out.cell 4
    have y5 : w7.cell? ⟨w.heap.size, 5, none⟩ = some (.int .i64 (X 5)) := H7.out.cell 5
    have y6 : w7.cell? ⟨w.heap.size, 6, none⟩ = some (.int .i64 (X 6)) := H7.out.cell 6
    have y7 : w7.cell? ⟨w.heap.size, 7, none⟩ = some (.int .i64 (X 7)) := H7.out.cell 7
    have y8 : w7.cell? ⟨w.heap.size, 8, none⟩ = some (.int .i64 (X 8)) := H7.out.cell 8
    have hix : ∀ W : World, (Instr.index 102 (.agg #[.func (.func 47) #[] #[], .func (.func 48) #[] #[], .func (.func 49) #[] #[]]) (.int .i64 1)).run Try.prog W = .ok (.func (.func 48) #[] #[]) W := fun W => by kernel_rfl
    go_region_held3 (fun w' => w'.cell? ⟨w.heap.size, 0, none⟩ = some (.int .i64 (X 0)) ∧ w'.cell? ⟨w.heap.size, 1, none⟩ = some (.int .i64 (X 1)) ∧ w'.cell? ⟨w.heap.size, 2, none⟩ = some (.int .i64 (X 2)) ∧ w'.cell? ⟨w.heap.size, 3, none⟩ = some (.int .i64 (X 3)) ∧ w'.cell? ⟨w.heap.size, 4, none⟩ = some (.int .i64 (X 4)) ∧ w'.cell? ⟨w.heap.size, 5, none⟩ = some (.int .i64 (X 5)) ∧ w'.cell? ⟨w.heap.size, 6, none⟩ = some (.int .i64 (X 6)) ∧ w'.cell? ⟨w.heap.size, 7, none⟩ = some (.int .i64 (X 7)) ∧ w'.cell? ⟨w.heap.size, 8, none⟩ = some (.int .i64 (X 8))) (go_keep) (first
      | (go_at_call 48; refine (delta_ok g i (1 + i * 14) true (upd S i D) (T + 1) (X 0) (X 1) (X 2) (X 3) (X 4) (X 5) (X 6) (X 7) (X 8) _ hi16 (by omega) (by rw [upd_same]; exact hDok) b5 b6 b7 (by rw [upd_same]; exact n1) (by rw [upd_same]; exact n2) (by rw [upd_same]; exact t1) w7.drew K7.out.drew).mono ?_; rintro e w8 ⟨A8, c8, rfl, hc8, R8', K8', G8'⟩; have R8 := Lib.hid R8'; have K8 := Lib.hid K8'; have G8 := Lib.hid G8'; have H8 := Lib.hid (G8'.blk (show Blk w7.drew w.heap.size _ _ from H7.out) (by omega)); clear R8' K8' G8'; obtain ⟨v0, v1, v2, v3, v4, v5, v6, v7, v8⟩ := H8.out.nine)
      | (go_at_call 43;
         have SZ8 : w5.heap.size ≤ w8.heap.size := (by have e1 := b7'.size; have e2 := G8.out.size; have e3 : w7.drew.heap.size = w7.heap.size := rfl; omega);
         have hgP : ∀ a, P' = some a → a.block ≠ g := (fun a e => by have := HFR.out a e; simp at this; omega);
         have r6 : Row W6 w5.heap.size P' (n - 20) (fun j => .int .u8 (z (20 + j))) := G6.out.row RP5.out (Nat.le_refl _) hgP;
         have r7 : Row w7 w5.heap.size P' (n - 20) (fun j => .int .u8 (z (20 + j))) := r6.below (b7'.mono (Nat.le_of_eq hs6.symm));
         have RP8 := Lib.hid ((G8.out.row (show Row w7.drew w5.heap.size P' (n - 20) (fun j => .int .u8 (z (20 + j))) from r7) (by have e1 := b7'.size; show _ ≤ w7.heap.size; omega) hgP).more SZ8);
         refine (joined2_ok _ w8.heap.size A8 P' 5 c8 (n - 20) c3 _ _ (by decide) (by omega) (w8.alloc (.cells #[.slice A8 5 c8, .slice P' (n - 20) c3] 24)) (by simp) (cell_new_at w8 _ _ 0 rfl) (row_new R8.out _) (cell_new_at w8 _ _ 1 rfl) (row_new RP8.out _)).mono ?_;
         rintro e w9 ⟨B9, d9, rfl, hd9, F9, R9, b9⟩; have H9 := Lib.hid ((H8.out.alloc _).below b9 (by have := H8.out.lt; simp; omega)); obtain ⟨u0, u1, u2, u3, u4, u5, u6, u7, u8⟩ := H9.out.nine)
      )
    go_wp2
    rw [jump_ret]
    go_ret2
    have e0 : cKind S T X = 1 := by unfold cKind; rw [← HD.out]; exact hk
    have e1 : cLen S T X = 5 := by unfold cLen; rw [e0]; rfl
    have e2 : cNew S T X = (begun D (X 5) (X 6) (X 7) (kT D (X 7) / kN D (X 6))) := by unfold cNew; rw [e0, if_neg (by decide), if_pos rfl, ← HD.out]
    have e3 : cState S T X = upd S i (begun D (X 5) (X 6) (X 7) (kT D (X 7) / kN D (X 6))) := by unfold cState; rw [e2, ← HI.out]
    have e4 : cFirst S T X = 64 + 4 * (i : Int) := by unfold cFirst; rw [e0, ← HI.out]; omega
    have hu : IntKind.u8.wrap (bits .or .i64 (IntKind.i64.wrap 64) (IntKind.i64.wrap ((i : Int) * 4))) = 64 + 4 * (i : Int) := (by decide : ∀ i : Fin 16, IntKind.u8.wrap (bits .or .i64 (IntKind.i64.wrap 64) (IntKind.i64.wrap ((i.1 : Int) * 4))) = 64 + 4 * (i.1 : Int)) ⟨i, hi16⟩
    have G9 : Keep1 g w w9 := ((((keep_of_below B5.out).trans G6.out).trans (keep_of_below b7')).trans (grownBy_drew (World.grownBy_refl _ _) : Keep1 g w7 w7.drew)).trans (G8.out.trans (keep_of_below (((Below.refl _ w8).alloc (Nat.le_refl _) _).trans (b9.mono (by simp)))))
    have K9 : CB w9 g true (upd (upd S i D) i (begun ((upd S i D) i) (X 5) (X 6) (X 7) (kT ((upd S i D) i) (X 7) / kN ((upd S i D) i) (X 6)))) (T + 1) := (K8.out.alloc _).below b9 (by have := K8.out.lt; simp; omega)
    have R9b := R9
    rw [hu] at R9b
    refine ⟨B9, d9, ?_, ?_, F9.mono (by have q5 := B5.out.size; have q8 : w5.heap.size ≤ w8.heap.size := (by have e1 := b7'.size; have e2 := G8.out.size; have e3 : w7.drew.heap.size = w7.heap.size := rfl; omega); simp; omega), ?_, ?_, G9⟩
    · rw [e1]; rfl
    · rw [e1]; exact hd9
    · have ey : (fun j => joinY (cFirst S T X) (cBody S T X n z) j) = joinY (64 + 4 * (i : Int)) (fun j => if j < 5 then ([(begun D (X 5) (X 6) (X 7) (kT D (X 7) / kN D (X 6))).gen, kN D (X 6), kT D (X 7) / 256, kT D (X 7) % 256, X 5] : List Int).getD j 0 else z (20 + (j - 5))) := by
        funext j
        rw [e4]
        congr 1
        funext j
        unfold cBody
        simp [catY, tot, cHead, e0, e1, e2, ← HD.out]
      rw [e1]
      have h9 := R9b
      rw [upd_same] at h9
      show Row w9 w9.heap.size B9 (1 + (5 + (n - 20))) (fun j => Value.int .u8 ((fun j => joinY (cFirst S T X) (cBody S T X n z) j) j))
      rw [ey]
      exact h9
    · have k9 := K9
      rw [e3]; rw [upd_same, upd_upd] at k9; exact k9
  · rw [hk]
    have y0 : w7.cell? ⟨w.heap.size, 0, none⟩ = some (.int .i64 (X 0)) := H7.out.cell 0
    have y1 : w7.cell? ⟨w.heap.size, 1, none⟩ = some (.int .i64 (X 1)) := H7.out.cell 1
    have y2 : w7.cell? ⟨w.heap.size, 2, none⟩ = some (.int .i64 (X 2)) := H7.out.cell 2
    have y3 : w7.cell? ⟨w.heap.size, 3, none⟩ = some (.int .i64 (X 3)) := H7.out.cell 3
    have y4 : w7.cell? ⟨w.heap.size, 4, none⟩ = some (.int .i64 (X 4)) := H7.out.cell 4
    have y5 : w7.cell? ⟨w.heap.size, 5, none⟩ = some (.int .i64 (X 5)) := H7.out.cell 5
    have y6 : w7.cell? ⟨w.heap.size, 6, none⟩ = some (.int .i64 (X 6)) := H7.out.cell 6
    have y7 : w7.cell? ⟨w.heap.size, 7, none⟩ = some (.int .i64 (X 7)) := H7.out.cell 7
    have y8 : w7.cell? ⟨w.heap.size, 8, none⟩ = some (.int .i64 (X 8)) := H7.out.cell 8
    have hix : ∀ W : World, (Instr.index 102 (.agg #[.func (.func 47) #[] #[], .func (.func 48) #[] #[], .func (.func 49) #[] #[]]) (.int .i64 2)).run Try.prog W = .ok (.func (.func 49) #[] #[]) W := fun W => by kernel_rfl
    go_region_held3 (fun w' => w'.cell? ⟨w.heap.size, 0, none⟩ = some (.int .i64 (X 0)) ∧ w'.cell? ⟨w.heap.size, 1, none⟩ = some (.int .i64 (X 1)) ∧ w'.cell? ⟨w.heap.size, 2, none⟩ = some (.int .i64 (X 2)) ∧ w'.cell? ⟨w.heap.size, 3, none⟩ = some (.int .i64 (X 3)) ∧ w'.cell? ⟨w.heap.size, 4, none⟩ = some (.int .i64 (X 4)) ∧ w'.cell? ⟨w.heap.size, 5, none⟩ = some (.int .i64 (X 5)) ∧ w'.cell? ⟨w.heap.size, 6, none⟩ = some (.int .i64 (X 6)) ∧ w'.cell? ⟨w.heap.size, 7, none⟩ = some (.int .i64 (X 7)) ∧ w'.cell? ⟨w.heap.size, 8, none⟩ = some (.int .i64 (X 8))) (go_keep) (first
      | (go_at_call 49; refine (compact_ok g i (1 + i * 14) true (upd S i D) (T + 1) (X 0) (X 1) (X 2) (X 3) (X 4) (X 5) (X 6) (X 7) (X 8) _ hi16 (by omega) (by rw [upd_same]; exact hDok) b6 b7 (by rw [upd_same]; exact n1) (by rw [upd_same]; exact n2) w7.drew K7.out.drew).mono ?_; rintro e w8 ⟨A8, c8, rfl, hc8, R8', K8', G8'⟩; have R8 := Lib.hid R8'; have K8 := Lib.hid K8'; have G8 := Lib.hid G8'; have H8 := Lib.hid (G8'.blk (show Blk w7.drew w.heap.size _ _ from H7.out) (by omega)); clear R8' K8' G8'; obtain ⟨v0, v1, v2, v3, v4, v5, v6, v7, v8⟩ := H8.out.nine)
      | (go_at_call 43;
         have SZ8 : w5.heap.size ≤ w8.heap.size := (by have e1 := b7'.size; have e2 := G8.out.size; have e3 : w7.drew.heap.size = w7.heap.size := rfl; omega);
         have hgP : ∀ a, P' = some a → a.block ≠ g := (fun a e => by have := HFR.out a e; simp at this; omega);
         have r6 : Row W6 w5.heap.size P' (n - 20) (fun j => .int .u8 (z (20 + j))) := G6.out.row RP5.out (Nat.le_refl _) hgP;
         have r7 : Row w7 w5.heap.size P' (n - 20) (fun j => .int .u8 (z (20 + j))) := r6.below (b7'.mono (Nat.le_of_eq hs6.symm));
         have RP8 := Lib.hid ((G8.out.row (show Row w7.drew w5.heap.size P' (n - 20) (fun j => .int .u8 (z (20 + j))) from r7) (by have e1 := b7'.size; show _ ≤ w7.heap.size; omega) hgP).more SZ8);
         refine (joined2_ok _ w8.heap.size A8 P' 2 c8 (n - 20) c3 _ _ (by decide) (by omega) (w8.alloc (.cells #[.slice A8 2 c8, .slice P' (n - 20) c3] 24)) (by simp) (cell_new_at w8 _ _ 0 rfl) (row_new R8.out _) (cell_new_at w8 _ _ 1 rfl) (row_new RP8.out _)).mono ?_;
         rintro e w9 ⟨B9, d9, rfl, hd9, F9, R9, b9⟩; have H9 := Lib.hid ((H8.out.alloc _).below b9 (by have := H8.out.lt; simp; omega)); obtain ⟨u0, u1, u2, u3, u4, u5, u6, u7, u8⟩ := H9.out.nine)
      )
    go_wp2
    rw [jump_ret]
    go_ret2
    have e0 : cKind S T X = 2 := by unfold cKind; rw [← HD.out]; exact hk
    have e1 : cLen S T X = 2 := by unfold cLen; rw [e0]; rfl
    have e2 : cNew S T X = D := by unfold cNew; rw [e0, if_neg (by decide), if_neg (by decide)]; exact HD.out.symm
    have e3 : cState S T X = upd S i D := by unfold cState; rw [e2, ← HI.out]
    have e4 : cFirst S T X = 128 + 4 * (i : Int) := by unfold cFirst; rw [e0, ← HI.out]; omega
    have hu : IntKind.u8.wrap (bits .or .i64 (IntKind.i64.wrap 128) (IntKind.i64.wrap ((i : Int) * 4))) = 128 + 4 * (i : Int) := (by decide : ∀ i : Fin 16, IntKind.u8.wrap (bits .or .i64 (IntKind.i64.wrap 128) (IntKind.i64.wrap ((i.1 : Int) * 4))) = 128 + 4 * (i.1 : Int)) ⟨i, hi16⟩
    have G9 : Keep1 g w w9 := ((((keep_of_below B5.out).trans G6.out).trans (keep_of_below b7')).trans (grownBy_drew (World.grownBy_refl _ _) : Keep1 g w7 w7.drew)).trans (G8.out.trans (keep_of_below (((Below.refl _ w8).alloc (Nat.le_refl _) _).trans (b9.mono (by simp)))))
    have K9 : CB w9 g true (upd S i D) (T + 1) := (K8.out.alloc _).below b9 (by have := K8.out.lt; simp; omega)
    have R9b := R9
    rw [hu] at R9b
    refine ⟨B9, d9, ?_, ?_, F9.mono (by have q5 := B5.out.size; have q8 : w5.heap.size ≤ w8.heap.size := (by have e1 := b7'.size; have e2 := G8.out.size; have e3 : w7.drew.heap.size = w7.heap.size := rfl; omega); simp; omega), ?_, ?_, G9⟩
    · rw [e1]; rfl
    · rw [e1]; exact hd9
    · have ey : (fun j => joinY (cFirst S T X) (cBody S T X n z) j) = joinY (128 + 4 * (i : Int)) (fun j => if j < 2 then ([D.gen, kN D (X 6)] : List Int).getD j 0 else z (20 + (j - 2))) := by
        funext j
        rw [e4]
        congr 1
        funext j
        unfold cBody
        simp [catY, tot, cHead, e0, e1, ← HD.out]
      rw [e1]
      have h9 := R9b
      rw [upd_same] at h9
      show Row w9 w9.heap.size B9 (1 + (2 + (n - 20))) (fun j => Value.int .u8 ((fun j => joinY (cFirst S T X) (cBody S T X n z) j) j))
      rw [ey]
      exact h9
    · have k9 := K9
      rw [e3]; exact k9
end Go.Proofs.Ytofaghpflmeblaa
namespace Go.Proofs.Ytofaghpflmeblaa
open Go.RowKit

/-- a context of the reference -/
structure Cx where
  used : Bool
  h0 : Int
  h1 : Int
  h2 : Int
  h3 : Int
  h4 : Int
  h5 : Int
  h6 : Int
  h7 : Int
  h8 : Int
  gen : Int
  step : Int
  need : Bool
  turn : Int
def Cx.new : Cx := ⟨false, 0, 0, 0, 0, 0, 0, 0, 0, 0, -1, 0, false, 0⟩
def Cx.rx (c : Cx) : Rx := ⟨c.h5, c.h6, c.h7, c.used, c.h0, c.h1, c.h2, c.h3, c.h4, decide (0 ≤ c.gen), (if 0 ≤ c.gen then c.gen else 0), c.step, c.need, c.turn⟩
def updC (C : Nat → Cx) (i : Nat) (c : Cx) : Nat → Cx := fun j => if j = i then c else C j
def crx (C : Nat → Cx) : Nat → Rx := fun k => (C k).rx
structure Alike (x : Rx) (c : Cx) : Prop where
  form : x = { c.rx with need := x.need }
  need : c.used = true → x.need = c.need
  turn : 0 ≤ c.turn
  ok : x.Ok
  fresh : c.used = false → c = Cx.new
  gen : c.used = true → 0 ≤ c.gen ∧ c.gen < 256
theorem Alike.used {x : Rx} {c : Cx} (h : Alike x c) : x.used = c.used := by rw [h.form]; rfl
theorem Alike.same {x : Rx} {c : Cx} (h : Alike x c) (hu : c.used = true) : x = c.rx := by
  have := h.form
  rw [h.need hu] at this
  exact this
theorem alike_new : Alike Rx.zero Cx.new := ⟨rfl, fun h => (by cases h), by decide, ⟨by decide, by decide, by decide, by decide, by decide⟩, fun _ => rfl, fun h => (by cases h)⟩
theorem alike_fv (x : Rx) (c : Cx) (h : Alike x c) (X : Nat → Int) : fv (X 0) (X 1) (X 2) (X 3) (X 4) x = fv (X 0) (X 1) (X 2) (X 3) (X 4) c.rx := by rw [h.form]; rfl
theorem alike_kind (x : Rx) (c : Cx) (h : Alike x c) (h0 h1 h2 h3 h4 h5 h6 h7 : Int) (t : Int) : kindOf { x with turn := t } h0 h1 h2 h3 h4 h5 h6 h7 = kindOf { c.rx with turn := t } h0 h1 h2 h3 h4 h5 h6 h7 := by
  by_cases hu : c.used = true
  · rw [h.same hu]
  · have hu' : c.used = false := by simpa using hu
    have hx : x.used = false := h.used.trans hu'
    have e1 : noKind { x with turn := t } h0 h1 h2 h3 h4 h6 = true := by unfold noKind; simp [hx]
    have e2 : noKind { c.rx with turn := t } h0 h1 h2 h3 h4 h6 = true := by unfold noKind; simp [Cx.rx, hu']
    unfold kindOf
    rw [if_pos e1, if_pos e2]

section
variable (S : Nat → Rx) (C : Nat → Cx) (T : Int) (X : Nat → Int) (H : ∀ k, Alike (S k) (C k))
include H
theorem alike_place : cPlace S X = cPlace (crx C) X := by
  unfold cPlace
  congr 1
  funext k
  exact alike_fv _ _ (H k) X
theorem alike_cKind : cKind S T X = cKind (crx C) T X := by
  unfold cKind cTurned
  rw [← alike_place S C X H]
  exact alike_kind _ _ (H _) _ _ _ _ _ _ _ _ _
theorem alike_first : cFirst S T X = cFirst (crx C) T X := by
  unfold cFirst
  rw [alike_cKind S C T X H, alike_place S C X H]
theorem alike_len : cLen S T X = cLen (crx C) T X := by
  unfold cLen
  rw [alike_cKind S C T X H]
theorem alike_turned : cTurned S T X = { cTurned (crx C) T X with need := (S (cPlace S X)).need } := by
  unfold cTurned
  rw [← alike_place S C X H]
  conv => lhs; rw [(H _).form]
  rfl
theorem alike_eq (hu : (C (cPlace S X)).used = true) : cTurned S T X = cTurned (crx C) T X := by
  unfold cTurned
  rw [← alike_place S C X H, (H _).same hu]
  rfl
theorem alike_zero (hu : (C (cPlace S X)).used = false) : cKind S T X = 0 := by
  have hx : (S (cPlace S X)).used = false := (H _).used.trans hu
  unfold cKind kindOf
  rw [if_pos (by unfold noKind cTurned; simp [hx])]
theorem alike_newx : cNew S T X = cNew (crx C) T X := by
  have hk := alike_cKind S C T X H
  by_cases hu : (C (cPlace S X)).used = true
  · have e := alike_eq S C T X H hu
    unfold cNew
    rw [e, hk]
  · have h0 := alike_zero S C T X H (by simpa using hu)
    unfold cNew
    rw [← hk, if_pos h0, if_pos h0, alike_turned S C T X H]
    rfl
theorem alike_head (z : Nat → Int) (j : Nat) : cHead S T X z j = cHead (crx C) T X z j := by
  have hk := alike_cKind S C T X H
  have hn := alike_newx S C T X H
  by_cases hu : (C (cPlace S X)).used = true
  · have e := alike_eq S C T X H hu
    unfold cHead
    rw [e, hk, hn]
  · have h0 := alike_zero S C T X H (by simpa using hu)
    unfold cHead
    rw [← hk, if_pos h0, if_pos h0, hn]
theorem alike_body (n : Nat) (z : Nat → Int) : cBody S T X n z = cBody (crx C) T X n z := by
  unfold cBody
  have e1 : (fun k => if k = 0 then cLen S T X else n - 20) = (fun k => if k = 0 then cLen (crx C) T X else n - 20) := by rw [alike_len S C T X H]
  have e2 : (fun k => if k = 0 then cHead S T X z else fun j => z (20 + j)) = (fun k => if k = 0 then cHead (crx C) T X z else fun j => z (20 + j)) := by
    funext k
    by_cases h0 : k = 0
    · rw [if_pos h0, if_pos h0]; funext j; exact alike_head S C T X H z j
    · rw [if_neg h0, if_neg h0]
  rw [e1, e2]
end
/-- the reference's context behind a packet -/
def rNew (C : Nat → Cx) (T : Int) (X : Nat → Int) : Cx :=
  let c := C (cPlace (crx C) X)
  if cKind (crx C) T X = 0 then ⟨true, X 0, X 1, X 2, X 3, X 4, X 5, X 6, X 7, X 8, (c.gen + 1) % 256, 0, false, T + 1⟩
  else if cKind (crx C) T X = 1 then ⟨c.used, X 0, X 1, X 2, X 3, X 4, X 5, X 6, X 7, X 8, (c.gen + 1) % 256, kT (cTurned (crx C) T X) (X 7) / kN (cTurned (crx C) T X) (X 6), c.need, T + 1⟩
  else { c with turn := T + 1 }
def rState (C : Nat → Cx) (T : Int) (X : Nat → Int) : Nat → Cx := updC C (cPlace (crx C) X) (rNew C T X)
theorem kind_used (S : Nat → Rx) (T : Int) (X : Nat → Int) (h : cKind S T X ≠ 0) : (S (cPlace S X)).used = true ∧ (S (cPlace S X)).need = false ∧ sameFlow (S (cPlace S X)).f0 (S (cPlace S X)).f1 (S (cPlace S X)).f2 (S (cPlace S X)).f3 (S (cPlace S X)).f4 (X 0) (X 1) (X 2) (X 3) (X 4) = true ∧ 1 ≤ kN (cTurned S T X) (X 6) ∧ kN (cTurned S T X) (X 6) ≤ 255 := by
  unfold cKind kindOf at h
  by_cases hn : noKind (cTurned S T X) (X 0) (X 1) (X 2) (X 3) (X 4) (X 6) = true
  · rw [if_pos hn] at h; exact absurd rfl h
  · unfold noKind at hn
    simp only [Bool.or_eq_true, Bool.not_eq_true', decide_eq_true_eq, not_or] at hn
    obtain ⟨a, b, c, d, e⟩ := hn
    have ht : (cTurned S T X) = { S (cPlace S X) with turn := T + 1 } := rfl
    refine ⟨by simpa [ht] using a, by simpa [ht] using b, by simpa [ht] using c, by omega, by omega⟩
theorem alike_step (S : Nat → Rx) (C : Nat → Cx) (T : Int) (X : Nat → Int) (hT : 0 ≤ T) (b5 : 0 ≤ X 5 ∧ X 5 < 256) (b6 : 0 ≤ X 6 ∧ X 6 < 65536) (b7 : 0 ≤ X 7 ∧ X 7 < 16777216) (H : ∀ k, Alike (S k) (C k)) : ∀ k, Alike (cState S T X k) (rState C T X k) := by
  intro k
  unfold cState rState upd updC
  rw [← alike_place S C X H]
  by_cases hk : k = cPlace S X
  rotate_left
  · rw [if_neg hk, if_neg hk]; exact H k
  rw [if_pos hk, if_pos hk]
  have hp := alike_place S C X H
  have hkk := alike_cKind S C T X H
  have A := H (cPlace S X)
  rw [alike_newx S C T X H]
  have e0 : crx C (cPlace (crx C) X) = (C (cPlace S X)).rx := by rw [hp]; rfl
  have et : cTurned (crx C) T X = { (C (cPlace S X)).rx with turn := T + 1 } := by unfold cTurned; rw [e0]
  unfold cNew rNew
  simp only [← hp]
  obtain ⟨c, hc⟩ : ∃ c, c = C (cPlace S X) := ⟨_, rfl⟩
  rw [← hc] at A et ⊢
  rw [et]
  have hgen : (if (c.rx).began = true then ((c.rx).gen + 1) % 256 else (c.rx).gen) = (c.gen + 1) % 256 ∧ 0 ≤ (c.gen + 1) % 256 := by
    by_cases hu : c.used = true
    · have := (A.gen hu)
      constructor
      · simp [Cx.rx, this]
      · omega
    · rw [A.fresh (by simpa using hu)]; decide
  by_cases h0 : cKind (crx C) T X = 0
  · rw [if_pos h0, if_pos h0]
    refine ⟨?_, fun _ => rfl, ?_, ⟨b5, b6, b7, ?_, ?_⟩, fun h => (by cases h), fun _ => ⟨hgen.2, ?_⟩⟩
    · unfold fulled begun
      simp only [Cx.rx] at hgen ⊢
      simp only [hgen.1, hgen.2, decide_true, if_true]
    · show 0 ≤ T + 1; omega
    · show 0 ≤ (if (c.rx).began = true then ((c.rx).gen + 1) % 256 else (c.rx).gen) ∧ (if (c.rx).began = true then ((c.rx).gen + 1) % 256 else (c.rx).gen) < 256
      rw [hgen.1]; omega
    · exact ⟨by show (0 : Int) ≤ 0; omega, by show (0 : Int) < 65536; omega⟩
    · show (c.gen + 1) % 256 < 256; omega
  · rw [if_neg h0, if_neg h0]
    obtain ⟨hu', hn', _, n1, n2⟩ := kind_used (crx C) T X h0
    rw [e0, ← hc] at hu' hn'
    have hu : c.used = true := hu'
    have hne : c.need = false := hn'
    rw [et] at n1 n2
    have As := A.same hu
    have Ok := A.ok
    rw [As] at Ok
    by_cases h1 : cKind (crx C) T X = 1
    · rw [if_pos h1, if_pos h1]
      have ht : kT { c.rx with turn := T + 1 } (X 7) < 65536 := by
        have h1' := h1
        unfold cKind at h1'
        rw [et] at h1'
        unfold kindOf at h1'
        split at h1'
        · cases h1'
        · split at h1'
          · cases h1'
          · split at h1'
            · assumption
            · cases h1'
      have ht0 : 0 ≤ kT { c.rx with turn := T + 1 } (X 7) := by unfold kT; omega
      obtain ⟨t, htt⟩ : ∃ t, t = kT { c.rx with turn := T + 1 } (X 7) := ⟨_, rfl⟩
      obtain ⟨n, hnn⟩ : ∃ n, n = kN { c.rx with turn := T + 1 } (X 6) := ⟨_, rfl⟩
      rw [← htt] at ht ht0 ⊢
      rw [← hnn] at n1 n2 ⊢
      have q0 : 0 ≤ t / n := Int.ediv_nonneg ht0 (by omega)
      have q1 : t / n ≤ t := Int.ediv_le_self _ ht0
      have hsame : (c.used = true) := hu
      have hflow := (kind_used (crx C) T X h0).2.2.1
      rw [e0, ← hc] at hflow
      unfold sameFlow at hflow
      simp only [Bool.and_eq_true, beq_iff_eq] at hflow
      obtain ⟨f0, f1, f2, f3, f4⟩ := hflow
      simp only [Cx.rx] at f0 f1 f2 f3 f4
      refine ⟨?_, fun _ => rfl, ?_, ⟨b5, b6, b7, ?_, ?_⟩, fun h => ?_, fun _ => ⟨hgen.2, ?_⟩⟩
      · unfold begun
        simp only [Cx.rx] at hgen ⊢
        simp only [hgen.1, hgen.2, decide_true, if_true, f0, f1, f2, f3, f4]
      · show 0 ≤ T + 1; omega
      · show 0 ≤ (if (c.rx).began = true then ((c.rx).gen + 1) % 256 else (c.rx).gen) ∧ (if (c.rx).began = true then ((c.rx).gen + 1) % 256 else (c.rx).gen) < 256
        rw [hgen.1]; omega
      · exact ⟨q0, by show t / n < 65536; omega⟩
      · exact absurd h (by show ¬ c.used = false; rw [hu]; decide)
      · show (c.gen + 1) % 256 < 256; omega
    · rw [if_neg h1, if_neg h1]
      exact ⟨rfl, fun _ => rfl, by show 0 ≤ T + 1; omega, ⟨Ok.hops, Ok.ident, Ok.time, Ok.gen, Ok.step⟩, fun h => absurd h (by show ¬ c.used = false; rw [hu]; decide), fun h => A.gen hu⟩

/-- what the reference's Feedback does -/
def needC (C : Nat → Cx) (k : Nat) : Nat → Cx := if (C k).used then updC C k { C k with need := true } else C
theorem alike_need (S : Nat → Rx) (C : Nat → Cx) (q : Nat) (H : ∀ k, Alike (S k) (C k)) : ∀ k, Alike (needS S q k) (needC C q k) := by
  intro k
  have A := H q
  unfold needS needC upd
  by_cases hk : k = q
  · subst hk
    rw [if_pos rfl]
    by_cases hu : (C k).used = true
    · rw [if_pos hu]; unfold updC; rw [if_pos rfl]
      refine ⟨?_, fun _ => rfl, A.turn, ⟨A.ok.hops, A.ok.ident, A.ok.time, A.ok.gen, A.ok.step⟩, fun h => absurd h (by show ¬ (C k).used = false; rw [hu]; decide), fun _ => A.gen hu⟩
      rw [A.form]; rfl
    · rw [if_neg hu]
      refine ⟨?_, fun h => absurd h hu, A.turn, ⟨A.ok.hops, A.ok.ident, A.ok.time, A.ok.gen, A.ok.step⟩, A.fresh, A.gen⟩
      rw [A.form]
  · rw [if_neg hk]
    by_cases hu : (C q).used = true
    · rw [if_pos hu]; unfold updC; rw [if_neg hk]; exact H k
    · rw [if_neg hu]; exact H k
end Go.Proofs.Ytofaghpflmeblaa
namespace Go.Proofs.Ytofaghpflmeblaa
open Go.RowKit

attribute [local go_sem ↓] Go.wp_at_zero Go.wp_at_succ

def Xw (id : Nat) (j : Nat) : Int := ([1, 2, 3, 4, 5, 6, (id : Int), 8, 21] : List Int).getD j 0
def hk (id : Nat) (j : Nat) : Int := ([1, 2, 3, 4, 5, 6, (id : Int), 8, 0] : List Int).getD j 0
def wpk (id : Nat) (j : Nat) : Int := ([81, 0, 2, 0, 0, 0, 3, 0, 0, 0, 4, 5, 6, 0, (id : Int), 0, 0, 8, 0, 21, 170] : List Int).getD j 0
theorem wpk_pkt : ∀ id, id < 16 → ∀ j, j < 21 → pktAt (withLen (hk id) (20 + (1 : Nat))) (fun _ => 170) j = wpk id j := by decide +kernel
theorem wpk_byte : ∀ id, id < 16 → ∀ j, j < 21 → 0 ≤ wpk id j ∧ wpk id j < 256 := by decide +kernel
theorem wpk_valid : ∀ id, id < 16 → validB (withLen (hk id) (20 + (1 : Nat))) = true := by decide +kernel
theorem wpk_err : ∀ id, id < 16 → pErr 21 (wpk id) = 0 := by decide +kernel
theorem wpk_hdr9 : ∀ id, id < 16 → ∀ j, j < 9 → pHdr 21 (wpk id) j = Xw id j := by decide +kernel
theorem wpk_hdr (id : Nat) (h : id < 16) : pHdr 21 (wpk id) = Xw id := by
  funext j
  by_cases hj : j < 9
  · exact wpk_hdr9 id h j hj
  · unfold pHdr gpart Xw
    rw [if_pos (wpk_err id h), if_neg (by omega)]
    rw [List.getD, List.getElem?_eq_none (by simp; omega)]; rfl

def PkOut (id : Nat) (w : World) (e : Ending) (w' : World) : Prop :=
  ∃ b c, e = .returned (.slice (some ⟨b, 0, none⟩) 21 c) ∧ 21 ≤ c ∧ w.heap.size ≤ b ∧ Row w' w'.heap.size (some ⟨b, 0, none⟩) 21 (fun j => .int .u8 (wpk id j)) ∧ Below w.heap.size w w'
theorem rb43 (id : Nat) (hid : id < 16) (W : World) (N : Nat) (hN : W.heap.size = N) : Calls Try.prog 27 #[.agg #[.int .i64 1, .int .i64 2, .int .i64 3, .int .i64 4, .int .i64 5, .int .i64 6, .int .i64 (id : Int), .int .i64 8, .int .i64 0], .slice (some ⟨N, 0, none⟩) 1 1] (W.alloc (.cells #[.int .u8 170] 5)) fun e w' =>
    ∃ b c, e = .returned (.tuple #[.slice (some ⟨b, 0, none⟩) 21 c, .int .i64 0]) ∧ 21 ≤ c ∧ W.heap.size ≤ b ∧ Row w' w'.heap.size (some ⟨b, 0, none⟩) 21 (fun j => .int .u8 (wpk id j)) ∧ Below W.heap.size W w' := by
  subst hN
  refine (rbuild_good (hk id) (some ⟨W.heap.size, 0, none⟩) 1 1 (fun _ => 170) (by decide) (wpk_valid id hid) _ ((Blk.new W 5 #[.int .u8 170]).one_row (by simp))).mono ?_
  rintro e w' ⟨A, c, rfl, hc, ho, hb⟩
  obtain ⟨g, c', hv, h1, h2⟩ := own_form ho (by decide)
  obtain ⟨rfl, rfl⟩ : A = some ⟨g, 0, none⟩ ∧ c = c' := by (cases hv; exact ⟨rfl, rfl⟩)
  exact ⟨g, c, rfl, hc, Nat.le_trans (by simp) h1, (own_map_row ho).2.congr (fun j hj => by rw [wpk_pkt id hid j hj]), ((Below.refl _ W).alloc (Nat.le_refl _) _).trans (hb.mono (by simp))⟩
theorem COut.to {len len' : Nat} {y y' : Nat → Int} {err : Int} {g : Nat} {S S' : Nat → Rx} {T T' : Int} {w : World} {e : Ending} {w' : World} (h : COut len y err g S T w e w') (hl : len = len') (hy : ∀ j, j < len' → y j = y' j) (hS : S = S') (hT : T = T') : COut len' y' err g S' T' w e w' := by
  subst hl hS hT
  obtain ⟨A, c, he, hc, hF, hR, hK, hE⟩ := h
  exact ⟨A, c, he, hc, hF, hR.congr (fun j hj => by rw [hy j hj]), hK, hE⟩
def S0 : Nat → Rx := fun _ => Rx.zero
def wc1 : Rx := ⟨6, 7, 8, true, 1, 2, 3, 4, 5, true, 0, 0, false, 1⟩
def wc2 : Rx := ⟨6, 7, 8, true, 1, 2, 3, 4, 5, true, 0, 0, false, 2⟩
def wc3 : Rx := ⟨6, 7, 8, true, 1, 2, 3, 4, 5, true, 0, 0, false, 3⟩
def wc30 : Rx := ⟨6, 7, 8, true, 1, 2, 3, 4, 5, true, 0, 0, true, 3⟩
def wc4 : Rx := ⟨6, 11, 8, true, 1, 2, 3, 4, 5, true, 1, 0, false, 4⟩
def wy1 (j : Nat) : Int := ([0, 0, 81, 0, 2, 0, 0, 0, 3, 0, 0, 0, 4, 5, 6, 0, 7, 0, 0, 8, 170] : List Int).getD j 0
theorem wy1_str : bytesOf 21 wy1 = ⟨#[0, 0, 81, 0, 2, 0, 0, 0, 3, 0, 0, 0, 4, 5, 6, 0, 7, 0, 0, 8, 170]⟩ := by decide +kernel
def wy2 (j : Nat) : Int := ([128, 0, 1, 170] : List Int).getD j 0
theorem wy2_str : bytesOf 4 wy2 = ⟨#[128, 0, 1, 170]⟩ := by decide +kernel
def wy3 (j : Nat) : Int := ([128, 0, 3, 170] : List Int).getD j 0
theorem wy3_str : bytesOf 4 wy3 = ⟨#[128, 0, 3, 170]⟩ := by decide +kernel
def wy4 (j : Nat) : Int := ([0, 1, 81, 0, 2, 0, 0, 0, 3, 0, 0, 0, 4, 5, 6, 0, 11, 0, 0, 8, 170] : List Int).getD j 0
theorem wy4_str : bytesOf 21 wy4 = ⟨#[0, 1, 81, 0, 2, 0, 0, 0, 3, 0, 0, 0, 4, 5, 6, 0, 11, 0, 0, 8, 170]⟩ := by decide +kernel
def wy5 (j : Nat) : Int := ([192, 1] : List Int).getD j 0
theorem wy5_str : bytesOf 2 wy5 = ⟨#[192, 1]⟩ := by decide +kernel
theorem S0_ok : ∀ i, i < 16 → (S0 i).Ok := fun i _ => ⟨by show (0 : Int) ≤ 0 ∧ (0 : Int) < 256; decide, by show (0 : Int) ≤ 0 ∧ (0 : Int) < 65536; decide, by show (0 : Int) ≤ 0 ∧ (0 : Int) < 16777216; decide, by show (0 : Int) ≤ 0 ∧ (0 : Int) < 256; decide, by show (0 : Int) ≤ 0 ∧ (0 : Int) < 65536; decide⟩
theorem upd_ok {S : Nat → Rx} (h : ∀ i, i < 16 → (S i).Ok) (k : Nat) (c : Rx) (hc : c.Ok) : ∀ i, i < 16 → (upd S k c i).Ok := fun i hi => by
  unfold upd
  split
  · exact hc
  · exact h i hi
theorem wc1_ok : wc1.Ok := ⟨by decide, by decide, by decide, by decide, by decide⟩
theorem wc2_ok : wc2.Ok := ⟨by decide, by decide, by decide, by decide, by decide⟩
theorem wc3_ok : wc3.Ok := ⟨by decide, by decide, by decide, by decide, by decide⟩
theorem wc30_ok : wc30.Ok := ⟨by decide, by decide, by decide, by decide, by decide⟩
theorem wc4_ok : wc4.Ok := ⟨by decide, by decide, by decide, by decide, by decide⟩
theorem ws1 : cState S0 0 (Xw 7) = upd S0 0 wc1 := by
  have e1 : cPlace S0 (Xw 7) = 0 := by decide +kernel
  have e2 : cNew S0 0 (Xw 7) = wc1 := by kernel_rfl
  unfold cState
  rw [e1, e2]
theorem wl1 : cLen S0 0 (Xw 7) = 19 := by decide +kernel
theorem wz1 : ∀ j, j < 21 → joinY (cFirst S0 0 (Xw 7)) (cBody S0 0 (Xw 7) 21 (wpk 7)) j = wy1 j := by decide +kernel
theorem cw1 (g b c : Nat) (w : World) (h : CB w g true S0 0) (hc : 21 ≤ c) (hr : Row w w.heap.size (some ⟨b, 0, none⟩) 21 (fun j => .int .u8 (wpk 7 j))) (hg : b ≠ g) :
    Calls Try.prog 25 #[.pointer (some ⟨g, 0, none⟩), .slice (some ⟨b, 0, none⟩) 21 c] w (COut 21 wy1 0 g (upd S0 0 wc1) 1 w) :=
  (compress_good g S0 0 b 0 21 c (wpk 7) w h S0_ok (by decide) (wpk_err 7 (by decide)) hc (wpk_byte 7 (by decide)) hr hg).mono fun e w' ho => by
    rw [wpk_hdr 7 (by decide)] at ho
    exact ho.to (by rw [wl1]) wz1 ws1 (by decide)
theorem ws2 : cState (upd S0 0 wc1) 1 (Xw 8) = upd S0 0 wc2 := by
  have e1 : cPlace (upd S0 0 wc1) (Xw 8) = 0 := by decide +kernel
  have e2 : cNew (upd S0 0 wc1) 1 (Xw 8) = wc2 := by kernel_rfl
  unfold cState
  rw [e1, e2]; exact upd_upd _ _ _ _
theorem wl2 : cLen (upd S0 0 wc1) 1 (Xw 8) = 2 := by decide +kernel
theorem wz2 : ∀ j, j < 4 → joinY (cFirst (upd S0 0 wc1) 1 (Xw 8)) (cBody (upd S0 0 wc1) 1 (Xw 8) 21 (wpk 8)) j = wy2 j := by decide +kernel
theorem cw2 (g b c : Nat) (w : World) (h : CB w g true (upd S0 0 wc1) 1) (hc : 21 ≤ c) (hr : Row w w.heap.size (some ⟨b, 0, none⟩) 21 (fun j => .int .u8 (wpk 8 j))) (hg : b ≠ g) :
    Calls Try.prog 25 #[.pointer (some ⟨g, 0, none⟩), .slice (some ⟨b, 0, none⟩) 21 c] w (COut 4 wy2 0 g (upd S0 0 wc2) 2 w) :=
  (compress_good g (upd S0 0 wc1) 1 b 0 21 c (wpk 8) w h (upd_ok S0_ok 0 wc1 wc1_ok) (by decide) (wpk_err 8 (by decide)) hc (wpk_byte 8 (by decide)) hr hg).mono fun e w' ho => by
    rw [wpk_hdr 8 (by decide)] at ho
    exact ho.to (by rw [wl2]) wz2 ws2 (by decide)
theorem ws3 : cState (upd S0 0 wc2) 2 (Xw 10) = upd S0 0 wc3 := by
  have e1 : cPlace (upd S0 0 wc2) (Xw 10) = 0 := by decide +kernel
  have e2 : cNew (upd S0 0 wc2) 2 (Xw 10) = wc3 := by kernel_rfl
  unfold cState
  rw [e1, e2]; exact upd_upd _ _ _ _
theorem wl3 : cLen (upd S0 0 wc2) 2 (Xw 10) = 2 := by decide +kernel
theorem wz3 : ∀ j, j < 4 → joinY (cFirst (upd S0 0 wc2) 2 (Xw 10)) (cBody (upd S0 0 wc2) 2 (Xw 10) 21 (wpk 10)) j = wy3 j := by decide +kernel
theorem cw3 (g b c : Nat) (w : World) (h : CB w g true (upd S0 0 wc2) 2) (hc : 21 ≤ c) (hr : Row w w.heap.size (some ⟨b, 0, none⟩) 21 (fun j => .int .u8 (wpk 10 j))) (hg : b ≠ g) :
    Calls Try.prog 25 #[.pointer (some ⟨g, 0, none⟩), .slice (some ⟨b, 0, none⟩) 21 c] w (COut 4 wy3 0 g (upd S0 0 wc3) 3 w) :=
  (compress_good g (upd S0 0 wc2) 2 b 0 21 c (wpk 10) w h (upd_ok S0_ok 0 wc2 wc2_ok) (by decide) (wpk_err 10 (by decide)) hc (wpk_byte 10 (by decide)) hr hg).mono fun e w' ho => by
    rw [wpk_hdr 10 (by decide)] at ho
    exact ho.to (by rw [wl3]) wz3 ws3 (by decide)
theorem ws4 : cState (upd S0 0 wc30) 3 (Xw 11) = upd S0 0 wc4 := by
  have e1 : cPlace (upd S0 0 wc30) (Xw 11) = 0 := by decide +kernel
  have e2 : cNew (upd S0 0 wc30) 3 (Xw 11) = wc4 := by kernel_rfl
  unfold cState
  rw [e1, e2]; exact upd_upd _ _ _ _
theorem wl4 : cLen (upd S0 0 wc30) 3 (Xw 11) = 19 := by decide +kernel
theorem wz4 : ∀ j, j < 21 → joinY (cFirst (upd S0 0 wc30) 3 (Xw 11)) (cBody (upd S0 0 wc30) 3 (Xw 11) 21 (wpk 11)) j = wy4 j := by decide +kernel
theorem cw4 (g b c : Nat) (w : World) (h : CB w g true (upd S0 0 wc30) 3) (hc : 21 ≤ c) (hr : Row w w.heap.size (some ⟨b, 0, none⟩) 21 (fun j => .int .u8 (wpk 11 j))) (hg : b ≠ g) :
    Calls Try.prog 25 #[.pointer (some ⟨g, 0, none⟩), .slice (some ⟨b, 0, none⟩) 21 c] w (COut 21 wy4 0 g (upd S0 0 wc4) 4 w) :=
  (compress_good g (upd S0 0 wc30) 3 b 0 21 c (wpk 11) w h (upd_ok S0_ok 0 wc30 wc30_ok) (by decide) (wpk_err 11 (by decide)) hc (wpk_byte 11 (by decide)) hr hg).mono fun e w' ho => by
    rw [wpk_hdr 11 (by decide)] at ho
    exact ho.to (by rw [wl4]) wz4 ws4 (by decide)
theorem cw5 (g b c : Nat) (S : Nat → Rx) (T : Int) (w : World) (h : CB w g true S T) (hr : Row w w.heap.size (some ⟨b, 0, none⟩) 1 (fun _ => .int .u8 1)) (hc : 1 ≤ c) :
    Calls Try.prog 25 #[.pointer (some ⟨g, 0, none⟩), .slice (some ⟨b, 0, none⟩) 1 c] w (COut 2 wy5 0 g S T w) :=
  (compress_raw g S T (some ⟨b, 0, none⟩) 1 c (fun _ => 1) w h (by decide) (by decide) hc (fun _ _ => by decide) hr).mono fun e w' ho => ho.to rfl (by decide +kernel) rfl rfl
theorem wf1 : feedS (upd S0 0 wc3) (fun _ => 160) 1 = upd S0 0 wc30 := by
  have e1 : anyBad (fun _ => 160) 1 = false := by decide +kernel
  unfold feedS
  rw [e1]
  show upd (upd S0 0 wc3) 0 wc30 = _
  exact upd_upd _ _ _ _
end Go.Proofs.Ytofaghpflmeblaa
namespace Go.Proofs.Ytofaghpflmeblaa
open Go.RowKit

attribute [local go_sem ↓] Go.wp_at_zero Go.wp_at_succ

theorem new_ok2 (w : World) : Calls Try.prog 24 #[] w fun e w' => e = .returned (.pointer (some ⟨w.heap.size, 0, none⟩)) ∧ CB w' w.heap.size true S0 0 ∧ Below w.heap.size w w' :=
  (new_ok w).mono fun e w' ⟨he, hw⟩ => ⟨he, by rw [← hw]; exact Blk.new _ _ _, by rw [← hw]; exact (Below.refl _ w).alloc (Nat.le_refl _) _⟩
theorem cw5a (g : Nat) (S : Nat → Rx) (T : Int) (w : World) (N : Nat) (hN : w.heap.size = N) (h : CB w g true S T) :
    Calls Try.prog 25 #[.pointer (some ⟨g, 0, none⟩), .slice (some ⟨N, 0, none⟩) 1 1] (w.alloc (.cells #[.int .u8 1] 5)) (COut 2 wy5 0 g S T w) := by
  subst hN
  refine (cw5 g w.heap.size 1 S T _ (h.alloc _) ((Blk.new w 5 #[.int .u8 1]).one_row (by simp)) (by decide)).mono ?_
  rintro e w' ⟨A, c, he, hc, hF, hR, hK, hE⟩
  exact ⟨A, c, he, hc, hF.mono (by simp), hR, hK, (keep_of_below ((Below.refl _ w).alloc (Nat.le_refl _) _)).trans hE⟩
theorem cw6 (g : Nat) (S : Nat → Rx) (T : Int) (w : World) (h : CB w g true S T) :
    Calls Try.prog 25 #[.pointer (some ⟨g, 0, none⟩), .slice none 0 0] w fun e w' => e = .returned (.tuple #[.slice none 0 0, .int .i64 2]) ∧ Below w.heap.size w w' :=
  compress_bad g S T none 0 0 w h (by decide)
theorem wfb1 (g : Nat) (w : World) (N : Nat) (hN : w.heap.size = N) (h : CB w g true (upd S0 0 wc3) 3) :
    Calls Try.prog 26 #[.pointer (some ⟨g, 0, none⟩), .slice (some ⟨N, 0, none⟩) 1 1] (w.alloc (.cells #[.int .u8 160] 5)) (FOut 0 g true (upd S0 0 wc30) 3 w) := by
  subst hN
  refine (feedback_ok g (upd S0 0 wc3) 3 (some ⟨w.heap.size, 0, none⟩) 1 1 (fun _ => 160) (by decide) (fun _ _ => by decide) _ (h.alloc _) ((Blk.new w 5 #[.int .u8 160]).one_row (by simp)) (fun a e _ => by cases e; have := h.lt; simp; omega)).mono ?_
  rintro e w' ⟨he, hK, hE⟩
  rw [wf1] at hK
  exact ⟨he, hK, (keep_of_below ((Below.refl _ w).alloc (Nat.le_refl _) _)).trans hE⟩
theorem wfb2 (g : Nat) (S : Nat → Rx) (T : Int) (w : World) (N : Nat) (hN : w.heap.size = N) (h : CB w g true S T) :
    Calls Try.prog 26 #[.pointer (some ⟨g, 0, none⟩), .slice (some ⟨N, 0, none⟩) 1 1] (w.alloc (.cells #[.int .u8 176] 5)) (FOut 9 g true S T w) := by
  subst hN
  refine (feedback_ok g S T (some ⟨w.heap.size, 0, none⟩) 1 1 (fun _ => 176) (by decide) (fun _ _ => by decide) _ (h.alloc _) ((Blk.new w 5 #[.int .u8 176]).one_row (by simp)) (fun a e _ => by cases e; have := h.lt; simp; omega)).mono ?_
  rintro e w' ⟨he, hK, hE⟩
  have e1 : anyBad (fun _ => 176) 1 = true := by decide +kernel
  unfold feedErr at he
  unfold feedS at hK
  rw [if_pos e1] at he hK
  exact ⟨he, hK, (keep_of_below ((Below.refl _ w).alloc (Nat.le_refl _) _)).trans hE⟩
theorem Row.stay {g B n : Nat} {A : Option Addr} {v : Nat → Value} {w w' : World} (h : Row w w.heap.size A n v) (hF : Fresh B A) (hg : g < B) (K : Keep1 g w w') : Row w' w'.heap.size A n v :=
  (K.row h (Nat.le_refl _) (fun a e => by have := hF a e; omega)).more K.size
theorem below_keep {B g : Nat} {w w1 w' : World} (h : Below B w w1) (k : Keep1 g w1 w') (hg : B ≤ g) (hB : B ≤ w1.heap.size) : Below B w w' :=
  ⟨k.os.trans h.os, k.tape.trans h.tape, k.output.trans h.output, Nat.le_trans h.size k.size, fun i hi => (k.block i (by omega) (fun e => by cases e; omega)).trans (h.block i hi)⟩

end Go.Proofs.Ytofaghpflmeblaa
namespace Go.Proofs.Ytofaghpflmeblaa
open Go.RowKit

attribute [local go_sem ↓] Go.wp_at_zero Go.wp_at_succ

def coLen (S : Nat → Rx) (T : Int) (n : Nat) (z : Nat → Int) : Nat := if ckErr n ≠ 0 then 0 else if pErr n z ≠ 0 then 1 + n else 1 + (cLen S T (pHdr n z) + (n - 20))
def coY (S : Nat → Rx) (T : Int) (n : Nat) (z : Nat → Int) : Nat → Int := if pErr n z ≠ 0 then joinY 192 z else joinY (cFirst S T (pHdr n z)) (cBody S T (pHdr n z) n z)
def coS (S : Nat → Rx) (T : Int) (n : Nat) (z : Nat → Int) : Nat → Rx := if pErr n z ≠ 0 then S else cState S T (pHdr n z)
def coT (T : Int) (n : Nat) (z : Nat → Int) : Int := if pErr n z ≠ 0 then T else T + 1
theorem ckErr_p (n : Nat) (z : Nat → Int) (h : ckErr n ≠ 0) : pErr n z ≠ 0 := by
  intro hp
  obtain ⟨h1, h2, _⟩ := pErr_good n z hp
  exact h (by unfold ckErr; rw [if_neg (by omega), if_neg (by omega)])
theorem compress_any (g : Nat) (S : Nat → Rx) (T : Int) (A : Option Addr) (n c : Nat) (z : Nat → Int) (w : World) (h : CB w g true S T) (hok : ∀ i, i < 16 → (S i).Ok) (hT : 0 ≤ T ∧ T < 4611686018427387904) (hnc : n ≤ c) (hz : ∀ j, j < n → 0 ≤ z j ∧ z j < 256) (hr : Row w w.heap.size A n (fun j => .int .u8 (z j))) (hlg : ∀ a, A = some a → a.block ≠ g) :
    Calls Try.prog 25 #[.pointer (some ⟨g, 0, none⟩), .slice A n c] w (COut (coLen S T n z) (coY S T n z) (ckErr n) g (coS S T n z) (coT T n z) w) := by
  unfold coLen coY coS coT
  by_cases he : ckErr n = 0
  · rw [if_neg (not_not_intro he), he]
    by_cases hp : pErr n z = 0
    · rw [if_neg (not_not_intro hp), if_neg (not_not_intro hp), if_neg (not_not_intro hp), if_neg (not_not_intro hp)]
      obtain ⟨n20, _, _⟩ := pErr_good n z hp
      obtain ⟨lb, lo, rfl, _, _⟩ := hr (by omega)
      exact compress_good g S T lb lo n c z w h hok hT hp hnc hz hr (hlg _ rfl)
    · rw [if_pos hp, if_pos hp, if_pos hp, if_pos hp]
      exact compress_raw g S T A n c z w h he hp hnc hz hr
  · have hp := ckErr_p n z he
    rw [if_pos he, if_pos hp, if_pos hp, if_pos hp]
    exact (compress_bad g S T A n c w h he).mono fun e w' ⟨h1, h2⟩ => ⟨none, 0, h1, Nat.le_refl _, fresh_none _, Row.nil, CB.below h h2 h.lt, keep_of_below h2⟩
theorem co_ok (S : Nat → Rx) (T : Int) (n : Nat) (z : Nat → Int) (hok : ∀ i, i < 16 → (S i).Ok) : ∀ i, i < 16 → (coS S T n z i).Ok := by
  intro i hi
  unfold coS
  by_cases hp : pErr n z = 0
  · rw [if_neg (not_not_intro hp)]
    have hO := hok (cPlace S (pHdr n z)) (cPlace_lt _ _)
    have b5 := pHdr_lt n z 5
    have b6 := pHdr_lt n z 6
    have b7 := pHdr_lt n z 7
    have e5 : ((2 ^ pwd (5 + 1) : Nat) : Int) = 256 := by decide
    have e6 : ((2 ^ pwd (6 + 1) : Nat) : Int) = 65536 := by decide
    have e7 : ((2 ^ pwd (7 + 1) : Nat) : Int) = 16777216 := by decide
    rw [e5] at b5
    rw [e6] at b6
    rw [e7] at b7
    obtain ⟨X, hX⟩ : ∃ X, X = pHdr n z := ⟨_, rfl⟩
    rw [← hX] at b5 b6 b7 hO ⊢
    have hgen : ∀ s : Int, 0 ≤ (begun (cTurned S T X) (X 5) (X 6) (X 7) s).gen ∧ (begun (cTurned S T X) (X 5) (X 6) (X 7) s).gen < 256 := fun s => by
      have := hO.gen
      show 0 ≤ (if (S (cPlace S X)).began = true then ((S (cPlace S X)).gen + 1) % 256 else (S (cPlace S X)).gen) ∧ (if (S (cPlace S X)).began = true then ((S (cPlace S X)).gen + 1) % 256 else (S (cPlace S X)).gen) < 256
      split <;> omega
    unfold cState upd
    split
    · unfold cNew
      split
      · exact ⟨b5, b6, b7, hgen 0, by show (0 : Int) ≤ 0 ∧ (0 : Int) < 65536; decide⟩
      · split
        · rename_i h0 h1
          obtain ⟨_, _, _, n1, n2⟩ := kind_used S T X h0
          have ht : kT (cTurned S T X) (X 7) < 65536 := by
            have h1' := h1
            unfold cKind kindOf at h1'
            split at h1'
            · cases h1'
            · split at h1'
              · cases h1'
              · split at h1'
                · assumption
                · cases h1'
          have ht0 : 0 ≤ kT (cTurned S T X) (X 7) := by unfold kT; omega
          have q0 : 0 ≤ kT (cTurned S T X) (X 7) / kN (cTurned S T X) (X 6) := Int.ediv_nonneg ht0 (by omega)
          have q1 : kT (cTurned S T X) (X 7) / kN (cTurned S T X) (X 6) ≤ kT (cTurned S T X) (X 7) := Int.ediv_le_self _ ht0
          exact ⟨b5, b6, b7, hgen _, q0, by show kT (cTurned S T X) (X 7) / kN (cTurned S T X) (X 6) < 65536; omega⟩
        · exact ⟨hO.hops, hO.ident, hO.time, hO.gen, hO.step⟩
    · exact hok i hi
  · rw [if_pos hp]; exact hok i hi
end Go.Proofs.Ytofaghpflmeblaa
namespace Go.Proofs.Ytofaghpflmeblaa
open Go.RowKit

attribute [local go_sem ↓] Go.wp_at_zero Go.wp_at_succ

theorem long_raw (g : Nat) (S : Nat → Rx) (T : Int) (N : Nat) (w : World) (hN : w.heap.size = N) (h : CB w g true S T) :
    Calls Try.prog 25 #[.pointer (some ⟨g, 0, none⟩), .slice (some ⟨N, 0, none⟩) 9000 9000] (w.alloc (.cells (madeCells #[.int .u8 0] 9000) 5)) (fun e w' => ∃ lb lo c, e = .returned (.tuple #[.slice (some ⟨lb, lo, none⟩) 9001 c, .int .i64 0]) ∧ w'.cell? ⟨lb, lo, none⟩ = some (.int .u8 192) ∧ Keep1 g w w') := by
  subst hN
  have hp : pErr 9000 (fun _ => 0) ≠ 0 := by decide +kernel
  have hb : Below w.heap.size w (w.alloc (.cells (madeCells #[.int .u8 0] 9000) 5)) := (Below.refl _ w).alloc (Nat.le_refl _) _
  refine (compress_raw g S T (some ⟨w.heap.size, 0, none⟩) 9000 9000 (fun _ => 0) _ (h.alloc _) (by decide) hp (Nat.le_refl _) (fun _ _ => by decide) (fun _ => ⟨w.heap.size, 0, rfl, by simp, fun j hj => ?_⟩)).mono ?_
  · rw [show (0 : Nat) + j = j by omega]
    exact (Blk.cell (Blk.new w _ _) j).trans (by unfold madeCells; simp [hj, Nat.mod_one])
  · rintro e w' ⟨A, c, he, hc, hF, hR, hK, hE⟩
    obtain ⟨lb, lo, rfl, _, hcl⟩ := hR (by omega)
    exact ⟨lb, lo, c, he, hcl 0 (by omega), (keep_of_below hb).trans hE⟩
theorem long_bad (g : Nat) (S : Nat → Rx) (T : Int) (A : Option Addr) (c : Nat) (w : World) (h : CB w g true S T) :
    Calls Try.prog 25 #[.pointer (some ⟨g, 0, none⟩), .slice A 9001 c] w fun e w' => e = .returned (.tuple #[.slice none 0 0, .int .i64 4]) ∧ Below w.heap.size w w' :=
  compress_bad g S T A 9001 c w h (by decide)

end Go.Proofs.Ytofaghpflmeblaa
namespace Go.Proofs.Ytofaghpflmeblaa
open Go.RowKit Go.Shelf

attribute [local go_sem] Oper.semAt_some

theorem blk_at (W : World) (t : TypeId) (cs : Array Value) (N : Nat) (hN : W.heap.size = N) : Blk (W.alloc (.cells cs t)) N t cs := by
  subst hN; exact Blk.new W t cs
/-- the contexts as an array's cells -/
def caArr (S : Nat → Rx) : Array Value := Array.ofFn (n := 224) fun j => (S (j.1 / 14)).cell (j.1 % 14)
theorem caArr_size (S : Nat → Rx) : (caArr S).size = 224 := by simp [caArr]
theorem caArr_at (S : Nat → Rx) (j : Nat) (hj : j < 224) : (caArr S)[j]? = some ((S (j / 14)).cell (j % 14)) := by
  unfold caArr; simp [hj]
theorem zero89 : Try.zeroCells91 = caArr (fun _ => Rx.zero) := by kernel_rfl
theorem size89 : (Try.prog.info? 91).map (·.size) = some 224 := by kernel_rfl
theorem size88 : (Try.prog.info? 90).map (·.size) = some 14 := by kernel_rfl
theorem ca_one (S : Nat → Rx) : (caArr S).all (·.oneCell') = true := by
  rw [Array.all_eq_true]
  intro j hj
  have hj2 : j < 224 := by rw [caArr_size] at hj; exact hj
  have e := caArr_at S j hj2
  rw [Array.getElem?_eq_getElem hj] at e
  rw [Option.some.inj e]
  exact rx_one _ _ (by omega)
theorem ca_part (S : Nat → Rx) (k : Nat) (hk : k < 16) : (caArr S).extract (k * 14) (k * 14 + 14) = #[.int .i64 (S k).hops, .int .i64 (S k).ident, .int .i64 (S k).time, .bool (S k).used, .int .i64 (S k).f0, .int .i64 (S k).f1, .int .i64 (S k).f2, .int .i64 (S k).f3, .int .i64 (S k).f4, .bool (S k).began, .int .u8 (S k).gen, .int .i64 (S k).step, .bool (S k).need, .int .i64 (S k).turn] := by
  have hc : #[.int .i64 (S k).hops, .int .i64 (S k).ident, .int .i64 (S k).time, .bool (S k).used, .int .i64 (S k).f0, .int .i64 (S k).f1, .int .i64 (S k).f2, .int .i64 (S k).f3, .int .i64 (S k).f4, .bool (S k).began, .int .u8 (S k).gen, .int .i64 (S k).step, .bool (S k).need, .int .i64 (S k).turn] = (S k).cells.toArray := rfl
  rw [hc]
  apply Array.ext_getElem?
  intro j
  rw [Array.getElem?_extract]
  by_cases hj : j < 14
  · rw [if_pos (by rw [caArr_size]; omega), caArr_at S _ (by omega), show (k * 14 + j) / 14 = k by omega, show (k * 14 + j) % 14 = j by omega]
    unfold Rx.cell
    simp only [List.getElem?_toArray]
    have : j < (S k).cells.length := hj
    rw [List.getD, List.getElem?_eq_getElem this]
    rfl
  · rw [if_neg (by rw [caArr_size]; omega)]
    rw [Array.getElem?_eq_none (by show 14 ≤ j; omega)]
theorem agg_index (cs : Array Value) (k : Nat) (hk : k < 16) (X : World) (hs : (Try.prog.info? 90).map (·.size) = some 14) : (Instr.index 91 (.agg cs) (.int .i64 (k : Int))).run Try.prog X = .ok (.agg (cs.extract (k * 14) (k * 14 + 14))) X := by
  have hu := Try.underlying91
  obtain ⟨i, hi, his⟩ : ∃ i, Try.prog.info? 90 = some i ∧ i.size = 14 := by
    cases hq : Try.prog.info? 90 with
    | none => rw [hq] at hs; cases hs
    | some i => rw [hq] at hs; exact ⟨i, rfl, by simpa using hs⟩
  unfold Instr.index
  simp [Sem.run_bind, asIntOf, run_underlying hu X, part, sizeOf, typeInfo, hi, his]
  intro h; omega
theorem ca_index (S : Nat → Rx) (k : Nat) (hk : k < 16) (X : World) : (Instr.index 91 (.agg (caArr S)) (.int .i64 (k : Int))).run Try.prog X = .ok (.agg #[.int .i64 (S k).hops, .int .i64 (S k).ident, .int .i64 (S k).time, .bool (S k).used, .int .i64 (S k).f0, .int .i64 (S k).f1, .int .i64 (S k).f2, .int .i64 (S k).f3, .int .i64 (S k).f4, .bool (S k).began, .int .u8 (S k).gen, .int .i64 (S k).step, .bool (S k).need, .int .i64 (S k).turn]) X := by
  rw [agg_index _ k hk X size88, ca_part S k hk]

section
variable {F : Fence} {n : Nat} {P : Program} {ops : Array Oper} {rest : List Oper} {o : Oper} {a : Act} {w : World} {Q : Exit → Act → World → Prop}
theorem wpListIn_load_row (hgd : o.guard = none) (ty : TypeId) (x : Operand) (ho : o.op = .load ty x)
    (g : Nat) (hx : a.eval x = .pointer (some ⟨g, 0, none⟩)) (t : TypeId) (cs : Array Value) (fr : Nat × Nat) (d : TypeDesc) (hg : w.heap[g]? = some (.cells cs t fr))
    (hu : P.underlying ty = some d) (hd : (match d with | .struct _ | .array _ _ => true | _ => false) = true) (hi : (P.info? ty).map (·.size) = some cs.size)
    (h : wpListIn F n P ops Q rest (a.put o.dst (.agg cs)) w) : wpListIn F n P ops Q (o :: rest) a w := by
  refine wpListIn_plain hgd fun K hK' => ?_
  unfold Oper.wpIn
  refine ⟨?_, ?_⟩
  · simp [Oper.about, ho]
  · rw [Oper.semAt_plain F _ _ (by rw [ho]; intro c hc'; cases hc')]
    simp [execOp, ho, hx, Instr.loadAt, Instr.sureAddr, run_loadVar_row w g t ty cs fr d hg hu hd hi, Result.andThen]
    exact hK' _ _ h
end
/-- the contexts in use among the first k -/
def usedL (S : Nat → Rx) : Nat → List Nat
  | 0 => []
  | k + 1 => if (S k).used then usedL S k ++ [k] else usedL S k
theorem usedL_len (S : Nat → Rx) : ∀ k, (usedL S k).length ≤ k
  | 0 => Nat.le_refl _
  | k + 1 => by
    unfold usedL
    have := usedL_len S k
    split
    · simp; omega
    · omega
theorem usedL_mono (S : Nat → Rx) (k : Nat) : ∀ d, (usedL S k).length ≤ (usedL S (k + d)).length
  | 0 => Nat.le_refl _
  | d + 1 => by
    have := usedL_mono S k d
    show _ ≤ (usedL S (k + d + 1)).length
    rw [usedL]
    split
    · simp; omega
    · omega
end Go.Proofs.Ytofaghpflmeblaa
