/- The walk of HeaderParses. -/
import Derived.Test.YtejadoadpgcpjaaFB
import Derived.Test.YtejadoadpgcpjaaFR
namespace Go.Proofs.Ytejadoadpgcpjaa
open Go.RowKit

theorem pay_form {w : World} {base L c : Nat} {P : Option Addr} {f : Nat → Value} (h : w.ownsRow base 5 1 (.slice P L c) L ((List.range L).map f)) (hb : base ≤ w.heap.size) :
    ∃ g, (0 < L → P = some ⟨g, 0, none⟩ ∧ g < w.heap.size) ∧ base ≤ g ∧ (∀ j, j < L → w.cell? ⟨g, j, none⟩ = some (f j)) ∧ ∀ j, j < L → w.frozen? ⟨g, j, none⟩ = false := by
  rcases Nat.eq_zero_or_pos L with h0 | h0
  · subst h0
    exact ⟨w.heap.size, fun h => absurd h (by omega), hb, fun j hj => absurd hj (by omega), fun j hj => absurd hj (by omega)⟩
  · obtain ⟨g, cap, hv, h1, h2⟩ := own_form h h0
    cases hv
    exact ⟨g, fun _ => ⟨rfl, h2⟩, h1, fun j hj => by rw [h.cellAt j (by omega)]; simp [hj], fun j _ => h.frozenAt j⟩
theorem frozen_new (w : World) (o : Obj) {p : Addr} (h : p.block < w.heap.size) : (w.alloc o).frozen? p = w.frozen? p :=
  ((Below.refl w.heap.size w).alloc (Nat.le_refl _) o).frozen h
theorem grown_keep {w w' : World} {B g n : Nat} {A : Option Addr} {v : Nat → Value} (h : Row w B A n v) (hg : w.grownBy w' (some g)) (hB : B ≤ g) (hB2 : B ≤ w.heap.size) : Row w' B A n v :=
  h.keep fun p hp => World.cell?_of_block (hg.block p.block (by omega) (fun e => by cases e; omega))

set_option maxRecDepth 100000 in
set_option maxHeartbeats 3200000 in
theorem parses_walk (A : Option Addr) (n c : Nat) (z : Nat → Int) (w : World) (hm : n ≤ maxLen) (hnc : n ≤ c) (hz : ∀ j, j < n → 0 ≤ z j ∧ z j < 256) (hr : Row w w.heap.size A n (fun j => .int .u8 (z j))) :
    Calls Try.prog 3 #[.slice A n c] w fun e w' => e = .returned (.bool true) ∧ Below w.heap.size w w' := by
  unfold maxLen at hm
  by_cases hbig : 300 < n
  · clear hr hz
    go_enter Try.func3, Try.ntmps3
    go_wp2_with (go_at_call 15; refine (works_true _).mono ?_; rintro e w9 ⟨rfl, h9⟩)
    go_ret
    exact ⟨rfl, h9⟩
  · have HR := Lib.hid hr
    have hle : n ≤ 300 := by omega
    obtain ⟨i0, hi, hz0, hz1, hz2⟩ := info_parts Try.infoByte
    have HP := Lib.hid (fun (W : World) (A1 : Option Addr) (c1 : Nat) (hc1 : n ≤ c1) (hR : Row W W.heap.size A1 n (fun j => .int .u8 (z j))) => parse_any A1 n c1 z hc1 hz W hR)
    have HRP := Lib.hid (fun (W : World) (hR : Row W W.heap.size A n (fun j => .int .u8 (z j))) => rparse_any A n c z hnc hz W hR)
    unfold ParseEnd hdr at HP
    unfold RParseEnd hdr at HRP
    have hpl := pLen_le n z
    obtain ⟨L, hL⟩ : ∃ L, L = pLen n z := ⟨_, rfl⟩
    obtain ⟨E, hE⟩ : ∃ E, E = pErr n z := ⟨_, rfl⟩
    obtain ⟨X, hX⟩ : ∃ X, X = pHdr n z := ⟨_, rfl⟩
    rw [← hL, ← hE, ← hX] at HP HRP
    rw [← hL] at hpl
    have hL300 : L ≤ 300 := by omega
    clear hL hE hX hr hz hpl
    go_enter Try.func3, Try.ntmps3
    go_wp2_with (first
      | (go_at_call 18; refine (num_ok _ _).mono ?_; rintro e w0 ⟨rfl, rfl⟩)
      | (at_builtin; refine wpList_append_src _ rfl _ _ 22 rfl w.heap.size 5 i0 (.int .u8 0) 1 Try.underlying22 hi hz0 hz1 hz2 rfl _ _ _ rfl (owns_empty w 5) w.heap.size A n c (fun j => .int .u8 (z j)) rfl (HR.out.alloc (Nat.le_refl _) _) (fun _ => rfl) (by unfold maxLen; omega) (by omega) (by simp) ?_; intro v1 w1 hown1 hg1 hv1; obtain ⟨g1, c1, hv, hcap⟩ := own_some_cap hown1 hv1; subst hv; have HB1 := Lib.hid (copy_below hg1); have HR1 := Lib.hid (own_row_map hown1); have HA1 := Lib.hid (HR.out.next HB1.out); rw [Nat.zero_add] at hcap ⊢; have HC := Lib.hid hcap; clear hown1 hg1 hv1 hcap)
      | (go_at_call 16; refine (HP.out _ _ _ HC.out HR1.out).mono ?_; rintro e w2 ⟨P, c2, rfl, _, ho2, b2⟩; obtain ⟨g, hg1, hg2, hg3, hg4⟩ := pay_form ho2 b2.size; have G1 := Lib.hid hg1; have G2 := Lib.hid hg2; have G3 := Lib.hid hg3; have G4 := Lib.hid hg4; have s2 := row_string 22 9 5 Try.underlying22 Try.underlying5 Try.underlying9 (own_map_row ho2).2 c2; have HO2 := Lib.hid (own_map_row ho2).2; have HB2 := Lib.hid (below_step HB1.out b2); have HR2 := Lib.hid (HR1.out.below b2); have HA2 := Lib.hid (HA1.out.below b2); have SZ := Lib.hid b2.size; clear ho2 b2 hg1 hg2 hg3 hg4)
      | (go_at_call 17; refine (HRP.out _ (((HA2.out.more SZ.out).alloc (Nat.le_refl _) _).more (by simp))).mono ?_; rintro e w3 ⟨P3, c3, rfl, _, ho3, b3⟩; have HB3 := Lib.hid (below_step (below_new HB2.out _) b3); have SZ3 := Lib.hid b3.size; have K3 := Lib.hid ((Blk.new w2 25 #[.int .i64 (X 0), .int .i64 (X 1), .int .i64 (X 2), .int .i64 (X 3), .int .i64 (X 4), .int .i64 (X 5), .int .i64 (X 6), .int .i64 (X 7), .int .i64 (X 8)]).below b3 (by simp)); have hk3 : w2.heap.size < w3.heap.size := K3.out.lt; obtain ⟨qa0, qa1, qa2, qa3, qa4, qa5, qa6, qa7, qa8⟩ := K3.out.nine; have s3 := row_string 22 9 5 Try.underlying22 Try.underlying5 Try.underlying9 ((ho3.alloc (Nat.le_refl _) (.cells #[.int .i64 (X 0), .int .i64 (X 1), .int .i64 (X 2), .int .i64 (X 3), .int .i64 (X 4), .int .i64 (X 5), .int .i64 (X 6), .int .i64 (X 7), .int .i64 (X 8)] 25))) c3; have s4 := row_string 22 9 5 Try.underlying22 Try.underlying5 Try.underlying9 ((((HO2.out.alloc (Nat.le_refl _) _).more (by simp)).below b3).alloc SZ3.out (.cells #[.int .i64 (X 0), .int .i64 (X 1), .int .i64 (X 2), .int .i64 (X 3), .int .i64 (X 4), .int .i64 (X 5), .int .i64 (X 6), .int .i64 (X 7), .int .i64 (X 8)] 25)) c2; have HR3 := Lib.hid ((HR2.out.alloc SZ.out (.cells #[.int .i64 (X 0), .int .i64 (X 1), .int .i64 (X 2), .int .i64 (X 3), .int .i64 (X 4), .int .i64 (X 5), .int .i64 (X 6), .int .i64 (X 7), .int .i64 (X 8)] 25)).below (b3.mono (by have := SZ.out; simp; omega))); have HA3 := Lib.hid ((HA2.out.alloc SZ.out (.cells #[.int .i64 (X 0), .int .i64 (X 1), .int .i64 (X 2), .int .i64 (X 3), .int .i64 (X 4), .int .i64 (X 5), .int .i64 (X 6), .int .i64 (X 7), .int .i64 (X 8)] 25)).below (b3.mono (by have := SZ.out; simp; omega))); have s5 := row_string 22 9 5 Try.underlying22 Try.underlying5 Try.underlying9 (HR3.out.alloc (by have := SZ.out; have := SZ3.out; simp at this; omega) (.cells #[.int .i64 (X 0), .int .i64 (X 1), .int .i64 (X 2), .int .i64 (X 3), .int .i64 (X 4), .int .i64 (X 5), .int .i64 (X 6), .int .i64 (X 7), .int .i64 (X 8)] 25)) c1; have s6 := row_string 22 9 5 Try.underlying22 Try.underlying5 Try.underlying9 (HA3.out.alloc (by have := SZ.out; have := SZ3.out; simp at this; omega) (.cells #[.int .i64 (X 0), .int .i64 (X 1), .int .i64 (X 2), .int .i64 (X 3), .int .i64 (X 4), .int .i64 (X 5), .int .i64 (X 6), .int .i64 (X 7), .int .i64 (X 8)] 25)) c; have B3 := Lib.hid b3; clear ho3 b3))
    obtain ⟨W4, hW4⟩ : ∃ W4, W4 = w3.alloc (.cells #[.int .i64 (X 0), .int .i64 (X 1), .int .i64 (X 2), .int .i64 (X 3), .int .i64 (X 4), .int .i64 (X 5), .int .i64 (X 6), .int .i64 (X 7), .int .i64 (X 8)] 25) := ⟨_, rfl⟩
    rw [← hW4]
    have hz23 := SZ3.out
    rw [World.size_alloc] at hz23
    have hz12 := SZ.out
    have HC4 : Hid (∀ j, j < L → ∃ x : Int, W4.cell? ⟨g, j, none⟩ = some (.int .u8 x)) := Lib.hid fun j hj => ⟨z (20 + j), by
      obtain ⟨_, hlt⟩ := G1.out (by omega)
      rw [hW4]
      exact (World.cell?_alloc_lt w3 _ _ (by show g < _; omega)).trans ((B3.out.cell (p := ⟨g, j, none⟩) (by show g < _; simp; omega)).trans ((World.cell?_alloc_lt w2 _ _ (by show g < _; exact hlt)).trans (G3.out j hj)))⟩
    have HF4 : Hid (∀ j, j < L → W4.frozen? ⟨g, j, none⟩ = false) := Lib.hid fun j hj => by
      obtain ⟨_, hlt⟩ := G1.out (by omega)
      rw [hW4]
      exact (frozen_new w3 _ (p := ⟨g, j, none⟩) (by show g < _; omega)).trans ((B3.out.frozen (p := ⟨g, j, none⟩) (by show g < _; simp; omega)).trans ((frozen_new w2 _ (p := ⟨g, j, none⟩) (by show g < _; exact hlt)).trans (G4.out j hj)))
    have HR4 := Lib.hid (show Row W4 w1.heap.size (some ⟨g1, 0, none⟩) n (fun j => .int .u8 (z j)) by rw [hW4]; exact HR3.out.alloc (by omega) _)
    have HA4 := Lib.hid (show Row W4 w1.heap.size A n (fun j => .int .u8 (z j)) by rw [hW4]; exact HA3.out.alloc (by omega) _)
    have HB4 := Lib.hid (show Below w.heap.size w W4 by rw [hW4]; exact below_new HB3.out _)
    have hz4 : w1.heap.size ≤ W4.heap.size := by rw [hW4, World.size_alloc]; omega
    have hg2 := G2.out
    have hzw1 := HB1.out.size
    clear hW4 s2 s3 s4 s5 s6 qa0 qa1 qa2 qa3 qa4 qa5 qa6 qa7 qa8 hz12 hz23 hk3
    go_loopw [10] (fun v wr => ∃ k : Nat, k ≤ L ∧ v = .int .i64 k ∧ (∀ j, j < L → ∃ x : Int, wr.cell? ⟨g, j, none⟩ = some (.int .u8 x)) ∧ (∀ j, j < L → wr.frozen? ⟨g, j, none⟩ = false) ∧ W4.grownBy wr (some g)) (fun v _ => L - (intOf v).toNat)
    case atStart => exact ⟨0, Nat.zero_le _, rfl, HC4.out, HF4.out, ⟨rfl, rfl, rfl, Nat.le_refl _, fun _ _ _ => rfl⟩⟩
    case round =>
      obtain ⟨k, hk, rfl, hce, hfr, hgr⟩ := hrel
      have HCE := Lib.hid hce
      have HFR := Lib.hid hfr
      have HGR := Lib.hid hgr
      clear hce hfr hgr
      by_cases hlt : k < L
      · obtain ⟨rfl, _⟩ := G1.out (by omega)
        obtain ⟨x, hx⟩ := HCE.out k hlt
        have hf := HFR.out k hlt
        go_wp2
        go_roundw
        case rel => exact ⟨k + 1, by omega, by go_num, fun j hj => by
          by_cases hjk : j = k
          · subst hjk; exact ⟨_, World.cell?_setCell_same _ _ _ hx⟩
          · obtain ⟨y, hy⟩ := HCE.out j hj
            exact ⟨y, (World.cell?_setCell_other _ _ _ _ (by simp)).trans hy⟩, fun j hj => by simpa using HFR.out j hj, grownBy_set HGR.out _ _⟩
        case measure => simp [intOf]; omega
      · obtain rfl : k = L := by omega
        have r7 := grown_keep HR4.out HGR.out hg2 hz4
        have r8 := grown_keep HA4.out HGR.out hg2 hz4
        have s7 := row_string 22 9 5 Try.underlying22 Try.underlying5 Try.underlying9 r7 c1
        have s8 := row_string 22 9 5 Try.underlying22 Try.underlying5 Try.underlying9 r8 c
        have HB5 := Lib.hid (HB4.out.grown HGR.out HB4.out.size (fun q e => by cases e; omega))
        clear r7 r8
        go_wp2_with (go_at_call 15; refine (works_true _).mono ?_; rintro e w9 ⟨rfl, h9⟩)
        go_ret
        exact ⟨rfl, below_step HB5.out h9⟩
end Go.Proofs.Ytejadoadpgcpjaa
