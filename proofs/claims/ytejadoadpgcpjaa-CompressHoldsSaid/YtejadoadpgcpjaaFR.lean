/- The reference of chapter 42: Parse. -/
import Derived.Test.YtejadoadpgcpjaaFW
import Derived.Deep.OwnRows
import Derived.StillTailTactics
import Derived.Deep.RegionHeld3
import Derived.Deep.DrawnRows
namespace Go.Proofs.Ytejadoadpgcpjaa
open Go.RowKit

attribute [local go_sem ↓] Go.wp_at_zero Go.wp_at_succ

def RParseEnd (n : Nat) (z : Nat → Int) (w : World) (e : Ending) (w' : World) : Prop :=
  ∃ P c, e = .returned (.tuple #[.agg (hdr (pHdr n z)), .slice P (pLen n z : Nat) c, .int .i64 (pErr n z)]) ∧ pLen n z ≤ c ∧
    Row w' w'.heap.size P (pLen n z) (fun j => .int .u8 (z (20 + j))) ∧ Below w.heap.size w w'
def RBadEnd (w : World) (n : Int) (e : Ending) (w' : World) : Prop :=
  e = .returned (.tuple #[.agg (hdr (fun _ => 0)), .slice none 0 0, .int .i64 n]) ∧ Below w.heap.size w w'
theorem RParseEnd.bad {n : Nat} {z : Nat → Int} {w : World} {e : Ending} {w' : World} {x : Int} (h : RBadEnd w x e w') (hx : pErr n z = x) (h0 : x ≠ 0) : RParseEnd n z w e w' := by
  obtain ⟨rfl, hb⟩ := h
  subst hx
  have hl : pLen n z = 0 := by unfold pLen; rw [if_neg h0]
  refine ⟨none, 0, ?_, by omega, ?_, hb⟩
  · rw [pHdr_zero n z h0, hl]
  · rw [hl]; exact Row.nil

set_option maxRecDepth 100000 in
set_option maxHeartbeats 400000 in
theorem rparse_short (A : Option Addr) (n c : Nat) (hn : n < 20) (w : World) :
    Calls Try.prog 17 #[.slice A n c] w (RBadEnd w 5) := by
  have hn20 : ((n : Int) < 20) := by omega
  go_enter Try.func17, Try.ntmps17
  go_wp2
  exact bodyPost_ret (v := .tuple #[.agg (hdr (fun _ => 0)), .slice none 0 0, .int .i64 5]) (by simp [results, Try.results17, go_sem, hdr]) rfl ⟨rfl, ((Below.refl _ w).alloc (Nat.le_refl _) _).alloc (by simp) _⟩

set_option maxRecDepth 100000 in
set_option maxHeartbeats 400000 in
theorem rparse_long (A : Option Addr) (n c : Nat) (hn : 9000 < n) (w : World) :
    Calls Try.prog 17 #[.slice A n c] w (RBadEnd w 4) := by
  have hn20 : ¬ ((n : Int) < 20) := by omega
  have hn9 : (9000 : Int) < (n : Int) := by omega
  go_enter Try.func17, Try.ntmps17
  go_wp2
  exact bodyPost_ret (v := .tuple #[.agg (hdr (fun _ => 0)), .slice none 0 0, .int .i64 4]) (by simp [results, Try.results17, go_sem, hdr]) rfl ⟨rfl, ((Below.refl _ w).alloc (Nat.le_refl _) _).alloc (by simp) _⟩

theorem sub_row2 {W : World} {B n lb lo lo2 : Nat} {z : Nat → Int} (h : Row W B (some ⟨lb, lo, none⟩) n (fun j => .int .u8 (z j))) (hl : 20 < n → lo2 = lo + 20) (hB : B ≤ W.heap.size) : Row W W.heap.size (some ⟨lb, lo2, none⟩) (n - 20) (fun j => .int .u8 (z (20 + j))) := fun hn => by
  obtain ⟨b, off, e, hb, hc⟩ := h (by omega)
  cases e
  have := hl (by omega)
  subst this
  exact ⟨lb, lo + 20, rfl, by omega, fun j hj => by rw [show lo + 20 + j = lo + (20 + j) by omega]; exact hc (20 + j) (by omega)⟩
theorem slice20r (lb lo n c : Nat) (h20 : 20 ≤ n) (hnc : n ≤ c) : ∃ lo2, (∀ w, (Instr.slice 22 (.slice (some ⟨lb, lo, none⟩) n c) (some (.int .i64 20)) none none).run Try.prog w = .ok (.slice (some ⟨lb, lo2, none⟩) (n - 20) (c - 20)) w) ∧ (20 < n → lo2 = lo + 20) := by
  have hm0 : (20 : Int) ≤ (n : Int) := by omega
  by_cases hc : c = 20
  · subst hc
    exact ⟨lo, fun w => by simp [go_sem, hm0], fun h => by omega⟩
  · exact ⟨lo + 20, fun w => by simp [go_sem, hm0, hc], fun _ => rfl⟩

set_option maxRecDepth 100000 in
set_option maxHeartbeats 3200000 in
theorem rparse_mid (A : Option Addr) (n c : Nat) (z : Nat → Int) (hn : 20 ≤ n) (hm : n ≤ 9000) (hnc : n ≤ c) (hz : ∀ j, j < n → 0 ≤ z j ∧ z j < 256) (w : World) (hr : Row w w.heap.size A n (fun j => .int .u8 (z j))) :
    Calls Try.prog 17 #[.slice A n c] w (RParseEnd n z w) := by
  obtain ⟨lb, lo, rfl, hlb, _⟩ := hr (by omega)
  have HR := Lib.hid hr
  have HZ := Lib.hid hz
  have hn20 : ¬ ((n : Int) < 20) := by omega
  have hn9 : ¬ (9000 : Int) < (n : Int) := by omega
  obtain ⟨i0, hi0, hz0, hz1, hz2⟩ := info_parts Try.infoInt
  clear hr hz
  go_enter Try.func17, Try.ntmps17
  go_wp2_with (go_at_call 26; refine (widths42_ok _).mono ?_; rintro e w2 ⟨rfl, rfl⟩)
  obtain ⟨W1, hW1⟩ : ∃ W1, W1 = ((w.alloc (.cells (hdr (fun _ => 0)) 25)).alloc (.cells (hdr (fun _ => 0)) 25)).alloc (.cells hwds 3) := ⟨_, rfl⟩
  have HB0 := Lib.hid (show Below w.heap.size w W1 by rw [hW1]; exact ((((Below.refl _ w).alloc (Nat.le_refl _) _).alloc (by simp) _).alloc (by simp; omega) _))
  have HH := Lib.hid (show Blk W1 w.heap.size 25 (hdr (fun _ => 0)) by rw [hW1]; exact ((Blk.new w _ _).alloc _).alloc _)
  have HH2 := Lib.hid (show Blk W1 (w.heap.size + 1) 25 (hdr (fun _ => 0)) by rw [hW1]; have := (Blk.new (w.alloc (.cells (hdr (fun _ => 0)) 25)) 25 (hdr (fun _ => 0))).alloc (.cells hwds 3); rw [World.size_alloc] at this; exact this)
  have HBW := Lib.hid (show Blk W1 (w.heap.size + 1 + 1) 3 hwds by rw [hW1]; have := Blk.new ((w.alloc (.cells (hdr (fun _ => 0)) 25)).alloc (.cells (hdr (fun _ => 0)) 25)) 3 hwds; rw [World.size_alloc, World.size_alloc] at this; exact this)
  have hs1 : W1.heap.size = w.heap.size + 1 + 1 + 1 := by rw [hW1]; simp
  change Code.wp _ _ _ _ (((w.alloc (.cells (hdr (fun _ => 0)) 25)).alloc (.cells (hdr (fun _ => 0)) 25)).alloc (.cells hwds 3))
  rw [← hW1]
  have HS1 := Lib.hid hs1
  have hsz1 : w.heap.size + 1 + 1 < W1.heap.size := by omega
  clear hW1 hs1
  go_loopw [7, 8, 9] (fun v7 v8 v9 wr => ∃ k : Nat, k ≤ 10 ∧ v9 = .int .i64 k ∧ v8 = .int .i64 (offs k : Nat) ∧ W1.heap.size ≤ wr.heap.size ∧ wr.ownsRow W1.heap.size 3 1 v7 k ((List.range k).map fun j => .int .i64 ((fieldv z j : Nat) : Int)) ∧ Below W1.heap.size W1 wr) (fun _ _ v _ => 10 - (intOf v).toNat)
  case atStart => exact ⟨0, by omega, rfl, rfl, Nat.le_refl _, World.ownsRow_nil _ _ _ _, Below.refl _ _⟩
  case round =>
    obtain ⟨k, hk, rfl, rfl, hsz, hown, hW⟩ := hrel
    by_cases hlt : k < 10
    · have cw : wr.cell? ⟨w.heap.size + 1 + 1, k, none⟩ = some (.int .i64 (pwd k : Int)) := (hW.cell (p := ⟨w.heap.size + 1 + 1, k, none⟩) hsz1).trans ((HBW.out.cell k).trans (hwds_at k hlt))
      obtain ⟨p1, p2⟩ := pwd_le k hlt
      have hoff := offs_le k hlt
      have HFV := Lib.hid (show fieldv z k = getv z (offs k) (pwd k) by unfold fieldv; rw [Nat.zero_add, so_offs])
      obtain ⟨o, ho⟩ : ∃ o, o = offs k := ⟨_, rfl⟩
      obtain ⟨wd, hwd⟩ : ∃ wd, wd = pwd k := ⟨_, rfl⟩
      have HO := Lib.hid (show offs (k + 1) = o + wd by rw [ho, hwd]; rfl)
      rw [← ho, ← hwd] at HFV
      rw [← ho] at ⊢
      rw [← ho, ← hwd] at hoff
      rw [← hwd] at cw p1 p2
      have g1 : (0 : Int) ≤ (k : Int) := by omega
      have g2 : (k : Int) < 10 := by omega
      have HOwn := Lib.hid hown
      have HW := Lib.hid hW
      have HSZ := Lib.hid hsz
      have HRr := Lib.hid ((HR.out.below HB0.out).keep (w' := wr) fun p hp => hW.cell (by have := HB0.out.size; omega))
      clear ho hwd hown hW hsz
      go_wp2
      go_loop [8, 10, 11] (fun v8 v10 v11 => ∃ i : Nat, i ≤ wd ∧ v11 = .int .i64 i ∧ v8 = .int .i64 ((o + i : Nat) : Int) ∧ v10 = .int .i64 ((getv z o i : Nat) : Int)) (fun _ _ v => wd - (intOf v).toNat)
      case atStart => exact ⟨0, Nat.zero_le _, rfl, rfl, rfl⟩
      case round =>
        obtain ⟨i, hi, rfl, rfl, rfl⟩ := hrel
        by_cases hlt2 : i < wd
        · obtain ⟨m, hm2⟩ : ∃ m, m = o + i := ⟨_, rfl⟩
          rw [← hm2]
          have hm160 : m < 160 := by omega
          have hm8 : m / 8 < n := by omega
          have hm8i : (m : Int) / 8 < (n : Int) := by omega
          obtain ⟨b1, o1, e1, _, hlc⟩ := HRr.out (by omega)
          cases e1
          obtain ⟨x, hx⟩ : ∃ x : Nat, z (m / 8) = (x : Int) := ⟨(z (m / 8)).toNat, by have := HZ.out (m / 8) hm8; omega⟩
          have hx256 : x < 256 := by have := HZ.out (m / 8) hm8; omega
          have hci : wr.cell? ⟨lb, lo + m / 8, none⟩ = some (.int .u8 (x : Int)) := by rw [← hx]; exact hlc _ hm8
          have hvl : getv z o i < 4294967296 := Nat.lt_of_lt_of_le (getv_lt z o i) (Nat.le_trans (Nat.pow_le_pow_right (by decide) (by omega : i ≤ 32)) (by decide))
          have hgs : getv z o (i + 1) = 2 * getv z o i + x / 2 ^ (7 - m % 8) % 2 := by
            show 2 * getv z o i + (if HM.hb z (o + i) then 1 else 0) = _
            rw [← hm2]
            unfold HM.hb
            rw [hx, Int.toNat_natCast]
            by_cases hbb : x / 2 ^ (7 - m % 8) % 2 = 1
            · simp [hbb]
            · have : x / 2 ^ (7 - m % 8) % 2 = 0 := by omega
              simp [this]
          obtain ⟨v, hv⟩ : ∃ v, v = getv z o i := ⟨_, rfl⟩
          rw [← hv] at hvl hgs ⊢
          have HGS := Lib.hid hgs
          have HM2 := Lib.hid hm2
          clear hlc hx hgs hv hm2
          have k7 : (7 - (m : Int) % 8).toNat = 7 - m % 8 := by omega
          have k6 : (0 : Int) ≤ 7 - (m : Int) % 8 := by omega
          have hq : (x : Int) / 2 ^ (7 - m % 8) = ((x / 2 ^ (7 - m % 8) : Nat) : Int) := by simp
          have hqx : x / 2 ^ (7 - m % 8) ≤ x := Nat.div_le_self _ _
          obtain ⟨q, hq2⟩ : ∃ q, q = x / 2 ^ (7 - m % 8) := ⟨_, rfl⟩
          rw [← hq2] at hq hqx
          have HQ := Lib.hid hq2
          clear hq2
          go_wp2
          go_round
          case rel => exact ⟨i + 1, by omega, by go_num, by rw [HM2.out]; go_num, by rw [HGS.out, ← HQ.out]; go_num⟩
          case measure => simp [intOf]; omega
        · obtain rfl : i = wd := by omega
          go_wp2_with (at_builtin; refine wpList_append_one _ rfl _ _ 43 rfl W1.heap.size 3 i0 (.int .i64 0) 8 Try.underlying43 hi0 hz0 hz1 hz2 rfl _ _ _ rfl HOwn.out _ rfl rfl (by unfold maxLen; omega) (by omega) HSZ.out ?_; intro v' w2 hown' hg2; have HOW2 := Lib.hid hown'; have HG2 := Lib.hid hg2; clear hown' hg2)
          go_roundw
          case rel => exact ⟨k + 1, by omega, by go_num, by rw [HO.out]; go_num, Nat.le_trans HSZ.out HG2.out.size, by rw [List.range_succ, List.map_append]; simpa [HFV.out] using HOW2.out, HW.out.trans HG2.out⟩
          case measure => simp [intOf]; omega
    · obtain rfl : k = 10 := by omega
      obtain ⟨g7, c7, rfl, hg7, hlt7, hc7⟩ := own_room hown (by decide)
      have y0 : wr.cell? ⟨g7, 0, none⟩ = some (.int .i64 ((fieldv z 0 : Nat) : Int)) := by rw [hown.cellAt 0 (by decide)]; rfl
      have y1 : wr.cell? ⟨g7, 1, none⟩ = some (.int .i64 ((fieldv z 1 : Nat) : Int)) := by rw [hown.cellAt 1 (by decide)]; rfl
      have y2 : wr.cell? ⟨g7, 2, none⟩ = some (.int .i64 ((fieldv z 2 : Nat) : Int)) := by rw [hown.cellAt 2 (by decide)]; rfl
      have y3 : wr.cell? ⟨g7, 3, none⟩ = some (.int .i64 ((fieldv z 3 : Nat) : Int)) := by rw [hown.cellAt 3 (by decide)]; rfl
      have y4 : wr.cell? ⟨g7, 4, none⟩ = some (.int .i64 ((fieldv z 4 : Nat) : Int)) := by rw [hown.cellAt 4 (by decide)]; rfl
      have y5 : wr.cell? ⟨g7, 5, none⟩ = some (.int .i64 ((fieldv z 5 : Nat) : Int)) := by rw [hown.cellAt 5 (by decide)]; rfl
      have y6 : wr.cell? ⟨g7, 6, none⟩ = some (.int .i64 ((fieldv z 6 : Nat) : Int)) := by rw [hown.cellAt 6 (by decide)]; rfl
      have y7 : wr.cell? ⟨g7, 7, none⟩ = some (.int .i64 ((fieldv z 7 : Nat) : Int)) := by rw [hown.cellAt 7 (by decide)]; rfl
      have y8 : wr.cell? ⟨g7, 8, none⟩ = some (.int .i64 ((fieldv z 8 : Nat) : Int)) := by rw [hown.cellAt 8 (by decide)]; rfl
      have y9 : wr.cell? ⟨g7, 9, none⟩ = some (.int .i64 ((fieldv z 9 : Nat) : Int)) := by rw [hown.cellAt 9 (by decide)]; rfl
      have HH9 := Lib.hid (HH.out.below hW (by omega))
      have HX9 := Lib.hid (HH2.out.below hW (by omega))
      obtain ⟨x0, x1, x2, x3, x4, x5, x6, x7, x8⟩ := Blk.nine (show Blk wr (w.heap.size + 1) 25 #[.int .i64 0, .int .i64 0, .int .i64 0, .int .i64 0, .int .i64 0, .int .i64 0, .int .i64 0, .int .i64 0, .int .i64 0] from HX9.out)
      have hFW := Lib.hid (HB0.out.trans (hW.mono (by omega)))
      have HRr := Lib.hid ((HR.out.below HB0.out).keep (w' := wr) fun p hp => hW.cell (by have := HB0.out.size; omega))
      have HOwn := Lib.hid hown
      have HW := Lib.hid hW
      have HSZ := Lib.hid hsz
      clear hown hW hsz
      have o0 : wr.cell? ⟨w.heap.size, 0, none⟩ = some (.int .i64 0) := HH9.out.cell 0
      have of0 : wr.frozen? ⟨w.heap.size, 0, none⟩ = false := HH9.out.frozen 0
      have oe0 : wr.setCell ⟨w.heap.size, 0, none⟩ (.int .i64 0) = wr := setCell_same HH9.out rfl
      have o1 : wr.cell? ⟨w.heap.size, 1, none⟩ = some (.int .i64 0) := HH9.out.cell 1
      have of1 : wr.frozen? ⟨w.heap.size, 1, none⟩ = false := HH9.out.frozen 1
      have oe1 : wr.setCell ⟨w.heap.size, 1, none⟩ (.int .i64 0) = wr := setCell_same HH9.out rfl
      have o2 : wr.cell? ⟨w.heap.size, 2, none⟩ = some (.int .i64 0) := HH9.out.cell 2
      have of2 : wr.frozen? ⟨w.heap.size, 2, none⟩ = false := HH9.out.frozen 2
      have oe2 : wr.setCell ⟨w.heap.size, 2, none⟩ (.int .i64 0) = wr := setCell_same HH9.out rfl
      have o3 : wr.cell? ⟨w.heap.size, 3, none⟩ = some (.int .i64 0) := HH9.out.cell 3
      have of3 : wr.frozen? ⟨w.heap.size, 3, none⟩ = false := HH9.out.frozen 3
      have oe3 : wr.setCell ⟨w.heap.size, 3, none⟩ (.int .i64 0) = wr := setCell_same HH9.out rfl
      have o4 : wr.cell? ⟨w.heap.size, 4, none⟩ = some (.int .i64 0) := HH9.out.cell 4
      have of4 : wr.frozen? ⟨w.heap.size, 4, none⟩ = false := HH9.out.frozen 4
      have oe4 : wr.setCell ⟨w.heap.size, 4, none⟩ (.int .i64 0) = wr := setCell_same HH9.out rfl
      have o5 : wr.cell? ⟨w.heap.size, 5, none⟩ = some (.int .i64 0) := HH9.out.cell 5
      have of5 : wr.frozen? ⟨w.heap.size, 5, none⟩ = false := HH9.out.frozen 5
      have oe5 : wr.setCell ⟨w.heap.size, 5, none⟩ (.int .i64 0) = wr := setCell_same HH9.out rfl
      have o6 : wr.cell? ⟨w.heap.size, 6, none⟩ = some (.int .i64 0) := HH9.out.cell 6
      have of6 : wr.frozen? ⟨w.heap.size, 6, none⟩ = false := HH9.out.frozen 6
      have oe6 : wr.setCell ⟨w.heap.size, 6, none⟩ (.int .i64 0) = wr := setCell_same HH9.out rfl
      have o7 : wr.cell? ⟨w.heap.size, 7, none⟩ = some (.int .i64 0) := HH9.out.cell 7
      have of7 : wr.frozen? ⟨w.heap.size, 7, none⟩ = false := HH9.out.frozen 7
      have oe7 : wr.setCell ⟨w.heap.size, 7, none⟩ (.int .i64 0) = wr := setCell_same HH9.out rfl
      have o8 : wr.cell? ⟨w.heap.size, 8, none⟩ = some (.int .i64 0) := HH9.out.cell 8
      have of8 : wr.frozen? ⟨w.heap.size, 8, none⟩ = false := HH9.out.frozen 8
      have oe8 : wr.setCell ⟨w.heap.size, 8, none⟩ (.int .i64 0) = wr := setCell_same HH9.out rfl
      by_cases h5 : fieldv z 0 = 5
      · rw [h5] at y0
        by_cases h9 : fieldv z 9 = n
        · have Y9 := Lib.hid y9
          rw [h9] at y9
          obtain ⟨lo2, hsl, hlo2⟩ := slice20r lb lo n c hn hnc
          have HLO := Lib.hid hlo2
          have H5 := Lib.hid h5
          have H9 := Lib.hid h9
          clear hlo2 h5 h9 oe0 oe1 oe2 oe3 oe4 oe5 oe6 oe7 oe8
          go_wp2
          clear y9
          have hng1 : g7 ≠ w.heap.size := by omega
          have hng2 : w.heap.size ≠ g7 := by omega
          have y9 := Y9.out
          go_region_held3 (fun w' => w'.cell? ⟨g7, 1, none⟩ = some (.int .i64 ((fieldv z 1 : Nat) : Int)) ∧ w'.cell? ⟨g7, 2, none⟩ = some (.int .i64 ((fieldv z 2 : Nat) : Int)) ∧ w'.cell? ⟨g7, 3, none⟩ = some (.int .i64 ((fieldv z 3 : Nat) : Int)) ∧ w'.cell? ⟨g7, 4, none⟩ = some (.int .i64 ((fieldv z 4 : Nat) : Int)) ∧ w'.cell? ⟨g7, 5, none⟩ = some (.int .i64 ((fieldv z 5 : Nat) : Int)) ∧ w'.cell? ⟨g7, 6, none⟩ = some (.int .i64 ((fieldv z 6 : Nat) : Int)) ∧ w'.cell? ⟨g7, 7, none⟩ = some (.int .i64 ((fieldv z 7 : Nat) : Int)) ∧ w'.cell? ⟨g7, 8, none⟩ = some (.int .i64 ((fieldv z 8 : Nat) : Int)) ∧ w'.cell? ⟨g7, 9, none⟩ = some (.int .i64 ((fieldv z 9 : Nat) : Int))) (go_keep) ((fail))
          all_goals go_wp2
          have hE : pErr n z = 0 := by unfold pErr; rw [if_neg (by omega), if_neg (by omega), if_pos ⟨H5.out, H9.out⟩]
          have hL : pLen n z = n - 20 := if_pos hE
          have hHd : hdr (pHdr n z) = #[.int .i64 ((fieldv z 1 : Nat) : Int), .int .i64 ((fieldv z 2 : Nat) : Int), .int .i64 ((fieldv z 3 : Nat) : Int), .int .i64 ((fieldv z 4 : Nat) : Int), .int .i64 ((fieldv z 5 : Nat) : Int), .int .i64 ((fieldv z 6 : Nat) : Int), .int .i64 ((fieldv z 7 : Nat) : Int), .int .i64 ((fieldv z 8 : Nat) : Int), .int .i64 ((fieldv z 9 : Nat) : Int)] := (pHdr_good n z hE).trans rfl
          refine bodyPost_ret (v := .tuple #[.agg #[.int .i64 ((fieldv z 1 : Nat) : Int), .int .i64 ((fieldv z 2 : Nat) : Int), .int .i64 ((fieldv z 3 : Nat) : Int), .int .i64 ((fieldv z 4 : Nat) : Int), .int .i64 ((fieldv z 5 : Nat) : Int), .int .i64 ((fieldv z 6 : Nat) : Int), .int .i64 ((fieldv z 7 : Nat) : Int), .int .i64 ((fieldv z 8 : Nat) : Int), .int .i64 ((fieldv z 9 : Nat) : Int)], .slice (some ⟨lb, lo2, none⟩) (n - 20 : Nat) (c - 20 : Nat), .int .i64 0]) (by simp [results, Try.results17, go_sem, o0, o1, o2, o3, o4, o5, o6, o7, o8]) rfl ⟨some ⟨lb, lo2, none⟩, (c - 20 : Nat), by rw [hHd, hL, hE], by rw [hL]; omega, ?_, ?_⟩
          · rw [hL]
            exact sub_row2 ((((((((((HRr.out).setCell (p := ⟨w.heap.size, 0, none⟩) (Nat.le_refl _) (.int .i64 ((fieldv z 1 : Nat) : Int))).setCell (p := ⟨w.heap.size, 1, none⟩) (Nat.le_refl _) (.int .i64 ((fieldv z 2 : Nat) : Int))).setCell (p := ⟨w.heap.size, 2, none⟩) (Nat.le_refl _) (.int .i64 ((fieldv z 3 : Nat) : Int))).setCell (p := ⟨w.heap.size, 3, none⟩) (Nat.le_refl _) (.int .i64 ((fieldv z 4 : Nat) : Int))).setCell (p := ⟨w.heap.size, 4, none⟩) (Nat.le_refl _) (.int .i64 ((fieldv z 5 : Nat) : Int))).setCell (p := ⟨w.heap.size, 5, none⟩) (Nat.le_refl _) (.int .i64 ((fieldv z 6 : Nat) : Int))).setCell (p := ⟨w.heap.size, 6, none⟩) (Nat.le_refl _) (.int .i64 ((fieldv z 7 : Nat) : Int))).setCell (p := ⟨w.heap.size, 7, none⟩) (Nat.le_refl _) (.int .i64 ((fieldv z 8 : Nat) : Int))).setCell (p := ⟨w.heap.size, 8, none⟩) (Nat.le_refl _) (.int .i64 ((fieldv z 9 : Nat) : Int))).drew HLO.out (by simp; omega)
          · exact ((((((((((hFW.out).setCell (p := ⟨w.heap.size, 0, none⟩) (Nat.le_refl _) (.int .i64 ((fieldv z 1 : Nat) : Int))).setCell (p := ⟨w.heap.size, 1, none⟩) (Nat.le_refl _) (.int .i64 ((fieldv z 2 : Nat) : Int))).setCell (p := ⟨w.heap.size, 2, none⟩) (Nat.le_refl _) (.int .i64 ((fieldv z 3 : Nat) : Int))).setCell (p := ⟨w.heap.size, 3, none⟩) (Nat.le_refl _) (.int .i64 ((fieldv z 4 : Nat) : Int))).setCell (p := ⟨w.heap.size, 4, none⟩) (Nat.le_refl _) (.int .i64 ((fieldv z 5 : Nat) : Int))).setCell (p := ⟨w.heap.size, 5, none⟩) (Nat.le_refl _) (.int .i64 ((fieldv z 6 : Nat) : Int))).setCell (p := ⟨w.heap.size, 6, none⟩) (Nat.le_refl _) (.int .i64 ((fieldv z 7 : Nat) : Int))).setCell (p := ⟨w.heap.size, 7, none⟩) (Nat.le_refl _) (.int .i64 ((fieldv z 8 : Nat) : Int))).setCell (p := ⟨w.heap.size, 8, none⟩) (Nat.le_refl _) (.int .i64 ((fieldv z 9 : Nat) : Int))).drew
        · have hp : pErr n z = 9 := by unfold pErr; rw [if_neg (by omega), if_neg (by omega), if_neg (fun h => h9 h.2)]
          obtain ⟨F, hF⟩ : ∃ F, F = fieldv z 9 := ⟨_, rfl⟩
          rw [← hF] at y9 h9
          have h91 : ((F : Int) == (n : Int)) = false := by simp; omega
          have h92 : ((F : Int) != (n : Int)) = true := by simp; omega
          have HP9 := Lib.hid hp
          clear hp h5 hF
          go_wp2
          exact bodyPost_ret (v := .tuple #[.agg (hdr (fun _ => 0)), .slice none 0 0, .int .i64 9]) (by simp [results, Try.results17, go_sem, hdr, o0, o1, o2, o3, o4, o5, o6, o7, o8]) rfl (RParseEnd.bad ⟨rfl, hFW.out⟩ HP9.out (by decide))
      · have hp : pErr n z = 9 := by unfold pErr; rw [if_neg (by omega), if_neg (by omega), if_neg (fun h => h5 h.1)]
        obtain ⟨F, hF⟩ : ∃ F, F = fieldv z 0 := ⟨_, rfl⟩
        rw [← hF] at y0 h5
        have h91 : ((F : Int) == 5) = false := by simp; omega
        have h92 : ((F : Int) != 5) = true := by simp; omega
        have HP9 := Lib.hid hp
        clear hp hF
        go_wp2
        exact bodyPost_ret (v := .tuple #[.agg (hdr (fun _ => 0)), .slice none 0 0, .int .i64 9]) (by simp [results, Try.results17, go_sem, hdr, o0, o1, o2, o3, o4, o5, o6, o7, o8]) rfl (RParseEnd.bad ⟨rfl, hFW.out⟩ HP9.out (by decide))
theorem rparse_any (A : Option Addr) (n c : Nat) (z : Nat → Int) (hnc : n ≤ c) (hz : ∀ j, j < n → 0 ≤ z j ∧ z j < 256) (w : World) (hr : Row w w.heap.size A n (fun j => .int .u8 (z j))) :
    Calls Try.prog 17 #[.slice A n c] w (RParseEnd n z w) := by
  by_cases h20 : n < 20
  · exact (rparse_short A n c h20 w).mono fun _ _ h => RParseEnd.bad h (by unfold pErr; rw [if_pos h20]) (by decide)
  by_cases h9 : 9000 < n
  · exact (rparse_long A n c h9 w).mono fun _ _ h => RParseEnd.bad h (by unfold pErr; rw [if_neg h20, if_pos h9]) (by decide)
  exact rparse_mid A n c z (by omega) (by omega) hnc hz w hr
end Go.Proofs.Ytejadoadpgcpjaa
