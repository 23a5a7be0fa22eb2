/- law 47, XHG without what XU has. -/
import Derived.Test.YtknlipjgehgihaaMF
namespace Go.Proofs.Ytknlipjgehgihaa
open Go.RowKit
/-- byte j of the reference's buffer after the four bytes below r -/
def headAt (first r j : Nat) : Int := if 1 ≤ j ∧ j < r ∧ j < 5 then ((first / 2 ^ (8 * (4 - j)) % 256 : Nat) : Int) else 0
def bodyAt (first : Nat) (b : Nat → Bool) (i j : Nat) : Int := if j < 5 then headAt first 5 j else ((HM.pk b i (j - 5) : Nat) : Int)
theorem bodyAt_eb (first : Nat) (b : Nat → Bool) (n j : Nat) : bodyAt first b (HM.last b n) j = eb first b n j := by
  unfold bodyAt eb headAt
  by_cases h0 : j = 0
  · subst h0; simp
  · by_cases h5 : j < 5
    · have h1 : 1 ≤ j := by omega
      simp [h5, h0, h1]
    · simp [h5, h0]; rw [HM.pk_last b _ n]
theorem pow_cell (i : Nat) : ∀ W : World, (W.alloc (.cells #[.int .u8 128, .int .u8 64, .int .u8 32, .int .u8 16, .int .u8 8, .int .u8 4, .int .u8 2, .int .u8 1] 5)).cell? ⟨W.heap.size, i % 8, none⟩ = some (.int .u8 ((2 ^ (7 - i % 8) : Nat) : Int)) := by
  intro W
  refine ((Blk.new W _ _).cell _).trans ?_
  have : ∀ r, r < 8 → (#[Value.int .u8 128, .int .u8 64, .int .u8 32, .int .u8 16, .int .u8 8, .int .u8 4, .int .u8 2, .int .u8 1] : Array Value)[r]? = some (.int .u8 ((2 ^ (7 - r) : Nat) : Int)) := by
    intro r hr
    match r, hr with
    | 0, _ => rfl
    | 1, _ => rfl
    | 2, _ => rfl
    | 3, _ => rfl
    | 4, _ => rfl
    | 5, _ => rfl
    | 6, _ => rfl
    | 7, _ => rfl
  exact this _ (by omega)
theorem head_hit (first r : Nat) (h1 : 1 ≤ r) (h5 : r < 5) : headAt first (r + 1) r = ((first / 2 ^ (8 * (4 - r)) % 256 : Nat) : Int) := by unfold headAt; rw [if_pos (by omega)]
theorem head_miss (first r j : Nat) (h : j ≠ r) : headAt first (r + 1) j = headAt first r j := by
  unfold headAt
  by_cases h1 : 1 ≤ j ∧ j < r ∧ j < 5
  · rw [if_pos h1, if_pos (by omega)]
  · rw [if_neg h1, if_neg (by omega)]
set_option maxRecDepth 100000 in
set_option maxHeartbeats 3200000 in
theorem status_core (first n c : Nat) (A : Option Addr) (b : Nat → Bool) (w : World) (hf : first < 4294967296) (hn : n ≤ 2047) (hr : Row w w.heap.size A n (fun j => .bool (b j))) :
    Calls Try.prog 9 #[.int .u64 (first : Int), .slice A n c] w (EncPost first n b w) := by
  have HR := Lib.hid hr
  clear hr
  go_enter Try.func9, Try.ntmps9
  go_wp2
  go_loopw [6, 7] (fun v6 v7 wr => ∃ i : Nat, i ≤ n ∧ v7 = .int .i64 i ∧ v6 = .int .i64 ((HM.last b i : Nat) : Int) ∧ wr = w) (fun _ v _ => n - (intOf v).toNat)
  case atStart => exact ⟨0, Nat.zero_le _, rfl, rfl, rfl⟩
  case round =>
    obtain ⟨i, hi, rfl, rfl, rfl⟩ := hrel
    by_cases hlt : i < n
    · obtain ⟨lb, lo, rfl, hlb, hlc⟩ := HR.out (by omega)
      have hci : wr.cell? ⟨lb, lo + i, none⟩ = some (.bool (b i)) := hlc i hlt
      clear hlc
      cases hbi : b i with
      | false =>
        rw [hbi] at hci
        have HB := Lib.hid hbi
        clear hbi
        go_wp2
        go_roundw
        case rel => exact ⟨i + 1, by omega, by go_num, by rw [last_skip b i HB.out], trivial⟩
        case measure => simp [intOf]; omega
      | true =>
        rw [hbi] at hci
        have HB := Lib.hid hbi
        clear hbi
        go_wp2
        go_roundw
        case rel => exact ⟨i + 1, by omega, by go_num, by rw [last_bounds b i HB.out]; go_num, trivial⟩
        case measure => simp [intOf]; omega
    · obtain rfl : i = n := by omega
      have hll := HM.last_le b i
      obtain ⟨m, hm⟩ : ∃ m, m = HM.last b i := ⟨_, rfl⟩
      have HMm := Lib.hid hm
      rw [← hm] at hll ⊢
      clear hm
      obtain ⟨q, hq⟩ : ∃ q, q = 5 + (m + 7) / 8 := ⟨_, rfl⟩
      have hmk := make_bytes q (by omega)
      have hq2 : 5 + (((m : Nat) : Int) + 7) / 8 = (q : Int) := by omega
      have HQ := Lib.hid hq
      clear hq
      go_wp2
      have R0 := World.rowIs_made wr (.int .u8 0) q 5
      have hq5 : 5 ≤ q := by have := HQ.out; omega
      obtain ⟨W0, hW0⟩ : ∃ W0, W0 = wr := ⟨_, rfl⟩
      subst hW0
      go_loopw [9] (fun v ws => ∃ r : Nat, 1 ≤ r ∧ r ≤ 5 ∧ v = .int .i64 r ∧ W0.heap.size + 1 ≤ ws.heap.size ∧ ws.rowIs W0.heap.size 5 q (fun j => .int .u8 (headAt first r j)) ∧ Below W0.heap.size W0 ws) (fun v _ => 5 - (intOf v).toNat)
      case atStart =>
        refine ⟨1, Nat.le_refl _, by omega, rfl, by simp, R0.congr fun j hj => ?_, (Below.refl _ _).alloc (Nat.le_refl _) _⟩
        unfold headAt
        rw [if_neg (by omega)]
      case round =>
        obtain ⟨r, hr1, hr5, rfl, hsz, hR, hW⟩ := hrel
        by_cases hr : r < 5
        · have hcc := hR.cell (show r < q by omega)
          have hff := hR.frozen r
          have hrq : (r : Int) < (q : Int) := by omega
          have hrr : r = 1 ∨ r = 2 ∨ r = 3 ∨ r = 4 := by omega
          rcases hrr with rfl | rfl | rfl | rfl
          · go_wp2
            go_roundw
            case rel =>
              refine ⟨2, by omega, by omega, rfl, by simpa using hsz, (hR.set _ _).congr fun j hj => ?_, hW.setCell (by simp) _⟩
              by_cases hj1 : j = 1
              · subst hj1
                rw [if_pos rfl, head_hit first 1 (by omega) (by omega)]
                simp
                try omega
              · rw [if_neg hj1, head_miss first 1 j hj1]
            case measure => simp [intOf]
          · go_wp2
            go_roundw
            case rel =>
              refine ⟨3, by omega, by omega, rfl, by simpa using hsz, (hR.set _ _).congr fun j hj => ?_, hW.setCell (by simp) _⟩
              by_cases hj1 : j = 2
              · subst hj1
                rw [if_pos rfl, head_hit first 2 (by omega) (by omega)]
                simp
                try omega
              · rw [if_neg hj1, head_miss first 2 j hj1]
            case measure => simp [intOf]
          · go_wp2
            go_roundw
            case rel =>
              refine ⟨4, by omega, by omega, rfl, by simpa using hsz, (hR.set _ _).congr fun j hj => ?_, hW.setCell (by simp) _⟩
              by_cases hj1 : j = 3
              · subst hj1
                rw [if_pos rfl, head_hit first 3 (by omega) (by omega)]
                simp
                try omega
              · rw [if_neg hj1, head_miss first 3 j hj1]
            case measure => simp [intOf]
          · go_wp2
            go_roundw
            case rel =>
              refine ⟨5, by omega, by omega, rfl, by simpa using hsz, (hR.set _ _).congr fun j hj => ?_, hW.setCell (by simp) _⟩
              by_cases hj1 : j = 4
              · subst hj1
                rw [if_pos rfl, head_hit first 4 (by omega) (by omega)]
                simp
                try omega
              · rw [if_neg hj1, head_miss first 4 j hj1]
            case measure => simp [intOf]
        · obtain rfl : r = 5 := by omega
          go_wp2
          go_loopw [10] (fun v ws => ∃ i2 : Nat, i2 ≤ m ∧ v = .int .i64 i2 ∧ W0.heap.size + 1 ≤ ws.heap.size ∧ ws.rowIs W0.heap.size 5 q (fun j => .int .u8 (bodyAt first b i2 j)) ∧ Below W0.heap.size W0 ws) (fun v _ => m - (intOf v).toNat)
          case atStart =>
            refine ⟨0, Nat.zero_le _, rfl, by simpa using hsz, hR.congr fun j hj => ?_, hW⟩
            unfold bodyAt
            split
            · rfl
            · unfold headAt; rw [if_neg (by omega)]; rfl
          case round =>
            obtain ⟨i2, hi2, rfl, hsz2, hR2, hW2⟩ := hrel
            by_cases hlt2 : i2 < m
            · obtain ⟨lb, lo, rfl, hlb, hlc⟩ := HR.out (by omega)
              have hci : wr.cell? ⟨lb, lo + i2, none⟩ = some (.bool (b i2)) := (hW2.cell (p := ⟨lb, lo + i2, none⟩) hlb).trans (hlc i2 (by omega))
              clear hlc
              have hln : (i2 : Int) < (i : Int) := by omega
              cases hbi : b i2 with
              | false =>
                rw [hbi] at hci
                have HB := Lib.hid hbi
                clear hbi
                go_wp2
                go_roundw
                case rel =>
                  refine ⟨i2 + 1, by omega, by go_num, by simpa using hsz2, hR2.congr fun j hj => ?_, hW2⟩
                  unfold bodyAt
                  rw [HM.pk_skip b i2 _ HB.out]
                case measure => simp [intOf]; omega
              | true =>
                rw [hbi] at hci
                have HB := Lib.hid hbi
                clear hbi
                have hq8 : 5 + i2 / 8 < q := by have := HQ.out; omega
                have hcell : wr.cell? ⟨W0.heap.size, 5 + i2 / 8, none⟩ = some (.int .u8 ((HM.pk b i2 (i2 / 8) : Nat) : Int)) := by
                  have := hR2.cell hq8
                  unfold bodyAt at this
                  rwa [if_neg (by omega), Nat.add_sub_cancel_left] at this
                have hff := hR2.frozen (5 + i2 / 8)
                have hcell2 : ∀ X, (wr.alloc (.cells X 5)).drew.cell? ⟨W0.heap.size, 5 + i2 / 8, none⟩ = some (.int .u8 ((HM.pk b i2 (i2 / 8) : Nat) : Int)) := fun X => (World.cell?_alloc_lt wr _ ⟨W0.heap.size, 5 + i2 / 8, none⟩ (by simp; omega)).trans hcell
                have hff2 : ∀ X, (wr.alloc (.cells X 5)).drew.frozen? ⟨W0.heap.size, 5 + i2 / 8, none⟩ = false := fun X => (frozen?_alloc_cells wr _ _ _).trans hff
                have hbits : (wr.alloc (.cells #[.int .u8 128, .int .u8 64, .int .u8 32, .int .u8 16, .int .u8 8, .int .u8 4, .int .u8 2, .int .u8 1] 5)).drew.cell? ⟨wr.heap.size, i2 % 8, none⟩ = some (.int .u8 ((2 ^ (7 - i2 % 8) : Nat) : Int)) := pow_cell i2 wr
                have hqi : (5 + (i2 : Int) / 8) < (q : Int) := by omega
                go_wp2
                go_region
                all_goals go_wp2
                go_roundw
                case rel =>
                  have hval : (((HM.pk b i2 (i2 / 8) : Nat) : Int) + 2 ^ (7 - i2 % 8)) % 256 = ((HM.pk b (i2 + 1) (i2 / 8) : Nat) : Int) := by
                    have h1 := HM.pk_hit b i2 HB.out
                    have h2 := HM.pk_lt b (i2 + 1) (i2 / 8)
                    have h3 : (((HM.pk b i2 (i2 / 8) : Nat) : Int) + 2 ^ (7 - i2 % 8)) = ((HM.pk b (i2 + 1) (i2 / 8) : Nat) : Int) := by rw [h1]; simp
                    rw [h3]; omega
                  rw [hval]
                  refine ⟨i2 + 1, by omega, by go_num, by simp; omega, (((hR2.alloc _).set _ _).drew).congr fun j hj => ?_, ((hW2.alloc (by omega) _).setCell (by simp) _).drew⟩
                  by_cases hj1 : j = 5 + i2 / 8
                  · subst hj1
                    rw [if_pos rfl]
                    unfold bodyAt
                    rw [if_neg (by omega), Nat.add_sub_cancel_left]
                  · rw [if_neg hj1]
                    unfold bodyAt
                    split
                    · rfl
                    · rw [HM.pk_other b i2 _ (by omega)]
                case measure => simp [intOf]; omega
            · obtain rfl : i2 = m := by omega
              go_wp2
              go_ret2
              have e1 := HQ.out
              have e2 := HMm.out
              subst e1 e2
              exact ⟨_, _, rfl, Nat.le_refl _, rowIs_row hR2 hR2.lt (fun j hj => by rw [bodyAt_eb]), hW2⟩
end Go.Proofs.Ytknlipjgehgihaa
