/- The reference of chapter 42: values, Widths, Fits, Valid. -/
import Derived.Test.YtejadoadpgcpjaaEI
namespace Go.Proofs.Ytejadoadpgcpjaa
open Go.RowKit

def hvals (h : Nat → Int) : Array Value := #[.int .i64 5, .int .i64 (h 0), .int .i64 (h 1), .int .i64 (h 2), .int .i64 (h 3), .int .i64 (h 4), .int .i64 (h 5), .int .i64 (h 6), .int .i64 (h 7), .int .i64 (h 8)]
def hwds : Array Value := #[.int .i64 4, .int .i64 4, .int .i64 16, .int .i64 32, .int .i64 32, .int .i64 8, .int .i64 8, .int .i64 16, .int .i64 24, .int .i64 16]
theorem hvals_at (h : Nat → Int) (k : Nat) (hk : k < 10) : (hvals h)[k]? = some (.int .i64 (hval h k)) :=
  ten (p := fun k => (hvals h)[k]? = some (.int .i64 (hval h k))) rfl rfl rfl rfl rfl rfl rfl rfl rfl rfl k hk
theorem hwds_at (k : Nat) (hk : k < 10) : hwds[k]? = some (.int .i64 (pwd k : Int)) :=
  ten (p := fun k => hwds[k]? = some (.int .i64 (pwd k : Int))) rfl rfl rfl rfl rfl rfl rfl rfl rfl rfl k hk
theorem pwd_le (k : Nat) (hk : k < 10) : 1 ≤ pwd k ∧ pwd k ≤ 32 := ten (p := fun k => 1 ≤ pwd k ∧ pwd k ≤ 32) (by decide) (by decide) (by decide) (by decide) (by decide) (by decide) (by decide) (by decide) (by decide) (by decide) k hk
theorem values_ok (h : Nat → Int) (w : World) :
    Calls Try.prog 60 #[.agg (hdr h)] w fun e w' => e = .returned (.slice (some ⟨w.heap.size + 1, 0, none⟩) 10 10) ∧ Blk w' (w.heap.size + 1) 3 (hvals h) ∧ Below w.heap.size w w' := by
  unfold hdr
  go_enter Try.func60, Try.ntmps60
  go_wp2
  go_ret
  have := Blk.new (w.alloc (.cells (hdr h) 25)) 3 (hvals h)
  rw [World.size_alloc] at this
  exact ⟨rfl, this, ((Below.refl _ w).alloc (Nat.le_refl _) _).alloc (by simp) _⟩
theorem widths42_ok (w : World) :
    Calls Try.prog 26 #[] w fun e w' => e = .returned (.slice (some ⟨w.heap.size, 0, none⟩) 10 10) ∧ w.alloc (.cells hwds 3) = w' := by
  go_enter Try.func26, Try.ntmps26
  go_wp2
  go_ret
  exact ⟨rfl, rfl⟩
theorem firstWrong_step (h : Nat → Int) (k : Nat) (hk : k < 10) : firstWrong h k (10 - k) = if wrongB (hval h k) (pwd k) then (k : Int) else firstWrong h (k + 1) (10 - (k + 1)) := by
  rw [show 10 - k = (10 - (k + 1)) + 1 by omega]; rfl
theorem div_pos_iff (v : Int) (w : Nat) : 0 < v / 2 ^ w ↔ 2 ^ w ≤ v := by
  have hp : (0 : Int) < 2 ^ w := Int.pow_pos (by decide)
  have := Int.le_ediv_iff_mul_le (a := 1) (b := v) hp
  rw [Int.one_mul] at this
  constructor
  · intro h; exact this.1 (by omega)
  · intro h; have := this.2 h; omega
theorem pow_small (n : Nat) (h : n ≤ 32) : (2 : Int) ^ n ≤ 4294967296 ∧ (1 : Int) ≤ 2 ^ n := by
  have h1 : (2 : Nat) ^ n ≤ 2 ^ 32 := Nat.pow_le_pow_right (by decide) h
  have h2 : 0 < 2 ^ n := Nat.two_pow_pos n
  have e : (2 : Int) ^ n = ((2 ^ n : Nat) : Int) := by simp
  rw [e]
  omega

set_option maxRecDepth 100000 in
set_option maxHeartbeats 1600000 in
theorem fits_ok (h : Nat → Int) (w : World) :
    Calls Try.prog 59 #[.agg (hdr h)] w fun e w' => e = .returned (.bool (!anyWrong h)) ∧ Below w.heap.size w w' := by
  have HV := Lib.hid (fun W => values_ok h W)
  unfold hdr at HV ⊢
  obtain ⟨res, hres⟩ : ∃ x, x = !anyWrong h := ⟨_, rfl⟩
  rw [← hres]
  have HRes := Lib.hid hres
  clear hres
  go_enter Try.func59, Try.ntmps59
  go_wp2_with (first
    | (go_at_call 60; refine (HV.out _).mono ?_; rintro e w1 ⟨rfl, hB1, hb1⟩)
    | (go_at_call 26; refine (widths42_ok _).mono ?_; rintro e w2 ⟨rfl, rfl⟩))
  simp only [World.size_alloc] at hB1 hb1
  obtain ⟨W, hW⟩ : ∃ W, W = w1.alloc (.cells hwds 3) := ⟨_, rfl⟩
  have BV : Blk W (w.heap.size + 1 + 1) 3 (hvals h) := by rw [hW]; exact hB1.alloc _
  have BW : Blk W w1.heap.size 3 hwds := by rw [hW]; exact Blk.new _ _ _
  have hb : Below w.heap.size w W := by rw [hW]; exact (((Below.refl _ w).alloc (Nat.le_refl _) _).trans (hb1.mono (by omega))).alloc (by have := hb1.size; simp at this; omega) _
  rw [← hW]
  have HBV := Lib.hid BV
  have HBW := Lib.hid BW
  clear hW BV BW hB1 hb1
  go_loopw [5] (fun v wr => ∃ k : Nat, k ≤ 10 ∧ v = .int .i64 k ∧ firstWrong h 0 10 = firstWrong h k (10 - k) ∧ ∃ d, wr = W.drewN d) (fun v _ => 10 - (intOf v).toNat)
  case atStart => exact ⟨0, by omega, rfl, rfl, 0, rfl⟩
  case round =>
    obtain ⟨k, hk, rfl, hfw, d, rfl⟩ := hrel
    have HFW := Lib.hid hfw
    clear hfw
    by_cases hlt : k < 10
    · have cv : W.cell? ⟨w.heap.size + 1 + 1, k, none⟩ = some (.int .i64 (hval h k)) := (HBV.out.cell k).trans (hvals_at h k hlt)
      have cw : W.cell? ⟨w1.heap.size, k, none⟩ = some (.int .i64 (pwd k : Int)) := (HBW.out.cell k).trans (hwds_at k hlt)
      obtain ⟨p1, p2⟩ := pwd_le k hlt
      obtain ⟨q1, q2⟩ := pow_small (pwd k) p2
      have HST := Lib.hid (firstWrong_step h k hlt)
      obtain ⟨v, hv⟩ : ∃ v, v = hval h k := ⟨_, rfl⟩
      obtain ⟨wd, hwd⟩ : ∃ x, x = pwd k := ⟨_, rfl⟩
      rw [← hv] at cv HST
      rw [← hwd] at cw HST p1 p2 q1 q2
      have g1 : (0 : Int) ≤ (k : Int) := by omega
      have g2 : (k : Int) < 10 := by omega
      clear hv hwd
      by_cases hneg : v < 0
      · have hd : decide (v < 0) = true := by simpa using hneg
        have hwr : wrongB v wd = true := by simp [wrongB, hneg]
        have HWR := Lib.hid hwr
        clear hwr
        go_wp2
        go_quiet (fail)
        go_wp2
        go_ret
        exact ⟨ret_bool (by rw [HRes.out]; unfold anyWrong; rw [HFW.out, HST.out, HWR.out]; simp), below_drewN (below_drewN hb _) _⟩
      · have hd : decide (v < 0) = false := by simpa using hneg
        have hmin : min wd 64 = wd := by omega
        have hsh : IntKind.i64.wrap ((2 : Int) ^ wd) = 2 ^ wd := IntWalk.i64_in _ (by omega)
        have hv0 : 0 ≤ v := by omega
        by_cases hbig : (2 : Int) ^ wd ≤ v
        · have HWR := Lib.hid (show wrongB v wd = true by have := (div_pos_iff v wd).2 hbig; simp [wrongB, this])
          have hd2 : decide ((2 : Int) ^ wd ≤ v) = true := by simpa using hbig
          go_wp2
          go_quiet (fail)
          go_wp2
          go_ret
          exact ⟨ret_bool (by rw [HRes.out]; unfold anyWrong; rw [HFW.out, HST.out, HWR.out]; simp), below_drewN (below_drewN hb _) _⟩
        · have HWR := Lib.hid (show wrongB v wd = false by
            have h1 : ¬ 0 < v / 2 ^ wd := fun h => hbig ((div_pos_iff v wd).1 h)
            simp [wrongB, hneg, h1])
          have hd2 : decide ((2 : Int) ^ wd ≤ v) = false := by simpa using hbig
          have hd3 : v < (2 : Int) ^ wd := by omega
          go_wp2
          go_quiet (fail)
          go_wp2
          go_roundw
          case rel => exact ⟨k + 1, by omega, by go_num, by rw [HFW.out, HST.out, HWR.out]; simp, d + nq, by first | rfl | rw [World.drewN_drewN]⟩
          case measure => simp [intOf]; omega
    · obtain rfl : k = 10 := by omega
      go_wp2
      go_ret
      exact ⟨ret_bool (by rw [HRes.out]; unfold anyWrong; rw [HFW.out]; rfl), below_drewN hb _⟩

set_option maxRecDepth 100000 in
theorem rvalid_ok (h : Nat → Int) (w : World) :
    Calls Try.prog 23 #[.agg (hdr h)] w fun e w' => e = .returned (.bool (validB h)) ∧ Below w.heap.size w w' := by
  have HF := Lib.hid (fun W => fits_ok h W)
  have HH := Lib.hid (Blk.new w 25 (hdr h))
  have HV : Hid (validB h = (!anyWrong h && decide (20 ≤ h 8) && decide (h 8 ≤ 9000))) := Lib.hid rfl
  obtain ⟨aw, haw⟩ : ∃ x, x = (!anyWrong h) := ⟨_, rfl⟩
  obtain ⟨vb, hvb⟩ : ∃ x, x = validB h := ⟨_, rfl⟩
  rw [← haw, ← hvb] at HV
  rw [← haw] at HF
  rw [← hvb]
  clear haw hvb
  unfold hdr at HF ⊢
  go_enter Try.func23, Try.ntmps23
  go_wp2_with (go_at_call 59; refine (HF.out _).mono ?_; rintro e w1 ⟨rfl, hb1⟩; have hc : w1.cell? ⟨w.heap.size, 8, none⟩ = some (.int .i64 (h 8)) := (HH.out.below hb1 (by simp)).cell 8)
  all_goals (go_ret; exact ⟨ret_bool (by rw [HV.out]; first | (simp_all; done) | (simp_all; intros; omega)), ((Below.refl _ w).alloc (Nat.le_refl _) _).trans (hb1.mono (by simp))⟩)
end Go.Proofs.Ytejadoadpgcpjaa
