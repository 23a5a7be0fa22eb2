/- pdcptx: which states are valid. -/
import Derived.Test.YtiffminhlimajaaGreatTC
import Derived.Test.YtiffminhlimajaaGreatOZ
import Derived.BigQuiet
namespace Go.Proofs.YtiffminhlimajaaGreat
open Go.RowKit
set_option linter.unusedVariables false
attribute [local go_sem ↓] Go.wp_at_zero Go.wp_at_succ

/-- a slice of byte slices -/
structure BRows (w : World) (A : Option Addr) (m : Nat) (PA : Nat → Option Addr) (pn pc : Nat → Nat) (z : Nat → Nat → Int) : Prop where
  at_ : m ≠ 0 → ∃ lb lo, A = some ⟨lb, lo, none⟩ ∧ lb < w.heap.size ∧ ∀ k, k < m → w.cell? ⟨lb, lo + k, none⟩ = some (.slice (PA k) (pn k) (pc k))
  len : ∀ k, k < m → pn k ≤ 9223372036854775807
  cap : ∀ k, k < m → pn k ≤ pc k
  byte : ∀ k, k < m → ∀ j, j < pn k → 0 ≤ z k j ∧ z k j < 256
  row : ∀ k, k < m → Row w w.heap.size (PA k) (pn k) (fun j => .int .u8 (z k j))
theorem BRows.below {w w' : World} {A : Option Addr} {m : Nat} {PA : Nat → Option Addr} {pn pc : Nat → Nat} {z : Nat → Nat → Int} (h : BRows w A m PA pn pc z) (hb : Below w.heap.size w w') : BRows w' A m PA pn pc z :=
  ⟨fun hm => by
    obtain ⟨lb, lo, e, hlt, hc⟩ := h.at_ hm
    exact ⟨lb, lo, e, Nat.lt_of_lt_of_le hlt hb.size, fun k hk => (hb.cell (p := ⟨lb, lo + k, none⟩) hlt).trans (hc k hk)⟩, h.len, h.cap, h.byte, fun k hk => (h.row k hk).next hb⟩
/-- the first index at which p holds -/
def firstP (p : Nat → Bool) : Nat → Nat → Int
  | _, 0 => -1
  | k, d + 1 => if p k = true then (k : Int) else firstP p (k + 1) d
theorem firstP_step (p : Nat → Bool) (k n : Nat) (h : k < n) : firstP p k (n - k) = if p k = true then (k : Int) else firstP p (k + 1) (n - (k + 1)) := by
  rw [show n - k = (n - (k + 1)) + 1 by omega]; rfl
theorem firstP_some (p : Nat → Bool) : ∀ d k, 0 ≤ firstP p k d ↔ ∃ j, k ≤ j ∧ j < k + d ∧ p j = true
  | 0, k => by
    unfold firstP
    exact ⟨fun h => absurd h (by decide), fun ⟨j, h1, h2, _⟩ => by omega⟩
  | d + 1, k => by
    unfold firstP
    by_cases hp : p k = true
    · rw [if_pos hp]
      exact ⟨fun _ => ⟨k, Nat.le_refl _, by omega, hp⟩, fun _ => Int.natCast_nonneg _⟩
    · rw [if_neg hp, firstP_some p d (k + 1)]
      constructor
      · rintro ⟨j, h1, h2, h3⟩; exact ⟨j, by omega, by omega, h3⟩
      · rintro ⟨j, h1, h2, h3⟩
        have : j ≠ k := fun e => hp (e ▸ h3)
        exact ⟨j, by omega, by omega, h3⟩
def anyP (p : Nat → Bool) (n : Nat) : Bool := decide (0 ≤ firstP p 0 n)
theorem anyP_iff (p : Nat → Bool) (n : Nat) : anyP p n = true ↔ ∃ j, j < n ∧ p j = true := by
  unfold anyP
  rw [decide_eq_true_iff, firstP_some]
  exact ⟨fun ⟨j, _, h2, h3⟩ => ⟨j, by omega, h3⟩, fun ⟨j, h2, h3⟩ => ⟨j, Nat.zero_le _, by omega, h3⟩⟩
set_option maxRecDepth 100000 in
set_option maxHeartbeats 1600000 in
theorem qindex_ok (A : Option Addr) (n c : Nat) (PA : Nat → Option Addr) (pn pc : Nat → Nat) (z : Nat → Nat → Int) (hn : n ≤ maxLen) (w : World) (hr : BRows w A n PA pn pc z) :
    Calls Tryz.prog 109 #[.slice A n c, .func (.func 84) #[] #[]] w fun e w' => e = .returned (.int .i64 (firstP (fun k => !fitsB (pn k)) 0 n)) ∧ w = w' := by
  unfold maxLen at hn
  by_cases hn0 : n = 0
  · subst hn0
    go_enter Tryz.func109, Tryz.ntmps109
    go_wp2
    go_loop [8] (fun v => v = .int .i64 0) (fun _ => 0)
    case atStart => rfl
    case round =>
      subst hrel
      go_wp2
      go_ret
      exact ⟨rfl, rfl⟩
  obtain ⟨lb, lo, rfl, hlb, hc⟩ := hr.at_ (by omega)
  have HC := Lib.hid hc
  obtain ⟨F, hF⟩ : ∃ F, F = fun k => !fitsB (pn k) := ⟨_, rfl⟩
  have HF0 := Lib.hid hF
  rw [← hF]
  clear hc hr hF
  go_enter Tryz.func109, Tryz.ntmps109
  go_wp2
  go_loop [8] (fun v => ∃ k : Nat, k ≤ n ∧ v = .int .i64 k ∧ firstP F 0 n = firstP F k (n - k)) (fun v => n - (intOf v).toNat)
  case atStart => exact ⟨0, by omega, rfl, rfl⟩
  case round =>
    obtain ⟨k, hk, rfl, hfw⟩ := hrel
    have HF := Lib.hid hfw
    clear hfw
    by_cases hlt : k < n
    · have c0 : w.cell? ⟨lb, lo + k, none⟩ = some (.slice (PA k) (pn k) (pc k)) := HC.out k hlt
      have HB := Lib.hid (fits_not (PA k) (pn k) (pc k) w)
      have hFk : F k = !fitsB (pn k) := by rw [HF0.out]
      have HST := Lib.hid (firstP_step F k n hlt)
      obtain ⟨b, hb⟩ : ∃ b, b = !fitsB (pn k) := ⟨_, rfl⟩
      rw [← hb] at HB hFk
      have HFk := Lib.hid hFk
      clear hb hFk
      cases b
      · have HS2 := Lib.hid (HST.out.trans (if_neg (by rw [HFk.out]; decide)))
        go_wp2_with (go_at_call 84; refine (HB.out).mono ?_; rintro e w2 ⟨rfl, rfl⟩)
        go_round
        case rel => exact ⟨k + 1, by omega, by go_num, by rw [HF.out, HS2.out]⟩
        case measure => simp [intOf]; omega
      · have HS2 := Lib.hid (HST.out.trans (if_pos HFk.out))
        go_wp2_with (go_at_call 84; refine (HB.out).mono ?_; rintro e w2 ⟨rfl, rfl⟩)
        go_ret
        exact ⟨ret_int (by rw [HF.out, HS2.out]), rfl⟩
    · obtain rfl : k = n := by omega
      have HF2 := Lib.hid (show firstP F 0 k = -1 by rw [HF.out, Nat.sub_self]; rfl)
      clear HF
      go_wp2
      go_ret
      exact ⟨ret_int HF2.out.symm, rfl⟩
theorem qcontains_ok (A : Option Addr) (n c : Nat) (PA : Nat → Option Addr) (pn pc : Nat → Nat) (z : Nat → Nat → Int) (hn : n ≤ maxLen) (w : World) (hr : BRows w A n PA pn pc z) :
    Calls Tryz.prog 83 #[.slice A n c, .func (.func 84) #[] #[]] w fun e w' => e = .returned (.bool (anyP (fun k => !fitsB (pn k)) n)) ∧ w = w' := by
  have HI := Lib.hid (qindex_ok A n c PA pn pc z hn w hr)
  obtain ⟨x, hx⟩ : ∃ x, x = firstP (fun k => !fitsB (pn k)) 0 n := ⟨_, rfl⟩
  have hA : anyP (fun k => !fitsB (pn k)) n = decide (0 ≤ x) := by unfold anyP; rw [hx]
  rw [hA]
  rw [← hx] at HI
  clear hx hA hr
  go_enter Tryz.func83, Tryz.ntmps83
  go_wp2_with (go_at_call 109; refine (HI.out).mono ?_; rintro e w2 ⟨rfl, rfl⟩)
  go_ret
  exact ⟨rfl, rfl⟩
/-- element k of the pending packets is in order -/
def pendOk (N : Int) (ct : Nat → Int) (pn : Nat → Nat) (k : Nat) : Prop := fitsB (pn k) = true ∧ ct k < N ∧ (0 < k → ct (k - 1) < ct k)
/-- a transmitter's state is valid -/
structure FOk (ac : Bool) (nx : Int) (us : Bool) (m : Nat) (ct : Nat → Int) (pn : Nat → Nat) (mq : Nat) (qn : Nat → Nat) : Prop where
  used : us = true → nx = 0
  acked : 0 < m → ac = true
  elem : ∀ k, k < m → pendOk (nextOf nx us) ct pn k
  window : 0 < m → nextOf nx us - ct 0 ≤ 2048
  queue : ∀ k, k < mq → fitsB (qn k) = true

set_option maxRecDepth 100000 in
set_option maxHeartbeats 6400000 in
theorem tsvalid_ok (cf : Cfg) (A A2 : Option Addr) (m c1 mq c2 : Nat) (nx : Int) (us : Bool) (ct : Nat → Int) (PA : Nat → Option Addr) (pn pc : Nat → Nat) (z : Nat → Nat → Int) (QA : Nat → Option Addr) (qn qc : Nat → Nat) (y : Nat → Nat → Int) (w : World) (hnx : 0 ≤ nx ∧ nx < 4294967296) (hm : m ≤ maxLen) (hmq : mq ≤ maxLen)
    (h : Cnts w A m ct PA pn pc z) (hq : BRows w A2 mq QA qn qc y) (r : Bool) (hr : r = true ↔ FOk cf.ac nx us m ct pn mq qn) :
    Calls Tryz.prog 44 #[.agg cf.arr, .agg #[.int .u32 nx, .bool us, .slice A m c1, .slice A2 mq c2]] w fun e w' => e = .returned (.bool r) ∧ Below w.heap.size w w' := by
  unfold maxLen at hm
  have HC := Lib.hid h
  have HQ := Lib.hid (fun (W : World) (hb : Below w.heap.size w W) => qcontains_ok A2 mq c2 QA qn qc y hmq W (hq.below hb))
  have HNX := Lib.hid (fun (W : World) => tnext_ok nx us (.slice A m c1) (.slice A2 mq c2) W hnx)
  have HNo := Lib.hid (fun (hn : ¬ FOk cf.ac nx us m ct pn mq qn) => (show Ending.returned (.bool false) = Ending.returned (.bool r) from ret_bool (by
    rcases Bool.eq_false_or_eq_true r with h | h
    · exact absurd (hr.1 h) hn
    · exact h.symm)))
  have HYes := Lib.hid (fun (hn : FOk cf.ac nx us m ct pn mq qn) => (show Ending.returned (.bool true) = Ending.returned (.bool r) from ret_bool (hr.2 hn).symm))
  have h36 : cf.arr[36]? = some (.bool cf.ac) := cf.arr_at (by decide)
  obtain ⟨Z, hZ⟩ : ∃ Z, Z = cf.arr := ⟨_, rfl⟩
  obtain ⟨ac, hac⟩ : ∃ ac, ac = cf.ac := ⟨_, rfl⟩
  obtain ⟨N, hN⟩ : ∃ N, N = nextOf nx us := ⟨_, rfl⟩
  have N0 : 0 ≤ N ∧ N ≤ 4294967296 := by rw [hN]; unfold nextOf; split <;> omega
  rw [← hZ, ← hac] at h36
  rw [← hac] at HNo HYes
  rw [← hZ]
  rw [← hN] at HNX
  have HN := Lib.hid hN
  have hnx0 := hnx.1
  clear h hq hr hZ hac hN hmq hnx
  go_enter Tryz.func44, Tryz.ntmps44
  go_upto_region 1 with (fail)
  refine wp_let (fun W => Blk W w.heap.size 25 Z ∧ Blk W (w.heap.size + 1) 36 #[.int .u32 nx, .bool us, .slice A m c1, .slice A2 mq c2] ∧ Below w.heap.size w W) ⟨(Blk.new _ _ _).alloc _, blk_atZ _ _ _ _ (by simp), ((Below.refl _ w).alloc (Nat.le_refl _) _).alloc (by simp) _⟩ ?_
  rintro W1 ⟨b1, b2, b3⟩
  obtain ⟨zb, hzb⟩ : ∃ zb, zb = w.heap.size := ⟨_, rfl⟩
  rw [← hzb] at b1 b2 ⊢
  have HZB := Lib.hid hzb
  have x36 := (b1.cell 36).trans h36
  have f0 := b2.cell 0
  have f1 := b2.cell 1
  have f2 := b2.cell 2
  have f3 := b2.cell 3
  simp at f0 f1 f2 f3
  have B1 := Lib.hid b1
  have B2 := Lib.hid b2
  have B3 := Lib.hid (show Below w.heap.size w W1 from by exact b3)
  clear b1 b2 b3 hzb h36
  by_cases hun : us = true ∧ nx ≠ 0
  · obtain ⟨rfl, hn0⟩ := hun
    have d0 : (nx != 0) = true := by simpa using hn0
    have HF := Lib.hid (HNo.out fun h => hn0 (h.used rfl))
    clear hn0
    go_wp2
    go_ret
    exact ⟨HF.out, B3.out⟩
  by_cases hma : 0 < m ∧ ac = false
  · obtain ⟨hm0, rfl⟩ := hma
    have d1 : (0 : Int) < (m : Int) := by omega
    have HF := Lib.hid (HNo.out fun h => (by have := h.acked hm0; cases this))
    cases us
    · clear hun
      go_wp2
      go_ret
      exact ⟨HF.out, B3.out⟩
    · obtain rfl : nx = 0 := by
        rcases Classical.em (nx = 0) with e | e
        · exact e
        · exact absurd ⟨rfl, e⟩ hun
      clear hun
      go_wp2
      go_ret
      exact ⟨HF.out, B3.out⟩
  have HUN := Lib.hid hun
  have HMA := Lib.hid hma
  clear hun hma
  go_cut [24] from 7 to 24 (fun v24 wx => v24 = .bool false ∧ wx = W1)
  case first =>
    have hu2 : us = false ∨ (us = true ∧ nx = 0) := by
      cases us
      · exact .inl rfl
      · refine .inr ⟨rfl, ?_⟩
        rcases Classical.em (nx = 0) with e | e
        · exact e
        · exact absurd ⟨rfl, e⟩ HUN.out
    have ha2 : m = 0 ∨ (0 < m ∧ ac = true) := by
      rcases Nat.eq_zero_or_pos m with e | e
      · exact .inl e
      · refine .inr ⟨e, ?_⟩
        cases ac
        · exact absurd ⟨e, rfl⟩ HMA.out
        · rfl
    rcases hu2 with rfl | ⟨rfl, rfl⟩ <;> rcases ha2 with rfl | ⟨hm0, rfl⟩
    · go_wp2
      go_meet
      exact ⟨rfl, rfl⟩
    · have d1 : (0 : Int) < (m : Int) := by omega
      go_wp2
      go_meet
      exact ⟨rfl, rfl⟩
    · go_wp2
      go_meet
      exact ⟨rfl, rfl⟩
    · have d1 : (0 : Int) < (m : Int) := by omega
      go_wp2
      go_meet
      exact ⟨rfl, rfl⟩
  case rest =>
    obtain ⟨rfl, rfl⟩ := hcut
    have hzl : zb < wc.heap.size := B1.out.lt
    have hfl : zb + 1 < wc.heap.size := B2.out.lt
    go_wp2
    go_loopw [28] (fun v28 wr => ∃ k : Nat, k ≤ m ∧ v28 = .int .i64 k ∧ (∀ j, j < k → pendOk N ct pn j) ∧ Below wc.heap.size wc wr) (fun v28 _ => m - (intOf v28).toNat)
    case atStart => exact ⟨0, by omega, rfl, fun j hj => by omega, Below.refl _ _⟩
    case round =>
      obtain ⟨k, hk, rfl, hall, hBr⟩ := hrel
      have HALL := Lib.hid hall
      have BR := Lib.hid hBr
      have y0 : wr.cell? ⟨zb + 1, 0, none⟩ = some (.int .u32 nx) := (hBr.cell (p := ⟨zb + 1, 0, none⟩) hfl).trans f0
      have y1 : wr.cell? ⟨zb + 1, 1, none⟩ = some (.bool us) := (hBr.cell (p := ⟨zb + 1, 1, none⟩) hfl).trans f1
      have y2 : wr.cell? ⟨zb + 1, 2, none⟩ = some (.slice A m c1) := (hBr.cell (p := ⟨zb + 1, 2, none⟩) hfl).trans f2
      have y3 : wr.cell? ⟨zb + 1, 3, none⟩ = some (.slice A2 mq c2) := (hBr.cell (p := ⟨zb + 1, 3, none⟩) hfl).trans f3
      have hzr : zb + 1 < wr.heap.size := by have := hBr.size; omega
      have hwz : w.heap.size ≤ wc.heap.size := B3.out.size
      have HCr := Lib.hid (HC.out.below (below_step B3.out hBr))
      clear hall hBr
      by_cases hlt : k < m
      · obtain ⟨lb, lo, rfl, hlb, hlc⟩ := HCr.out.at_ (by omega)
        obtain ⟨c0, c1⟩ := hlc k hlt
        have HPREV := Lib.hid (fun (h0 : 0 < k) => (hlc (k - 1) (by omega)).1)
        obtain ⟨r0, r1⟩ := HC.out.rng k hlt
        have HEK := Lib.hid (show pendOk N ct pn k ↔ fitsB (pn k) = true ∧ ct k < N ∧ (0 < k → ct (k - 1) < ct k) from Iff.rfl)
        obtain ⟨x, hx⟩ : ∃ x, x = ct k := ⟨_, rfl⟩
        obtain ⟨fb, hfb⟩ : ∃ fb, fb = fitsB (pn k) := ⟨_, rfl⟩
        rw [← hx] at r0 r1 c0 HEK
        rw [← hfb] at HEK
        have HFB := Lib.hid hfb
        have tw : IntKind.u64.wrap x = x := by simp [IntKind.wrap_u64]; omega
        have k0 : (0 : Int) ≤ (k : Int) := by omega
        have k1 : (k : Int) < (m : Int) := by omega
        clear hx hlc hfb
        go_upto_region 6 with (fail)
        refine wp_let (fun W => Blk W wr.heap.size 47 #[.int .u32 x, .slice (PA k) (pn k) (pc k)] ∧ Below wr.heap.size wr W) ⟨Blk.new _ _ _, (Below.refl _ wr).alloc (Nat.le_refl _) _⟩ ?_
        rintro W6 ⟨b6, b7⟩
        obtain ⟨xb, hxb⟩ : ∃ xb, xb = wr.heap.size := ⟨_, rfl⟩
        rw [← hxb] at b6 ⊢
        have BW := Lib.hid (below_step (BR.out.mono (Nat.le_refl _)) b7)
        have cell := fun (b o : Nat) (v : Value) (hb : b < wr.heap.size) (hv : wr.cell? ⟨b, o, none⟩ = some v) => (fun (e : ExtT W6) => e.cell ((b7.cell (p := ⟨b, o, none⟩) hb).trans hv) (Nat.lt_of_lt_of_le hb b7.size))
        have u0 := cell _ _ _ hzr y0
        have u1 := cell _ _ _ hzr y1
        have u2 := cell _ _ _ hzr y2
        have u3 := cell _ _ _ hzr y3
        have hxl := b6.lt
        have u4 : ∀ e : ExtT W6, e.v.cell? ⟨xb, 0, none⟩ = some (.int .u32 x) := fun e => e.cell (b6.cell 0) hxl
        have u5 : ∀ e : ExtT W6, e.v.cell? ⟨xb, 1, none⟩ = some (.slice (PA k) (pn k) (pc k)) := fun e => e.cell (b6.cell 1) hxl
        have HCELL := Lib.hid cell
        clear cell b6 b7 hxb c0 c1 y0 y1 y2 y3
        rcases Bool.eq_false_or_eq_true fb with hfb | hfb
        rotate_left
        · subst hfb
          have HF := Lib.hid (HNo.out fun h => (by have := (HEK.out.1 (by have := h.elem k hlt; rwa [← HN.out] at this)).1; cases this))
          have FB := HFB.out.symm
          refine wp_region_extT (by kernel_rfl) (by kernel_rfl) ?_
          repeat (go_big_quiet_step (first
            | (go_at_call 82; exact Calls.ext_ofT ((fits_ok _ _ _ _).mono fun e w' h => ⟨h.1, by rw [← h.2]; exact Below.refl _ _⟩))
            | (go_at_call 45; exact Calls.ext_ofT (HNX.out _))))
          refine wpQuiet_nil ?_
          rintro _ ⟨ex, rfl⟩
          go_wp2
          go_ret
          exact ⟨HF.out, B3.out.trans ((BW.out.trans (ex.h.mono BW.out.size)).mono hwz)⟩
        subst hfb
        have FB := HFB.out.symm
        by_cases hlN : N ≤ x
        · have HF := Lib.hid (HNo.out fun h => (by have := (HEK.out.1 (by have := h.elem k hlt; rwa [← HN.out] at this)).2.1; omega))
          have dl : decide (N ≤ x) = true := by simpa using hlN
          refine wp_region_extT (by kernel_rfl) (by kernel_rfl) ?_
          repeat (go_big_quiet_step (first
            | (go_at_call 82; exact Calls.ext_ofT ((fits_ok _ _ _ _).mono fun e w' h => ⟨h.1, by rw [← h.2]; exact Below.refl _ _⟩))
            | (go_at_call 45; exact Calls.ext_ofT (HNX.out _))))
          refine wpQuiet_nil ?_
          rintro _ ⟨ex, rfl⟩
          go_wp2
          go_ret
          exact ⟨HF.out, B3.out.trans ((BW.out.trans (ex.h.mono BW.out.size)).mono hwz)⟩
        have dl : decide (N ≤ x) = false := by simpa using hlN
        by_cases hk0 : k = 0
        · have HOKK := Lib.hid (HEK.out.2 ⟨rfl, by omega, fun h => absurd h (by omega)⟩)
          have HAL2 := Lib.hid (show ∀ j, j < k + 1 → pendOk N ct pn j from fun j hj => by
            by_cases e : j = k
            · subst e; exact HOKK.out
            · exact HALL.out j (by omega))
          have dkb : decide (0 < k) = false := by simpa using hk0
          clear hk0
          refine wp_region_extT (by kernel_rfl) (by kernel_rfl) ?_
          repeat (go_big_quiet_step (first
            | (go_at_call 82; exact Calls.ext_ofT ((fits_ok _ _ _ _).mono fun e w' h => ⟨h.1, by rw [← h.2]; exact Below.refl _ _⟩))
            | (go_at_call 45; exact Calls.ext_ofT (HNX.out _))))
          refine wpQuiet_nil ?_
          rintro _ ⟨ex, rfl⟩
          have BE := Lib.hid (BW.out.trans (ex.h.mono BW.out.size))
          go_wp2
          go_roundw
          case rel => first | exact ⟨k + 1, by omega, by go_num, HAL2.out, BE.out⟩ | ((repeat apply Exists.intro); exact ⟨⟨k + 1, by omega, by go_num, HAL2.out, BE.out⟩, rfl⟩)
          case measure => simp [intOf]; omega
        have dkb : decide (0 < k) = true := by simp; omega
        have wk : IntKind.i64.wrap ((k : Int) - 1) = ((k - 1 : Nat) : Int) := by rw [IntWalk.i64_in _ (by omega)]; omega
        have kk0 : (0 : Int) ≤ ((k - 1 : Nat) : Int) := by omega
        have kk1 : ((k - 1 : Nat) : Int) < (m : Int) := by omega
        have u6 := HCELL.out _ _ _ hlb (HPREV.out (by omega))
        obtain ⟨q, hq⟩ : ∃ q, q = k - 1 := ⟨_, rfl⟩
        rw [← hq] at wk kk0 kk1 u6 HEK
        obtain ⟨xp, hxp⟩ : ∃ xp, xp = ct q := ⟨_, rfl⟩
        rw [← hxp] at u6 HEK
        clear hq hxp
        by_cases hle : x ≤ xp
        · have HF := Lib.hid (HNo.out fun h => (by have := (HEK.out.1 (by have := h.elem k hlt; rwa [← HN.out] at this)).2.2 (by omega); omega))
          have dp : decide (x ≤ xp) = true := by simpa using hle
          refine wp_region_extT (by kernel_rfl) (by kernel_rfl) ?_
          repeat (go_big_quiet_step (first
            | (go_at_call 82; exact Calls.ext_ofT ((fits_ok _ _ _ _).mono fun e w' h => ⟨h.1, by rw [← h.2]; exact Below.refl _ _⟩))
            | (go_at_call 45; exact Calls.ext_ofT (HNX.out _))))
          refine wpQuiet_nil ?_
          rintro _ ⟨ex, rfl⟩
          go_wp2
          go_ret
          exact ⟨HF.out, B3.out.trans ((BW.out.trans (ex.h.mono BW.out.size)).mono hwz)⟩
        have dp : decide (x ≤ xp) = false := by simpa using hle
        have HOKK := Lib.hid (HEK.out.2 ⟨rfl, by omega, fun _ => by omega⟩)
        refine wp_region_extT (by kernel_rfl) (by kernel_rfl) ?_
        repeat (go_big_quiet_step (first
          | (go_at_call 82; exact Calls.ext_ofT ((fits_ok _ _ _ _).mono fun e w' h => ⟨h.1, by rw [← h.2]; exact Below.refl _ _⟩))
          | (go_at_call 45; exact Calls.ext_ofT (HNX.out _))))
        refine wpQuiet_nil ?_
        rintro _ ⟨ex, rfl⟩
        have BE := Lib.hid (BW.out.trans (ex.h.mono BW.out.size))
        have HAL2 := Lib.hid (show ∀ j, j < k + 1 → pendOk N ct pn j from fun j hj => by
          by_cases e : j = k
          · subst e; exact HOKK.out
          · exact HALL.out j (by omega))
        go_wp2
        go_roundw
        case rel => first | exact ⟨k + 1, by omega, by go_num, HAL2.out, BE.out⟩ | ((repeat apply Exists.intro); exact ⟨⟨k + 1, by omega, by go_num, HAL2.out, BE.out⟩, rfl⟩)
        case measure => simp [intOf]; omega
      · obtain rfl : k = m := by omega
        have HALL2 := Lib.hid HALL.out
        by_cases hk0 : k = 0
        · have dkb : decide (0 < k) = false := by simpa using hk0
          have HK0 := Lib.hid hk0
          clear hk0
          have u2 : ∀ e : ExtT wr, e.v.cell? ⟨zb + 1, 2, none⟩ = some (.slice A k c1) := fun e => e.cell y2 hzr
          have HQ3 := Lib.hid y3
          clear y0 y1 y2 y3
          go_upto_region 9 with (fail)
          refine wp_region_extT (by kernel_rfl) (by kernel_rfl) ?_
          repeat (go_big_quiet_step (first
            | (go_at_call 45; exact Calls.ext_ofT (HNX.out _))))
          refine wpQuiet_nil ?_
          rintro _ ⟨ex, rfl⟩
          have y3 := ex.cell HQ3.out hzr
          have BE := Lib.hid (BR.out.trans (ex.h.mono BR.out.size))
          have HQC := Lib.hid (HQ.out _ (B3.out.trans (BE.out.mono hwz)))
          obtain ⟨bq, hbq⟩ : ∃ b, b = anyP (fun k => !fitsB (qn k)) mq := ⟨_, rfl⟩
          rw [← hbq] at HQC
          have HRES := Lib.hid (show Ending.returned (.bool (!bq)) = Ending.returned (.bool r) from by
            have hiff := anyP_iff (fun k => !fitsB (qn k)) mq
            rw [← hbq] at hiff
            cases bq
            · exact HYes.out ⟨fun h => (by
                rcases Classical.em (nx = 0) with e | e
                · exact e
                · exact absurd ⟨h, e⟩ HUN.out), fun h => (by
                cases ac
                · exact absurd ⟨h, rfl⟩ HMA.out
                · rfl), fun j hj => (by rw [← HN.out]; exact HALL.out j hj), fun h => absurd h (by have := HK0.out; omega), fun j hj => (by
                rcases Bool.eq_false_or_eq_true (fitsB (qn j)) with e | e
                · exact e
                · exact absurd (hiff.2 ⟨j, hj, by rw [e]; rfl⟩) (by decide))⟩
            · refine HNo.out fun h => ?_
              obtain ⟨j, hj, e⟩ := hiff.1 rfl
              have := h.queue j hj
              rw [this] at e
              cases e)
          clear hbq
          go_wp2_with (go_at_call 83; refine HQC.out.mono ?_; rintro e w9 ⟨rfl, rfl⟩)
          go_ret
          exact ⟨HRES.out, B3.out.trans (BE.out.mono hwz)⟩
        obtain ⟨lb, lo, rfl, hlb, hlc⟩ := HCr.out.at_ hk0
        obtain ⟨c0, _⟩ := hlc 0 (by omega)
        obtain ⟨r0, r1⟩ := HC.out.rng 0 (by omega)
        have dkb : decide (0 < k) = true := by simp; omega
        have cell := fun (b o : Nat) (v : Value) (hb : b < wr.heap.size) (hv : wr.cell? ⟨b, o, none⟩ = some v) => (fun (e : ExtT wr) => e.cell hv hb)
        have u0 := cell _ _ _ hzr y0
        have u1 := cell _ _ _ hzr y1
        have u2 := cell _ _ _ hzr y2
        have u3 := cell _ _ _ hzr y3
        have u4 := cell _ _ _ hlb c0
        simp only [Nat.zero_mul, Nat.add_zero] at u4
        have hx1 := (HALL.out 0 (by omega)).2.1
        have HX0 := Lib.hid (show ∀ x, x = ct 0 → nextOf nx us - ct 0 = N - x from fun x hx => by rw [hx, HN.out])
        obtain ⟨x, hx⟩ : ∃ x, x = ct 0 := ⟨_, rfl⟩
        rw [← hx] at r0 r1 u4 hx1
        have HXX := Lib.hid (HX0.out x hx)
        have tw : IntKind.u64.wrap x = x := by simp [IntKind.wrap_u64]; omega
        have ts : IntKind.u64.wrap (N - x) = N - x := by simp [IntKind.wrap_u64]; omega
        have hk0' : 0 < k := by omega
        have HQ3 := Lib.hid y3
        clear hlc c0 cell hx hk0 y0 y1 y2 y3
        go_upto_region 9 with (fail)
        by_cases hw : (2048 : Int) < N - x
        · have HF := Lib.hid (HNo.out fun h => (by have := h.window hk0'; have e := HXX.out; omega))
          refine wp_region_extT (by kernel_rfl) (by kernel_rfl) ?_
          repeat (go_big_quiet_step (first
            | (go_at_call 45; exact Calls.ext_ofT (HNX.out _))))
          refine wpQuiet_nil ?_
          rintro _ ⟨ex, rfl⟩
          go_wp2
          go_ret
          exact ⟨HF.out, B3.out.trans ((BR.out.trans (ex.h.mono BR.out.size)).mono hwz)⟩
        refine wp_region_extT (by kernel_rfl) (by kernel_rfl) ?_
        repeat (go_big_quiet_step (first
          | (go_at_call 45; exact Calls.ext_ofT (HNX.out _))))
        refine wpQuiet_nil ?_
        rintro _ ⟨ex, rfl⟩
        have hwin : nextOf nx us - ct 0 ≤ 2048 := by have e := HXX.out; omega
        have HWIN := Lib.hid hwin
        have y3 := ex.cell (HQ3.out) hzr
        have BE := Lib.hid (BR.out.trans (ex.h.mono BR.out.size))
        have HQC := Lib.hid (HQ.out _ (B3.out.trans (BE.out.mono hwz)))
        obtain ⟨bq, hbq⟩ : ∃ b, b = anyP (fun k => !fitsB (qn k)) mq := ⟨_, rfl⟩
        rw [← hbq] at HQC
        have HRES := Lib.hid (show Ending.returned (.bool (!bq)) = Ending.returned (.bool r) from by
          have hiff := anyP_iff (fun k => !fitsB (qn k)) mq
          rw [← hbq] at hiff
          cases bq
          · exact HYes.out ⟨fun h => (by
              rcases Classical.em (nx = 0) with e | e
              · exact e
              · exact absurd ⟨h, e⟩ HUN.out), fun h => (by
              cases ac
              · exact absurd ⟨h, rfl⟩ HMA.out
              · rfl), fun j hj => (by rw [← HN.out]; exact HALL.out j hj), fun h => HWIN.out, fun j hj => (by
              rcases Bool.eq_false_or_eq_true (fitsB (qn j)) with e | e
              · exact e
              · exact absurd (hiff.2 ⟨j, hj, by rw [e]; rfl⟩) (by decide))⟩
          · refine HNo.out fun h => ?_
            obtain ⟨j, hj, e⟩ := hiff.1 rfl
            have := h.queue j hj
            rw [this] at e
            cases e)
        clear hbq
        go_wp2_with (go_at_call 83; refine HQC.out.mono ?_; rintro e w9 ⟨rfl, rfl⟩)
        go_ret
        exact ⟨HRES.out, B3.out.trans (BE.out.mono hwz)⟩
end Go.Proofs.YtiffminhlimajaaGreat
