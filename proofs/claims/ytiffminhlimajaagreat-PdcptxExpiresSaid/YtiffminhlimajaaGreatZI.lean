/- pdcptx.Next: new packets. Printed by gen/xzi.py. -/
import Derived.Test.YtiffminhlimajaaGreatZH
namespace Go.Proofs.YtiffminhlimajaaGreat
open Go.RowKit
set_option linter.unusedVariables false
attribute [local go_sem ↓] Go.wp_at_zero Go.wp_at_succ

theorem TxO.next {W R : Nat → Prop} {w w1 w2 : World} {g : Nat} {s : TS} (h : TxO W R w w1 g s) (hb : Below w1.heap.size w1 w2) : TxO W R w w2 g s := by
  obtain ⟨W', R', h1, h2, h3, h4⟩ := h
  exact ⟨W', R', h1.below hb, h2, h3, h4.more hb⟩

set_option maxRecDepth 100000 in
set_option maxHeartbeats 1600000 in
theorem tnext_none (g : Nat) (s : TS) (W R : Nat → Prop) (w : World) (h : TxI w g s W R) (hf : s.Fine) (t : Int) (ht1 : -9223372036854775808 ≤ t) (ht2 : t ≤ 9223372036854775807) (ct : ¬ 1073741824 ≤ t) (hrep : firstRep s.P = none) (hq : (s.tick t).Q = []) :
    Calls Tryz.prog 18 #[.pointer (some ⟨g, 0, none⟩), .int .i64 t] w (NxO W R w g (s.send t)) := by
  have HRP := Lib.hid hrep
  unfold TS.send
  rw [if_neg ct, hrep]
  dsimp only
  rw [hq]
  dsimp only
  have HQ0 := Lib.hid hq
  clear hq
  have HTK := Lib.hid (ttick_ok g s W R w h hf t ht1 ht2)
  rw [if_neg ct, if_neg ct] at HTK
  have HF1 := Lib.hid (hf.tick t)
  clear h hf
  obtain ⟨s1, hs1⟩ : ∃ s1, s1 = s.tick t := ⟨_, rfl⟩
  have HS1 := Lib.hid hs1
  have HC1 : Hid (s1.C = s.C) := Lib.hid (by rw [hs1]; rfl)
  have HP1 : Hid (s1.P = s.P) := Lib.hid (by rw [hs1]; rfl)
  have HN1 : Hid (s1.next = s.next) := Lib.hid (by rw [hs1]; rfl)
  rw [← hs1] at HTK HF1
  clear hs1
  go_enter Tryz.func18, Tryz.ntmps18
  go_upto_region 4 with (go_at_call 48; refine (HTK.out).mono ?_; rintro e w1 ⟨rfl, hO⟩; have HO := Lib.hid hO; clear hO)
  obtain ⟨W1, R1, hI1, hW1, hR1, hK1⟩ := HO.out
  obtain ⟨qA, qc, lq, pA, pc, lp, ub, cb, hT1⟩ := hI1
  have T1 := Lib.hid hT1
  have HW1 := Lib.hid hW1
  have HR1 := Lib.hid hR1
  have HK1 := Lib.hid hK1
  clear hW1 hR1 hK1
  obtain ⟨m, hm⟩ : ∃ m, m = lp.length := ⟨_, rfl⟩
  have HM := Lib.hid hm
  have HRI := Lib.hid (rindex_ok pA m pc lp hm w1 (by rw [hm]; exact hT1.p))
  have cp := hT1.cp
  rw [← hm] at cp
  have hgl := hT1.blk.lt
  have hmc := hT1.p.le
  have hcm := hT1.p.cmax
  unfold maxLen at hcm
  rw [← hm] at hmc
  have m9 : (m : Int) ≤ 9223372036854775807 := by omega
  have HRC := Lib.hid (rep_cases lp)
  rw [hT1.pv, HP1.out, ← hm] at HRC
  clear hT1 hm
  have HF0 : Hid (firstP (isRep lp) 0 m = -1) := by
    rcases HRC.out with ⟨i', e', h1, h2, h3⟩ | ⟨h2, _⟩
    · rw [HRP.out] at h3
      cases h3
    · exact Lib.hid h2
  rw [HF0.out] at HRI
  clear hrep HF0 HRC
  obtain ⟨lqn, hnq⟩ : ∃ lqn, lqn = lq.length := ⟨_, rfl⟩
  have HNQ := Lib.hid hnq
  clear hnq
  go_upto_region 12 with (go_at_call 49; refine (HRI.out).mono ?_; rintro e w2 ⟨rfl, hB⟩; have E2 := Lib.hid hB; clear hB)
  have T2 := Lib.hid (T1.out.below E2.out)
  have cq := T2.out.cq
  rw [← HNQ.out] at cq
  have hO2 := Lib.hid (show TxO W R w w2 g s1 from TxO.comp HW1.out HR1.out HK1.out ⟨W1, R1, ⟨_, _, _, _, _, _, _, _, T2.out⟩, fun _ h => .inl h, fun _ h => .inl h, KeepF.of_below E2.out⟩)
  clear cp
  have hn0 : lqn = 0 := by
    rw [HNQ.out]
    have := congrArg List.length T2.out.qv
    rw [HS1.out, HQ0.out, List.length_map] at this
    exact this
  subst hn0
  go_wp2
  go_ret3
  rw [← HS1.out]
  exact nx_err hO2.out 10

set_option maxRecDepth 100000 in
set_option maxHeartbeats 1600000 in
theorem tnext_used (g : Nat) (s : TS) (W R : Nat → Prop) (w : World) (h : TxI w g s W R) (hf : s.Fine) (t : Int) (ht1 : -9223372036854775808 ≤ t) (ht2 : t ≤ 9223372036854775807) (ct : ¬ 1073741824 ≤ t) (hrep : firstRep s.P = none) (q : QV) (r : List QV) (hq : (s.tick t).Q = q :: r) (hnx : s.next = 4294967296) :
    Calls Tryz.prog 18 #[.pointer (some ⟨g, 0, none⟩), .int .i64 t] w (NxO W R w g (s.send t)) := by
  have HRP := Lib.hid hrep
  unfold TS.send
  rw [if_neg ct, hrep]
  dsimp only
  rw [hq]
  dsimp only
  rw [if_pos hnx]
  have HQ0 := Lib.hid hq
  have HNX := Lib.hid hnx
  clear hq hnx
  have HTK := Lib.hid (ttick_ok g s W R w h hf t ht1 ht2)
  rw [if_neg ct, if_neg ct] at HTK
  have HF1 := Lib.hid (hf.tick t)
  clear h hf
  obtain ⟨s1, hs1⟩ : ∃ s1, s1 = s.tick t := ⟨_, rfl⟩
  have HS1 := Lib.hid hs1
  have HC1 : Hid (s1.C = s.C) := Lib.hid (by rw [hs1]; rfl)
  have HP1 : Hid (s1.P = s.P) := Lib.hid (by rw [hs1]; rfl)
  have HN1 : Hid (s1.next = s.next) := Lib.hid (by rw [hs1]; rfl)
  rw [← hs1] at HTK HF1
  clear hs1
  go_enter Tryz.func18, Tryz.ntmps18
  go_upto_region 4 with (go_at_call 48; refine (HTK.out).mono ?_; rintro e w1 ⟨rfl, hO⟩; have HO := Lib.hid hO; clear hO)
  obtain ⟨W1, R1, hI1, hW1, hR1, hK1⟩ := HO.out
  obtain ⟨qA, qc, lq, pA, pc, lp, ub, cb, hT1⟩ := hI1
  have T1 := Lib.hid hT1
  have HW1 := Lib.hid hW1
  have HR1 := Lib.hid hR1
  have HK1 := Lib.hid hK1
  clear hW1 hR1 hK1
  obtain ⟨m, hm⟩ : ∃ m, m = lp.length := ⟨_, rfl⟩
  have HM := Lib.hid hm
  have HRI := Lib.hid (rindex_ok pA m pc lp hm w1 (by rw [hm]; exact hT1.p))
  have cp := hT1.cp
  rw [← hm] at cp
  have hgl := hT1.blk.lt
  have hmc := hT1.p.le
  have hcm := hT1.p.cmax
  unfold maxLen at hcm
  rw [← hm] at hmc
  have m9 : (m : Int) ≤ 9223372036854775807 := by omega
  have HRC := Lib.hid (rep_cases lp)
  rw [hT1.pv, HP1.out, ← hm] at HRC
  clear hT1 hm
  have HF0 : Hid (firstP (isRep lp) 0 m = -1) := by
    rcases HRC.out with ⟨i', e', h1, h2, h3⟩ | ⟨h2, _⟩
    · rw [HRP.out] at h3
      cases h3
    · exact Lib.hid h2
  rw [HF0.out] at HRI
  clear hrep HF0 HRC
  obtain ⟨lqn, hnq⟩ : ∃ lqn, lqn = lq.length := ⟨_, rfl⟩
  have HNQ := Lib.hid hnq
  clear hnq
  go_upto_region 12 with (go_at_call 49; refine (HRI.out).mono ?_; rintro e w2 ⟨rfl, hB⟩; have E2 := Lib.hid hB; clear hB)
  have T2 := Lib.hid (T1.out.below E2.out)
  have cq := T2.out.cq
  rw [← HNQ.out] at cq
  have hO2 := Lib.hid (show TxO W R w w2 g s1 from TxO.comp HW1.out HR1.out HK1.out ⟨W1, R1, ⟨_, _, _, _, _, _, _, _, T2.out⟩, fun _ h => .inl h, fun _ h => .inl h, KeepF.of_below E2.out⟩)
  clear cp
  have hnq1 : 1 ≤ lqn := by
    rw [HNQ.out]
    have := congrArg List.length T2.out.qv
    rw [HS1.out, HQ0.out, List.length_map, List.length_cons] at this
    omega
  have q1 : ¬ ((lqn : Int) = 0) := by omega
  have cn := T2.out.cnext
  rw [HN1.out, HNX.out] at cn
  go_wp2
  go_ret3
  rw [← HS1.out]
  exact nx_err hO2.out 460

set_option maxRecDepth 100000 in
set_option maxHeartbeats 1600000 in
theorem tnext_full (g : Nat) (s : TS) (W R : Nat → Prop) (w : World) (h : TxI w g s W R) (hf : s.Fine) (t : Int) (ht1 : -9223372036854775808 ≤ t) (ht2 : t ≤ 9223372036854775807) (ct : ¬ 1073741824 ≤ t) (hrep : firstRep s.P = none) (q : QV) (r : List QV) (hq : (s.tick t).Q = q :: r) (hnx : s.next ≠ 4294967296) (hfu : s.full = true) :
    Calls Tryz.prog 18 #[.pointer (some ⟨g, 0, none⟩), .int .i64 t] w (NxO W R w g (s.send t)) := by
  have HRP := Lib.hid hrep
  unfold TS.send
  rw [if_neg ct, hrep]
  dsimp only
  rw [hq]
  dsimp only
  rw [if_neg hnx, if_pos hfu]
  have HQ0 := Lib.hid hq
  have HNX := Lib.hid hnx
  have HFU := Lib.hid hfu
  clear hq hnx hfu
  have HTK := Lib.hid (ttick_ok g s W R w h hf t ht1 ht2)
  rw [if_neg ct, if_neg ct] at HTK
  have HF1 := Lib.hid (hf.tick t)
  clear h hf
  obtain ⟨s1, hs1⟩ : ∃ s1, s1 = s.tick t := ⟨_, rfl⟩
  have HS1 := Lib.hid hs1
  have HC1 : Hid (s1.C = s.C) := Lib.hid (by rw [hs1]; rfl)
  have HP1 : Hid (s1.P = s.P) := Lib.hid (by rw [hs1]; rfl)
  have HN1 : Hid (s1.next = s.next) := Lib.hid (by rw [hs1]; rfl)
  rw [← hs1] at HTK HF1
  clear hs1
  go_enter Tryz.func18, Tryz.ntmps18
  go_upto_region 4 with (go_at_call 48; refine (HTK.out).mono ?_; rintro e w1 ⟨rfl, hO⟩; have HO := Lib.hid hO; clear hO)
  obtain ⟨W1, R1, hI1, hW1, hR1, hK1⟩ := HO.out
  obtain ⟨qA, qc, lq, pA, pc, lp, ub, cb, hT1⟩ := hI1
  have T1 := Lib.hid hT1
  have HW1 := Lib.hid hW1
  have HR1 := Lib.hid hR1
  have HK1 := Lib.hid hK1
  clear hW1 hR1 hK1
  obtain ⟨m, hm⟩ : ∃ m, m = lp.length := ⟨_, rfl⟩
  have HM := Lib.hid hm
  have HRI := Lib.hid (rindex_ok pA m pc lp hm w1 (by rw [hm]; exact hT1.p))
  have cp := hT1.cp
  rw [← hm] at cp
  have hgl := hT1.blk.lt
  have hmc := hT1.p.le
  have hcm := hT1.p.cmax
  unfold maxLen at hcm
  rw [← hm] at hmc
  have m9 : (m : Int) ≤ 9223372036854775807 := by omega
  have HRC := Lib.hid (rep_cases lp)
  rw [hT1.pv, HP1.out, ← hm] at HRC
  clear hT1 hm
  have HF0 : Hid (firstP (isRep lp) 0 m = -1) := by
    rcases HRC.out with ⟨i', e', h1, h2, h3⟩ | ⟨h2, _⟩
    · rw [HRP.out] at h3
      cases h3
    · exact Lib.hid h2
  rw [HF0.out] at HRI
  clear hrep HF0 HRC
  obtain ⟨lqn, hnq⟩ : ∃ lqn, lqn = lq.length := ⟨_, rfl⟩
  have HNQ := Lib.hid hnq
  clear hnq
  go_upto_region 12 with (go_at_call 49; refine (HRI.out).mono ?_; rintro e w2 ⟨rfl, hB⟩; have E2 := Lib.hid hB; clear hB)
  have T2 := Lib.hid (T1.out.below E2.out)
  have cq := T2.out.cq
  rw [← HNQ.out] at cq
  have hO2 := Lib.hid (show TxO W R w w2 g s1 from TxO.comp HW1.out HR1.out HK1.out ⟨W1, R1, ⟨_, _, _, _, _, _, _, _, T2.out⟩, fun _ h => .inl h, fun _ h => .inl h, KeepF.of_below E2.out⟩)
  clear cp
  have hnq1 : 1 ≤ lqn := by
    rw [HNQ.out]
    have := congrArg List.length T2.out.qv
    rw [HS1.out, HQ0.out, List.length_map, List.length_cons] at this
    omega
  have q1 : ¬ ((lqn : Int) = 0) := by omega
  have cn := T2.out.cnext
  have hn0 := T2.out.next0
  obtain ⟨nx, hnx⟩ : ∃ nx, nx = s1.next := ⟨_, rfl⟩
  have HX := Lib.hid hnx
  rw [← hnx] at cn hn0
  have x0 : ¬ nx = 4294967296 := by rw [hnx, HN1.out]; exact HNX.out
  have cp := T2.out.cp
  rw [← HM.out] at cp
  have HPV := Lib.hid T2.out.pv
  have hm1 : 0 < m := by
    rw [HM.out]
    have hfu := HFU.out
    unfold TS.full at hfu
    rw [← HP1.out, ← HPV.out] at hfu
    cases lp with
    | nil => cases hfu
    | cons x l => simp
  obtain ⟨p0, hp0⟩ : ∃ p0, lp[0]? = some p0 := ⟨lp[0]'(by rw [← HM.out]; exact hm1), List.getElem?_eq_getElem _⟩
  have HFL := Lib.hid (show decide (2048 ≤ IntKind.u64.wrap (nx - p0.v.ct)) = true from by
    refine decide_eq_true ?_
    rw [show IntKind.u64.wrap (nx - p0.v.ct) = (nx - p0.v.ct) % 18446744073709551616 from rfl]
    have hfu := HFU.out
    unfold TS.full at hfu
    rw [← HP1.out, ← HPV.out, ← HN1.out, ← HX.out] at hfu
    cases lp with
    | nil => cases hfu
    | cons x l =>
      have : x = p0 := by simpa using hp0
      subst this
      simpa using hfu)
  obtain ⟨b, o, hpA, hbl, d0, d1, d2⟩ := T2.out.pcell hp0
  subst hpA
  rw [Nat.zero_mul, Nat.add_zero] at d0
  obtain ⟨y, hy⟩ : ∃ y, y = p0.v.ct := ⟨_, rfl⟩
  have hyr := T2.out.pr p0.v (by rw [← T2.out.pv]; exact List.mem_map_of_mem (List.mem_of_getElem? hp0))
  rw [← hy] at d0 hyr HFL
  have hfl := HFL.out
  have m0 : (0 : Int) < (m : Int) := by omega
  have dm : decide ((0 : Int) < (m : Int)) = true := decide_eq_true m0
  clear hnx hy hp0 d1 d2
  go_upto_region 16 with (fail)
  go_quiet (fail)
  go_wp2
  go_ret3
  rw [← HS1.out]
  exact nx_err (hO2.out.next (below_drewN (Below.refl _ _) _)) 7

set_option maxRecDepth 100000 in
set_option maxHeartbeats 3200000 in
theorem tnext_new (g : Nat) (s : TS) (W R : Nat → Prop) (w : World) (h : TxI w g s W R) (hf : s.Fine) (t : Int) (ht1 : -9223372036854775808 ≤ t) (ht2 : t ≤ 9223372036854775807) (ct : ¬ 1073741824 ≤ t) (hb : Builds g s.C) (hpl : s.P.length ≤ 1000000) (hrep : firstRep s.P = none) (q : QV) (r : List QV) (hq : (s.tick t).Q = q :: r) (hnx : s.next ≠ 4294967296) (hfu : ¬ s.full = true) :
    Calls Tryz.prog 18 #[.pointer (some ⟨g, 0, none⟩), .int .i64 t] w (NxO W R w g (s.send t)) := by
  have HRP := Lib.hid hrep
  unfold TS.send
  rw [if_neg ct, hrep]
  dsimp only
  rw [hq]
  dsimp only
  rw [if_neg hnx, if_neg hfu]
  have HQ0 := Lib.hid hq
  have HNX := Lib.hid hnx
  have HFU := Lib.hid hfu
  have HBD := Lib.hid hb
  have HPL := Lib.hid hpl
  clear hq hnx hfu hpl
  have HTK := Lib.hid (ttick_ok g s W R w h hf t ht1 ht2)
  rw [if_neg ct, if_neg ct] at HTK
  have HF1 := Lib.hid (hf.tick t)
  clear h hf
  obtain ⟨s1, hs1⟩ : ∃ s1, s1 = s.tick t := ⟨_, rfl⟩
  have HS1 := Lib.hid hs1
  have HC1 : Hid (s1.C = s.C) := Lib.hid (by rw [hs1]; rfl)
  have HP1 : Hid (s1.P = s.P) := Lib.hid (by rw [hs1]; rfl)
  have HN1 : Hid (s1.next = s.next) := Lib.hid (by rw [hs1]; rfl)
  rw [← hs1] at HTK HF1
  clear hs1
  go_enter Tryz.func18, Tryz.ntmps18
  go_upto_region 4 with (go_at_call 48; refine (HTK.out).mono ?_; rintro e w1 ⟨rfl, hO⟩; have HO := Lib.hid hO; clear hO)
  obtain ⟨W1, R1, hI1, hW1, hR1, hK1⟩ := HO.out
  obtain ⟨qA, qc, lq, pA, pc, lp, ub, cb, hT1⟩ := hI1
  have T1 := Lib.hid hT1
  have HW1 := Lib.hid hW1
  have HR1 := Lib.hid hR1
  have HK1 := Lib.hid hK1
  clear hW1 hR1 hK1
  obtain ⟨m, hm⟩ : ∃ m, m = lp.length := ⟨_, rfl⟩
  have HM := Lib.hid hm
  have HRI := Lib.hid (rindex_ok pA m pc lp hm w1 (by rw [hm]; exact hT1.p))
  have cp := hT1.cp
  rw [← hm] at cp
  have hgl := hT1.blk.lt
  have hmc := hT1.p.le
  have hcm := hT1.p.cmax
  unfold maxLen at hcm
  rw [← hm] at hmc
  have m9 : (m : Int) ≤ 9223372036854775807 := by omega
  have HRC := Lib.hid (rep_cases lp)
  rw [hT1.pv, HP1.out, ← hm] at HRC
  clear hT1 hm
  have HF0 : Hid (firstP (isRep lp) 0 m = -1) := by
    rcases HRC.out with ⟨i', e', h1, h2, h3⟩ | ⟨h2, _⟩
    · rw [HRP.out] at h3
      cases h3
    · exact Lib.hid h2
  rw [HF0.out] at HRI
  clear hrep HF0 HRC
  obtain ⟨lqn, hnq⟩ : ∃ lqn, lqn = lq.length := ⟨_, rfl⟩
  have HNQ := Lib.hid hnq
  clear hnq
  go_upto_region 12 with (go_at_call 49; refine (HRI.out).mono ?_; rintro e w2 ⟨rfl, hB⟩; have E2 := Lib.hid hB; clear hB)
  have T2 := Lib.hid (T1.out.below E2.out)
  have cq := T2.out.cq
  rw [← HNQ.out] at cq
  have hO2 := Lib.hid (show TxO W R w w2 g s1 from TxO.comp HW1.out HR1.out HK1.out ⟨W1, R1, ⟨_, _, _, _, _, _, _, _, T2.out⟩, fun _ h => .inl h, fun _ h => .inl h, KeepF.of_below E2.out⟩)
  clear cp
  have hnq1 : 1 ≤ lqn := by
    rw [HNQ.out]
    have := congrArg List.length T2.out.qv
    rw [HS1.out, HQ0.out, List.length_map, List.length_cons] at this
    omega
  have q1 : ¬ ((lqn : Int) = 0) := by omega
  have cn := T2.out.cnext
  have hn0 := T2.out.next0
  obtain ⟨nx, hnx⟩ : ∃ nx, nx = s1.next := ⟨_, rfl⟩
  have HX := Lib.hid hnx
  rw [← hnx] at cn hn0
  have x0 : ¬ nx = 4294967296 := by rw [hnx, HN1.out]; exact HNX.out
  have cp := T2.out.cp
  rw [← HM.out] at cp
  have HPV := Lib.hid T2.out.pv
  clear hnx
  by_cases hm1 : m = 0
  · subst hm1
    go_upto_region 16 with (fail)
    go_quiet (fail)
    go_upto_region 18 with (fail)
    refine wp_let (fun V => TxM V g s1 W1 R1 qA qc lq pA pc lp ub cb ∧ Below w2.heap.size w2 V) ⟨T2.out.below (below_drewN (Below.refl _ _) _), below_drewN (Below.refl _ _) _⟩ ?_
    rintro V ⟨v1, v2⟩
    have TV := Lib.hid v1
    have BV := Lib.hid v2
    clear v1 v2 cn cq cp
    have cn := TV.out.cnext
    have cq := TV.out.cq
    rw [← HNQ.out] at cq
    rw [← HX.out] at cn
    obtain ⟨e0, he0⟩ : ∃ e0, lq[0]? = some e0 := ⟨lq[0]'(by rw [← HNQ.out]; exact hnq1), List.getElem?_eq_getElem _⟩
    obtain ⟨b2, o2, hqA, hb2, k0, k1⟩ := TV.out.qcell he0
    subst hqA
    rw [Nat.zero_mul, Nat.add_zero] at k0
    have HE0 := Lib.hid he0
    have PK := Lib.hid (TV.out.qe e0 (List.mem_of_getElem? he0))
    obtain ⟨PA, hPA⟩ : ∃ PA, PA = e0.A := ⟨_, rfl⟩
    obtain ⟨pn, hpn⟩ : ∃ pn, pn = e0.v.n := ⟨_, rfl⟩
    obtain ⟨pz, hpz⟩ : ∃ pz, pz = e0.v.z := ⟨_, rfl⟩
    obtain ⟨pcc, hpcc⟩ : ∃ pcc, pcc = e0.c := ⟨_, rfl⟩
    have HPA := Lib.hid hPA
    have HPN := Lib.hid hpn
    have HPZ := Lib.hid hpz
    have HPC := Lib.hid hpcc
    rw [← hPA, ← hpn, ← hpz, ← hpcc] at PK
    rw [← hPA, ← hpn, ← hpcc] at k0
    have HEQ : Hid (e0.v = q ∧ (lq.drop 1).map (·.v) = r) := Lib.hid (by
      have hh := T2.out.qv
      rw [HS1.out, HQ0.out] at hh
      cases lq with
      | nil => cases hh
      | cons x l =>
        have : x = e0 := by simpa using HE0.out
        subst this
        injection hh with h1 h2
        exact ⟨h1, h2⟩)
    obtain ⟨N, hN⟩ : ∃ N : Nat, N = nx.toNat := ⟨_, rfl⟩
    have HNN : Hid (nx = (N : Int)) := Lib.hid (by rw [hN]; omega)
    have HNL : Hid (N < 4294967296) := Lib.hid (by rw [hN]; omega)
    have HNT := Lib.hid hN
    have hnn := HNN.out
    have hnl := HNL.out
    subst hnn
    have n32 : (N : Int) % 4294967296 = (N : Int) := by omega
    clear he0 hPA hpn hpz hpcc k1 hN
    go_quiet (fail)
    go_upto_region 19 with (fail)
    refine wp_let (fun V2 => TxM V2 g s1 W1 R1 (some ⟨b2, o2, none⟩) qc lq pA pc lp ub cb ∧ Below w2.heap.size w2 V2) ⟨TV.out.below (below_drewN (Below.refl _ _) _), BV.out.trans (below_drewN (Below.refl _ _) _)⟩ ?_
    rintro V2 ⟨v1, v2⟩
    have TU := Lib.hid v1
    have BU := Lib.hid v2
    clear v1 v2 cn cq k0
    have hUs : V.heap.size ≤ V2.heap.size ∨ True := .inr trivial
    have PU := Lib.hid (TU.out.qe e0 (List.mem_of_getElem? HE0.out))
    rw [← HPA.out, ← HPN.out, ← HPZ.out, ← HPC.out] at PU
    have HBU := Lib.hid (HBD.out s1 W1 R1 V2 HC1.out ⟨_, _, _, _, _, _, _, _, TU.out⟩ N HNL.out PA pn pcc pz PU.out.pos PU.out.max PU.out.row PU.out.byte)
    clear hUs
    go_upto_region 20 with (go_at_call 51; refine (HBU.out).mono ?_; rintro e w3 ⟨A3, c3, rfl, hc3, hF3, hR3, hB3⟩; have HC3 := Lib.hid hc3; have HF3 := Lib.hid hF3; have HR3 := Lib.hid hR3; have HB3 := Lib.hid hB3; clear hc3 hF3 hR3 hB3)
    have T3 := Lib.hid (TU.out.below HB3.out)
    have cq := T3.out.cq
    rw [← HNQ.out] at cq
    have f42 := T3.out.blk.frozen 42
    have hqm := T3.out.q.cmax
    have hqle := T3.out.q.le
    rw [← HNQ.out] at hqle
    unfold maxLen at hqm
    have q2 : (1 : Int) ≤ (lqn : Int) := by omega
    have q3 : (lqn : Int) ≤ (qc : Int) := by omega
    have q4 : (qc : Int) ≤ 9223372036854775807 := by omega
    obtain ⟨QA, hQA⟩ : ∃ QA : Option Addr, QA = if qc = 1 then some ⟨b2, o2, none⟩ else some ⟨b2, o2 + 2, none⟩ := ⟨_, rfl⟩
    have HQAB := Lib.hid (show ∀ a, QA = some a → a.block = b2 from fun a ha => by rw [hQA] at ha; split at ha <;> (cases ha; rfl))
    have hdl : (lq.drop 1).length = lqn - 1 := by rw [List.length_drop, ← HNQ.out]
    have S4 : SL w3 103 2 QA (lq.drop 1).length (qc - 1) ((lq.drop 1).flatMap WE.cells) := by
      have hh := T3.out.q.drop 1 (by rw [← HNQ.out]; exact hnq1)
      rw [drop_flatW, Nat.one_mul, ← hQA, ← HNQ.out, ← hdl] at hh
      exact hh
    obtain ⟨W4, hW4⟩ : ∃ W4 : Nat → Prop, W4 = fun k => W1 k ∨ ∃ a, QA = some a ∧ k = a.block := ⟨_, rfl⟩
    have HW4 := Lib.hid (show ∀ k, W4 k → W1 k from fun k hk => by
      rw [hW4] at hk
      rcases hk with hk | ⟨a, ha, e⟩
      · exact hk
      · rw [e, HQAB.out a ha]; exact T3.out.wq _ rfl)
    have T4 := T3.out.setQ (lq' := lq.drop 1) (qA' := QA) (qc' := qc - 1) (w1 := w3) KeepF.refl (fun a ha => .inl ⟨_, rfl, HQAB.out a ha⟩) S4 (fun e he => T3.out.qe e (List.mem_of_mem_drop he))
    rw [hdl, HEQ.out.2, ← hW4] at T4
    have kg : KeepF W1 w3 (w3.setCell ⟨g, 42, none⟩ (.slice QA (lqn - 1) (qc - 1))) := KeepF.refl.setCell (p := ⟨g, 42, none⟩) T3.out.wg _
    have PK3 := Lib.hid (T3.out.qe e0 (List.mem_of_getElem? HE0.out))
    rw [← HPA.out, ← HPN.out, ← HPZ.out, ← HPC.out] at PK3
    go_upto_region 23 with (fail)
    rw [← hQA]
    refine wp_let (fun X => TxM X g { s1 with Q := r } W4 R1 QA (qc - 1) (lq.drop 1) pA pc lp ub cb ∧ KeepF W1 w3 X) ⟨T4, kg⟩ ?_
    rintro X4 ⟨x1, x2⟩
    have TX4 := Lib.hid x1
    have KX4 := Lib.hid x2
    clear x1 x2 T4 kg S4 hQA hW4 hdl cq f42 hqm q3 q4
    have c41 := TX4.out.cnext
    rw [show ({ s1 with Q := r } : TS).next = s1.next from rfl, ← HX.out] at c41
    have f41 := TX4.out.blk.frozen 41
    have T5 := TX4.out.setNext ((N : Int) + 1) (by omega)
    have kg : KeepF W1 w3 (X4.setCell ⟨g, 41, none⟩ (.int .u64 ((N : Int) + 1))) := KX4.out.setCell (p := ⟨g, 41, none⟩) T3.out.wg _
    go_upto_region 24 with (fail)
    refine wp_let (fun X => TxM X g { s1 with Q := r, next := (N : Int) + 1 } W4 R1 QA (qc - 1) (lq.drop 1) pA pc lp ub cb ∧ KeepF W1 w3 X) ⟨T5, kg⟩ ?_
    rintro X5 ⟨x1, x2⟩
    have TX5 := Lib.hid x1
    have KX5 := Lib.hid x2
    clear x1 x2 T5 kg c41 f41
    have hs0 : w.heap.size ≤ w1.heap.size := HK1.out.size
    have hs1 : w1.heap.size ≤ w2.heap.size := E2.out.size
    have hs2 : w2.heap.size ≤ V2.heap.size := BU.out.size
    have hs3 : V2.heap.size ≤ w3.heap.size := HB3.out.size
    have HFA := Lib.hid (show ∀ a, A3 = some a → V2.heap.size ≤ a.block ∧ a.block < w3.heap.size from fun a e => ⟨HF3.out a e, row_lt HR3.out (by unfold pduN; omega) e⟩)
    have HKB := Lib.hid (show KeepF W w w3 from (HK1.out.trans (KeepF.of_below (F := W1) (E2.out.trans ((BU.out.trans (HB3.out.mono hs2)).mono hs1))) (fun k hk h => by
        rcases HW1.out k h with h | h
        · exact h
        · omega)))
    have HWW := Lib.hid (show ∀ k, k < w.heap.size → W1 k → W k from fun k hk h => by
      rcases HW1.out k h with h | h
      · exact h
      · omega)
    have hN : pduN s.C q.n = pduN s.C pn := by rw [HPN.out, HEQ.out.1]
    have hZ : pduZ s.C s.next.toNat q.n (nf q.z) = pduZ s.C N pn (nf pz) := by rw [HPN.out, HPZ.out, HEQ.out.1, ← HN1.out, ← HX.out, Int.toNat_natCast]
    have hNX : s.next = (N : Int) := by rw [← HN1.out, HX.out]
    have HNN2 := Lib.hid hN
    have HZZ := Lib.hid hZ
    have HNXX := Lib.hid hNX
    clear hN hZ hNX
    have c36 : X5.cell? ⟨g, 36, none⟩ = some (.bool s.C.ac) := (TX5.out.cC (j := 36) (by decide)).trans (by rw [show ({ s1 with Q := r, next := (N : Int) + 1 } : TS).C = s1.C from rfl, HC1.out]; rfl)
    by_cases hac : s.C.ac = true
    · rw [hac] at c36
      have HAC := Lib.hid hac
      clear hac
      have cp5 := TX5.out.cp
      rw [← HM.out] at cp5
      obtain ⟨ip, hip, hipz, hips, hipb⟩ := infoPend
      obtain ⟨X6, hX6⟩ : ∃ X6, X6 = X5.alloc (.cells #[.int .u32 (N : Int), .slice PA pn pcc, .bool false] 101) := ⟨_, rfl⟩
      have hb6 : Below X5.heap.size X5 X6 := by rw [hX6]; exact (Below.refl _ _).alloc (Nat.le_refl _) _
      have HX6 := Lib.hid hX6
      have TX6 := Lib.hid (TX5.out.below hb6)
      have hNB : Blk X6 X5.heap.size 101 #[.int .u32 (N : Int), .slice PA pn pcc, .bool false] := by rw [hX6]; exact Blk.new _ _ _
      have HSRC : Hid (Src Tryz.prog 3 82 (.slice (some ⟨X5.heap.size, 0, none⟩) 1 1) 1 [.int .u32 (N : Int), .slice PA pn pcc, .bool false] X6) := Lib.hid (Src.ofSlice _ Tryz.underlying82 ⟨X5.heap.size, 0, none⟩ 1 1 _ rfl (fun j u hu => by
        have hj : j < 3 := (List.getElem?_eq_some_iff.1 hu).1
        rw [Addr.add_lit, Nat.zero_add, hNB.cell j]
        simpa using hu) (by simp [Value.oneCell']))
      have HSL6 : Hid (SL X6 101 3 pA 0 pc (lp.flatMap PE.cells)) := Lib.hid (by rw [HM.out]; exact TX6.out.p)
      have HM6 : Hid (0 ≤ 1000000) := Lib.hid (by rw [HM.out]; have hh := congrArg List.length T1.out.pv; rw [List.length_map, HP1.out] at hh; rw [hh]; exact HPL.out)
      clear hNB hX6
      go_wp2_with (rw [← HX6.out]; refine wpList_sl_append rfl _ _ _ _ rfl X6 101 ip (.agg #[.int .u32 0, .slice none 0 0, .bool false]) 3 40 Tryz.underlying82 hip hipz hips hipb rfl pA 0 pc (lp.flatMap PE.cells) rfl HSL6.out _ rfl 1 [.int .u32 (N : Int), .slice PA pn pcc, .bool false] HSRC.out (by decide) (by have := HM6.out; unfold maxLen; omega) (by have := HM6.out; omega) ?_; intro A9 c9 wA hSL9 hK9 hA9; have HSL9 := Lib.hid hSL9; have HK9 := Lib.hid hK9; have HA9 := Lib.hid hA9; have hg9 := (hK9.blk TX6.out.blk (fun ⟨a, ha, e⟩ => TX6.out.gp a ha e)).cell 43; have hf9 := (hK9.blk TX6.out.blk (fun ⟨a, ha, e⟩ => TX6.out.gp a ha e)).frozen 43; rw [tArr_high s1.C.arr_size 4] at hg9; simp at hg9; clear hSL9 hK9 hA9)
      go_ret3
      obtain ⟨pe, hpe⟩ : ∃ pe : PE, pe = ⟨⟨(N : Int), pn, pz, false⟩, PA, pcc⟩ := ⟨_, rfl⟩
      have hlen9 : (lp ++ [pe]).length = 1 := by rw [List.length_append, ← HM.out]; rfl
      have hW1X : ∀ k, W1 k → k < w3.heap.size := T3.out.win
      have hX5 : w3.heap.size ≤ X5.heap.size := KX5.out.size
      have hX6s : X5.heap.size ≤ X6.heap.size := hb6.size
      have hS9 : SL wA 101 3 A9 (lp ++ [pe]).length c9 ((lp ++ [pe]).flatMap PE.cells) := by
        rw [hlen9, List.flatMap_append, hpe]
        exact HSL9.out
      have hpk : ∀ e, e ∈ lp ++ [pe] → Pkt wA R1 e.A e.v.n e.c e.v.z := fun e he => by
        have hx : Pkt X6 R1 e.A e.v.n e.c e.v.z := by
          rcases List.mem_append.1 he with he | he
          · exact TX6.out.pe e he
          · have : e = pe := by simpa using he
            rw [this, hpe]
            exact (PK3.out.keep KX5.out (fun k hw hr => T3.out.dis k hw hr)).keep (KeepF.of_below (F := fun _ => False) hb6) (fun k hf => hf.elim)
        exact hx.keep HK9.out (fun j ⟨a, ha, e2⟩ hr => TX6.out.dis j (by rw [e2]; exact TX6.out.wp a ha) hr)
      have TF := TX6.out.setP (lp' := lp ++ [pe]) HK9.out HA9.out hS9 hpk (fun e he => by
        rcases List.mem_append.1 he with he | he
        · exact TX6.out.pr e.v (by rw [← TX6.out.pv]; exact List.mem_map_of_mem he)
        · have : e = pe := by simpa using he
          rw [this, hpe]
          exact ⟨Int.natCast_nonneg _, by show (N : Int) < 4294967296; omega⟩)
      rw [hlen9] at TF
      have hK : KeepF W1 w3 (wA.setCell ⟨g, 43, none⟩ (.slice A9 (1) c9)) := ((KX5.out.more hb6).trans (HK9.out.mono (G := fun k => W1 k ∨ X6.heap.size ≤ k) (fun k ⟨a, ha, e⟩ => .inl (by rw [e]; exact T3.out.wp a ha))) (fun k hk h => by
        rcases h with h | h
        · exact h
        · omega)).setCell (p := ⟨g, 43, none⟩) T3.out.wg _
      have hW9 : ∀ k, (W4 k ∨ ∃ a, A9 = some a ∧ k = a.block) → W1 k ∨ X6.heap.size ≤ k := fun k hk => by
        rcases hk with hk | ⟨a, ha, e⟩
        · exact .inl (HW4.out k hk)
        · rcases HA9.out a ha with ⟨a', ha', e'⟩ | hge
          · exact .inl (by rw [e, e']; exact T3.out.wp a' ha')
          · exact .inr (by omega)
      refine ⟨A3, c3, (fun k => W4 k ∨ ∃ a, A9 = some a ∧ k = a.block), R1, ?_, ?_, ?_, ?_, fun k hk => ?_, HR1.out, ?_, ?_⟩
      · show _ = Ending.returned (.tuple #[.slice A3 (pduN s.C q.n) c3, .int .u32 s.next, .int .i64 0])
        rw [HNN2.out, HNXX.out]
        rfl
      · show pduN s.C q.n ≤ c3
        rw [HNN2.out]
        exact HC3.out
      · show Row _ _ A3 (pduN s.C q.n) (fun j => .int .u8 ((pduZ s.C s.next.toNat q.n (nf q.z) j : Nat) : Int))
        rw [HNN2.out, HZZ.out]
        exact (hK.row HR3.out (Nat.le_refl _) (fun a e _ h => by have := (HFA.out a e).1; have := TU.out.win _ h; omega)).more hK.size
      · first
          | (show TxI _ g ({ s.tick t with Q := r, next := s.next + 1, P := if s.C.ac = true then s.P ++ [⟨s.next, q.n, q.z, false⟩] else s.P } : TS) _ R1; rw [if_pos HAC.out])
          | show TxI _ g ({ s.tick t with Q := r, next := s.next + 1, P := s.P ++ [⟨s.next, q.n, q.z, false⟩] } : TS) _ R1
        rw [← HS1.out, HNXX.out, ← HP1.out, show (⟨(N : Int), q.n, q.z, false⟩ : PV) = pe.v from by rw [hpe, HPN.out, HPZ.out, HEQ.out.1], ← T1.out.pv]
        rw [List.map_append] at TF
        exact ⟨_, _, _, _, _, _, _, _, TF⟩
      · rcases hW9 k hk with h | h
        · exact HW1.out k h
        · exact .inr (by omega)
      · exact HKB.out.trans hK HWW.out
      · intro a e
        have h1 := (HFA.out a e).1
        have h2 := (HFA.out a e).2
        refine ⟨by omega, fun h => ?_, fun h => by have := TU.out.rin _ h; omega⟩
        rcases hW9 _ h with h | h
        · have := TU.out.win _ h; omega
        · omega
    · have hac2 : s.C.ac = false := by simpa using hac
      rw [hac2] at c36
      have HAC := Lib.hid hac
      clear hac hac2
      go_wp2
      go_ret3
      refine ⟨A3, c3, W4, R1, ?_, ?_, ?_, ?_, fun k hk => HW1.out k (HW4.out k hk), HR1.out, ?_, ?_⟩
      · show _ = Ending.returned (.tuple #[.slice A3 (pduN s.C q.n) c3, .int .u32 s.next, .int .i64 0])
        rw [HNN2.out, HNXX.out]
        rfl
      · show pduN s.C q.n ≤ c3
        rw [HNN2.out]
        exact HC3.out
      · show Row _ _ A3 (pduN s.C q.n) (fun j => .int .u8 ((pduZ s.C s.next.toNat q.n (nf q.z) j : Nat) : Int))
        rw [HNN2.out, HZZ.out]
        exact (KX5.out.row HR3.out (Nat.le_refl _) (fun a e _ h => by have := (HFA.out a e).1; have := TU.out.win _ h; omega)).more KX5.out.size
      · first
          | (show TxI _ g ({ s.tick t with Q := r, next := s.next + 1, P := if s.C.ac = true then s.P ++ [⟨s.next, q.n, q.z, false⟩] else s.P } : TS) W4 R1; rw [if_neg HAC.out])
          | show TxI _ g ({ s.tick t with Q := r, next := s.next + 1, P := s.P } : TS) W4 R1
        rw [← HS1.out, HNXX.out, ← HP1.out]
        exact ⟨_, _, _, _, _, _, _, _, TX5.out⟩
      · exact HKB.out.trans KX5.out HWW.out
      · intro a e
        have := (HFA.out a e).1
        exact ⟨by omega, fun h => by have := TU.out.win _ (HW4.out _ h); omega, fun h => by have := TU.out.rin _ h; omega⟩
  · have hm1 : 0 < m := by omega
    obtain ⟨p0, hp0⟩ : ∃ p0, lp[0]? = some p0 := ⟨lp[0]'(by rw [← HM.out]; exact hm1), List.getElem?_eq_getElem _⟩
    have hfl0 : ¬ 2048 ≤ (nx - p0.v.ct) % 18446744073709551616 := fun hc => by
      have hfu := HFU.out
      unfold TS.full at hfu
      rw [← HP1.out, ← HPV.out, ← HN1.out, ← HX.out] at hfu
      cases lp with
      | nil => cases hp0
      | cons x l =>
        have : x = p0 := by simpa using hp0
        subst this
        exact hfu (by simpa using hc)
    have hfl : decide (2048 ≤ IntKind.u64.wrap (nx - p0.v.ct)) = false := decide_eq_false (by
      rw [show IntKind.u64.wrap (nx - p0.v.ct) = (nx - p0.v.ct) % 18446744073709551616 from rfl]
      exact hfl0)
    obtain ⟨b, o, hpA, hbl, d0, d1, d2⟩ := T2.out.pcell hp0
    subst hpA
    rw [Nat.zero_mul, Nat.add_zero] at d0
    obtain ⟨y, hy⟩ : ∃ y, y = p0.v.ct := ⟨_, rfl⟩
    have hyr := T2.out.pr p0.v (by rw [← T2.out.pv]; exact List.mem_map_of_mem (List.mem_of_getElem? hp0))
    rw [← hy] at d0 hyr hfl
    have m0 : (0 : Int) < (m : Int) := by omega
    have dm : decide ((0 : Int) < (m : Int)) = true := decide_eq_true m0
    clear hy hp0 d1 d2 hfl0
    go_upto_region 16 with (fail)
    go_quiet (fail)
    go_upto_region 18 with (fail)
    refine wp_let (fun V => TxM V g s1 W1 R1 qA qc lq (some ⟨b, o, none⟩) pc lp ub cb ∧ Below w2.heap.size w2 V) ⟨T2.out.below (below_drewN (Below.refl _ _) _), below_drewN (Below.refl _ _) _⟩ ?_
    rintro V ⟨v1, v2⟩
    have TV := Lib.hid v1
    have BV := Lib.hid v2
    clear v1 v2 cn cq cp d0
    have cn := TV.out.cnext
    have cq := TV.out.cq
    rw [← HNQ.out] at cq
    rw [← HX.out] at cn
    obtain ⟨e0, he0⟩ : ∃ e0, lq[0]? = some e0 := ⟨lq[0]'(by rw [← HNQ.out]; exact hnq1), List.getElem?_eq_getElem _⟩
    obtain ⟨b2, o2, hqA, hb2, k0, k1⟩ := TV.out.qcell he0
    subst hqA
    rw [Nat.zero_mul, Nat.add_zero] at k0
    have HE0 := Lib.hid he0
    have PK := Lib.hid (TV.out.qe e0 (List.mem_of_getElem? he0))
    obtain ⟨PA, hPA⟩ : ∃ PA, PA = e0.A := ⟨_, rfl⟩
    obtain ⟨pn, hpn⟩ : ∃ pn, pn = e0.v.n := ⟨_, rfl⟩
    obtain ⟨pz, hpz⟩ : ∃ pz, pz = e0.v.z := ⟨_, rfl⟩
    obtain ⟨pcc, hpcc⟩ : ∃ pcc, pcc = e0.c := ⟨_, rfl⟩
    have HPA := Lib.hid hPA
    have HPN := Lib.hid hpn
    have HPZ := Lib.hid hpz
    have HPC := Lib.hid hpcc
    rw [← hPA, ← hpn, ← hpz, ← hpcc] at PK
    rw [← hPA, ← hpn, ← hpcc] at k0
    have HEQ : Hid (e0.v = q ∧ (lq.drop 1).map (·.v) = r) := Lib.hid (by
      have hh := T2.out.qv
      rw [HS1.out, HQ0.out] at hh
      cases lq with
      | nil => cases hh
      | cons x l =>
        have : x = e0 := by simpa using HE0.out
        subst this
        injection hh with h1 h2
        exact ⟨h1, h2⟩)
    obtain ⟨N, hN⟩ : ∃ N : Nat, N = nx.toNat := ⟨_, rfl⟩
    have HNN : Hid (nx = (N : Int)) := Lib.hid (by rw [hN]; omega)
    have HNL : Hid (N < 4294967296) := Lib.hid (by rw [hN]; omega)
    have HNT := Lib.hid hN
    have hnn := HNN.out
    have hnl := HNL.out
    subst hnn
    have n32 : (N : Int) % 4294967296 = (N : Int) := by omega
    clear he0 hPA hpn hpz hpcc k1 hN
    go_quiet (fail)
    go_upto_region 19 with (fail)
    refine wp_let (fun V2 => TxM V2 g s1 W1 R1 (some ⟨b2, o2, none⟩) qc lq (some ⟨b, o, none⟩) pc lp ub cb ∧ Below w2.heap.size w2 V2) ⟨TV.out.below (below_drewN (Below.refl _ _) _), BV.out.trans (below_drewN (Below.refl _ _) _)⟩ ?_
    rintro V2 ⟨v1, v2⟩
    have TU := Lib.hid v1
    have BU := Lib.hid v2
    clear v1 v2 cn cq k0
    have hUs : V.heap.size ≤ V2.heap.size ∨ True := .inr trivial
    have PU := Lib.hid (TU.out.qe e0 (List.mem_of_getElem? HE0.out))
    rw [← HPA.out, ← HPN.out, ← HPZ.out, ← HPC.out] at PU
    have HBU := Lib.hid (HBD.out s1 W1 R1 V2 HC1.out ⟨_, _, _, _, _, _, _, _, TU.out⟩ N HNL.out PA pn pcc pz PU.out.pos PU.out.max PU.out.row PU.out.byte)
    clear hUs
    go_upto_region 20 with (go_at_call 51; refine (HBU.out).mono ?_; rintro e w3 ⟨A3, c3, rfl, hc3, hF3, hR3, hB3⟩; have HC3 := Lib.hid hc3; have HF3 := Lib.hid hF3; have HR3 := Lib.hid hR3; have HB3 := Lib.hid hB3; clear hc3 hF3 hR3 hB3)
    have T3 := Lib.hid (TU.out.below HB3.out)
    have cq := T3.out.cq
    rw [← HNQ.out] at cq
    have f42 := T3.out.blk.frozen 42
    have hqm := T3.out.q.cmax
    have hqle := T3.out.q.le
    rw [← HNQ.out] at hqle
    unfold maxLen at hqm
    have q2 : (1 : Int) ≤ (lqn : Int) := by omega
    have q3 : (lqn : Int) ≤ (qc : Int) := by omega
    have q4 : (qc : Int) ≤ 9223372036854775807 := by omega
    obtain ⟨QA, hQA⟩ : ∃ QA : Option Addr, QA = if qc = 1 then some ⟨b2, o2, none⟩ else some ⟨b2, o2 + 2, none⟩ := ⟨_, rfl⟩
    have HQAB := Lib.hid (show ∀ a, QA = some a → a.block = b2 from fun a ha => by rw [hQA] at ha; split at ha <;> (cases ha; rfl))
    have hdl : (lq.drop 1).length = lqn - 1 := by rw [List.length_drop, ← HNQ.out]
    have S4 : SL w3 103 2 QA (lq.drop 1).length (qc - 1) ((lq.drop 1).flatMap WE.cells) := by
      have hh := T3.out.q.drop 1 (by rw [← HNQ.out]; exact hnq1)
      rw [drop_flatW, Nat.one_mul, ← hQA, ← HNQ.out, ← hdl] at hh
      exact hh
    obtain ⟨W4, hW4⟩ : ∃ W4 : Nat → Prop, W4 = fun k => W1 k ∨ ∃ a, QA = some a ∧ k = a.block := ⟨_, rfl⟩
    have HW4 := Lib.hid (show ∀ k, W4 k → W1 k from fun k hk => by
      rw [hW4] at hk
      rcases hk with hk | ⟨a, ha, e⟩
      · exact hk
      · rw [e, HQAB.out a ha]; exact T3.out.wq _ rfl)
    have T4 := T3.out.setQ (lq' := lq.drop 1) (qA' := QA) (qc' := qc - 1) (w1 := w3) KeepF.refl (fun a ha => .inl ⟨_, rfl, HQAB.out a ha⟩) S4 (fun e he => T3.out.qe e (List.mem_of_mem_drop he))
    rw [hdl, HEQ.out.2, ← hW4] at T4
    have kg : KeepF W1 w3 (w3.setCell ⟨g, 42, none⟩ (.slice QA (lqn - 1) (qc - 1))) := KeepF.refl.setCell (p := ⟨g, 42, none⟩) T3.out.wg _
    have PK3 := Lib.hid (T3.out.qe e0 (List.mem_of_getElem? HE0.out))
    rw [← HPA.out, ← HPN.out, ← HPZ.out, ← HPC.out] at PK3
    go_upto_region 23 with (fail)
    rw [← hQA]
    refine wp_let (fun X => TxM X g { s1 with Q := r } W4 R1 QA (qc - 1) (lq.drop 1) (some ⟨b, o, none⟩) pc lp ub cb ∧ KeepF W1 w3 X) ⟨T4, kg⟩ ?_
    rintro X4 ⟨x1, x2⟩
    have TX4 := Lib.hid x1
    have KX4 := Lib.hid x2
    clear x1 x2 T4 kg S4 hQA hW4 hdl cq f42 hqm q3 q4
    have c41 := TX4.out.cnext
    rw [show ({ s1 with Q := r } : TS).next = s1.next from rfl, ← HX.out] at c41
    have f41 := TX4.out.blk.frozen 41
    have T5 := TX4.out.setNext ((N : Int) + 1) (by omega)
    have kg : KeepF W1 w3 (X4.setCell ⟨g, 41, none⟩ (.int .u64 ((N : Int) + 1))) := KX4.out.setCell (p := ⟨g, 41, none⟩) T3.out.wg _
    go_upto_region 24 with (fail)
    refine wp_let (fun X => TxM X g { s1 with Q := r, next := (N : Int) + 1 } W4 R1 QA (qc - 1) (lq.drop 1) (some ⟨b, o, none⟩) pc lp ub cb ∧ KeepF W1 w3 X) ⟨T5, kg⟩ ?_
    rintro X5 ⟨x1, x2⟩
    have TX5 := Lib.hid x1
    have KX5 := Lib.hid x2
    clear x1 x2 T5 kg c41 f41
    have hs0 : w.heap.size ≤ w1.heap.size := HK1.out.size
    have hs1 : w1.heap.size ≤ w2.heap.size := E2.out.size
    have hs2 : w2.heap.size ≤ V2.heap.size := BU.out.size
    have hs3 : V2.heap.size ≤ w3.heap.size := HB3.out.size
    have HFA := Lib.hid (show ∀ a, A3 = some a → V2.heap.size ≤ a.block ∧ a.block < w3.heap.size from fun a e => ⟨HF3.out a e, row_lt HR3.out (by unfold pduN; omega) e⟩)
    have HKB := Lib.hid (show KeepF W w w3 from (HK1.out.trans (KeepF.of_below (F := W1) (E2.out.trans ((BU.out.trans (HB3.out.mono hs2)).mono hs1))) (fun k hk h => by
        rcases HW1.out k h with h | h
        · exact h
        · omega)))
    have HWW := Lib.hid (show ∀ k, k < w.heap.size → W1 k → W k from fun k hk h => by
      rcases HW1.out k h with h | h
      · exact h
      · omega)
    have hN : pduN s.C q.n = pduN s.C pn := by rw [HPN.out, HEQ.out.1]
    have hZ : pduZ s.C s.next.toNat q.n (nf q.z) = pduZ s.C N pn (nf pz) := by rw [HPN.out, HPZ.out, HEQ.out.1, ← HN1.out, ← HX.out, Int.toNat_natCast]
    have hNX : s.next = (N : Int) := by rw [← HN1.out, HX.out]
    have HNN2 := Lib.hid hN
    have HZZ := Lib.hid hZ
    have HNXX := Lib.hid hNX
    clear hN hZ hNX
    have c36 : X5.cell? ⟨g, 36, none⟩ = some (.bool s.C.ac) := (TX5.out.cC (j := 36) (by decide)).trans (by rw [show ({ s1 with Q := r, next := (N : Int) + 1 } : TS).C = s1.C from rfl, HC1.out]; rfl)
    by_cases hac : s.C.ac = true
    · rw [hac] at c36
      have HAC := Lib.hid hac
      clear hac
      have cp5 := TX5.out.cp
      rw [← HM.out] at cp5
      obtain ⟨ip, hip, hipz, hips, hipb⟩ := infoPend
      obtain ⟨X6, hX6⟩ : ∃ X6, X6 = X5.alloc (.cells #[.int .u32 (N : Int), .slice PA pn pcc, .bool false] 101) := ⟨_, rfl⟩
      have hb6 : Below X5.heap.size X5 X6 := by rw [hX6]; exact (Below.refl _ _).alloc (Nat.le_refl _) _
      have HX6 := Lib.hid hX6
      have TX6 := Lib.hid (TX5.out.below hb6)
      have hNB : Blk X6 X5.heap.size 101 #[.int .u32 (N : Int), .slice PA pn pcc, .bool false] := by rw [hX6]; exact Blk.new _ _ _
      have HSRC : Hid (Src Tryz.prog 3 82 (.slice (some ⟨X5.heap.size, 0, none⟩) 1 1) 1 [.int .u32 (N : Int), .slice PA pn pcc, .bool false] X6) := Lib.hid (Src.ofSlice _ Tryz.underlying82 ⟨X5.heap.size, 0, none⟩ 1 1 _ rfl (fun j u hu => by
        have hj : j < 3 := (List.getElem?_eq_some_iff.1 hu).1
        rw [Addr.add_lit, Nat.zero_add, hNB.cell j]
        simpa using hu) (by simp [Value.oneCell']))
      have HSL6 : Hid (SL X6 101 3 (some ⟨b, o, none⟩) m pc (lp.flatMap PE.cells)) := Lib.hid (by rw [HM.out]; exact TX6.out.p)
      have HM6 : Hid (m ≤ 1000000) := Lib.hid (by rw [HM.out]; have hh := congrArg List.length T1.out.pv; rw [List.length_map, HP1.out] at hh; rw [hh]; exact HPL.out)
      clear hNB hX6
      go_wp2_with (rw [← HX6.out]; refine wpList_sl_append rfl _ _ _ _ rfl X6 101 ip (.agg #[.int .u32 0, .slice none 0 0, .bool false]) 3 40 Tryz.underlying82 hip hipz hips hipb rfl (some ⟨b, o, none⟩) m pc (lp.flatMap PE.cells) rfl HSL6.out _ rfl 1 [.int .u32 (N : Int), .slice PA pn pcc, .bool false] HSRC.out (by decide) (by have := HM6.out; unfold maxLen; omega) (by have := HM6.out; omega) ?_; intro A9 c9 wA hSL9 hK9 hA9; have HSL9 := Lib.hid hSL9; have HK9 := Lib.hid hK9; have HA9 := Lib.hid hA9; have hg9 := (hK9.blk TX6.out.blk (fun ⟨a, ha, e⟩ => TX6.out.gp a ha e)).cell 43; have hf9 := (hK9.blk TX6.out.blk (fun ⟨a, ha, e⟩ => TX6.out.gp a ha e)).frozen 43; rw [tArr_high s1.C.arr_size 4] at hg9; simp at hg9; clear hSL9 hK9 hA9)
      go_ret3
      obtain ⟨pe, hpe⟩ : ∃ pe : PE, pe = ⟨⟨(N : Int), pn, pz, false⟩, PA, pcc⟩ := ⟨_, rfl⟩
      have hlen9 : (lp ++ [pe]).length = m + 1 := by rw [List.length_append, ← HM.out]; rfl
      have hW1X : ∀ k, W1 k → k < w3.heap.size := T3.out.win
      have hX5 : w3.heap.size ≤ X5.heap.size := KX5.out.size
      have hX6s : X5.heap.size ≤ X6.heap.size := hb6.size
      have hS9 : SL wA 101 3 A9 (lp ++ [pe]).length c9 ((lp ++ [pe]).flatMap PE.cells) := by
        rw [hlen9, List.flatMap_append, hpe]
        exact HSL9.out
      have hpk : ∀ e, e ∈ lp ++ [pe] → Pkt wA R1 e.A e.v.n e.c e.v.z := fun e he => by
        have hx : Pkt X6 R1 e.A e.v.n e.c e.v.z := by
          rcases List.mem_append.1 he with he | he
          · exact TX6.out.pe e he
          · have : e = pe := by simpa using he
            rw [this, hpe]
            exact (PK3.out.keep KX5.out (fun k hw hr => T3.out.dis k hw hr)).keep (KeepF.of_below (F := fun _ => False) hb6) (fun k hf => hf.elim)
        exact hx.keep HK9.out (fun j ⟨a, ha, e2⟩ hr => TX6.out.dis j (by rw [e2]; exact TX6.out.wp a ha) hr)
      have TF := TX6.out.setP (lp' := lp ++ [pe]) HK9.out HA9.out hS9 hpk (fun e he => by
        rcases List.mem_append.1 he with he | he
        · exact TX6.out.pr e.v (by rw [← TX6.out.pv]; exact List.mem_map_of_mem he)
        · have : e = pe := by simpa using he
          rw [this, hpe]
          exact ⟨Int.natCast_nonneg _, by show (N : Int) < 4294967296; omega⟩)
      rw [hlen9] at TF
      have hK : KeepF W1 w3 (wA.setCell ⟨g, 43, none⟩ (.slice A9 (m + 1) c9)) := ((KX5.out.more hb6).trans (HK9.out.mono (G := fun k => W1 k ∨ X6.heap.size ≤ k) (fun k ⟨a, ha, e⟩ => .inl (by rw [e]; exact T3.out.wp a ha))) (fun k hk h => by
        rcases h with h | h
        · exact h
        · omega)).setCell (p := ⟨g, 43, none⟩) T3.out.wg _
      have hW9 : ∀ k, (W4 k ∨ ∃ a, A9 = some a ∧ k = a.block) → W1 k ∨ X6.heap.size ≤ k := fun k hk => by
        rcases hk with hk | ⟨a, ha, e⟩
        · exact .inl (HW4.out k hk)
        · rcases HA9.out a ha with ⟨a', ha', e'⟩ | hge
          · exact .inl (by rw [e, e']; exact T3.out.wp a' ha')
          · exact .inr (by omega)
      refine ⟨A3, c3, (fun k => W4 k ∨ ∃ a, A9 = some a ∧ k = a.block), R1, ?_, ?_, ?_, ?_, fun k hk => ?_, HR1.out, ?_, ?_⟩
      · show _ = Ending.returned (.tuple #[.slice A3 (pduN s.C q.n) c3, .int .u32 s.next, .int .i64 0])
        rw [HNN2.out, HNXX.out]
        rfl
      · show pduN s.C q.n ≤ c3
        rw [HNN2.out]
        exact HC3.out
      · show Row _ _ A3 (pduN s.C q.n) (fun j => .int .u8 ((pduZ s.C s.next.toNat q.n (nf q.z) j : Nat) : Int))
        rw [HNN2.out, HZZ.out]
        exact (hK.row HR3.out (Nat.le_refl _) (fun a e _ h => by have := (HFA.out a e).1; have := TU.out.win _ h; omega)).more hK.size
      · first
          | (show TxI _ g ({ s.tick t with Q := r, next := s.next + 1, P := if s.C.ac = true then s.P ++ [⟨s.next, q.n, q.z, false⟩] else s.P } : TS) _ R1; rw [if_pos HAC.out])
          | show TxI _ g ({ s.tick t with Q := r, next := s.next + 1, P := s.P ++ [⟨s.next, q.n, q.z, false⟩] } : TS) _ R1
        rw [← HS1.out, HNXX.out, ← HP1.out, show (⟨(N : Int), q.n, q.z, false⟩ : PV) = pe.v from by rw [hpe, HPN.out, HPZ.out, HEQ.out.1], ← T1.out.pv]
        rw [List.map_append] at TF
        exact ⟨_, _, _, _, _, _, _, _, TF⟩
      · rcases hW9 k hk with h | h
        · exact HW1.out k h
        · exact .inr (by omega)
      · exact HKB.out.trans hK HWW.out
      · intro a e
        have h1 := (HFA.out a e).1
        have h2 := (HFA.out a e).2
        refine ⟨by omega, fun h => ?_, fun h => by have := TU.out.rin _ h; omega⟩
        rcases hW9 _ h with h | h
        · have := TU.out.win _ h; omega
        · omega
    · have hac2 : s.C.ac = false := by simpa using hac
      rw [hac2] at c36
      have HAC := Lib.hid hac
      clear hac hac2
      go_wp2
      go_ret3
      refine ⟨A3, c3, W4, R1, ?_, ?_, ?_, ?_, fun k hk => HW1.out k (HW4.out k hk), HR1.out, ?_, ?_⟩
      · show _ = Ending.returned (.tuple #[.slice A3 (pduN s.C q.n) c3, .int .u32 s.next, .int .i64 0])
        rw [HNN2.out, HNXX.out]
        rfl
      · show pduN s.C q.n ≤ c3
        rw [HNN2.out]
        exact HC3.out
      · show Row _ _ A3 (pduN s.C q.n) (fun j => .int .u8 ((pduZ s.C s.next.toNat q.n (nf q.z) j : Nat) : Int))
        rw [HNN2.out, HZZ.out]
        exact (KX5.out.row HR3.out (Nat.le_refl _) (fun a e _ h => by have := (HFA.out a e).1; have := TU.out.win _ h; omega)).more KX5.out.size
      · first
          | (show TxI _ g ({ s.tick t with Q := r, next := s.next + 1, P := if s.C.ac = true then s.P ++ [⟨s.next, q.n, q.z, false⟩] else s.P } : TS) W4 R1; rw [if_neg HAC.out])
          | show TxI _ g ({ s.tick t with Q := r, next := s.next + 1, P := s.P } : TS) W4 R1
        rw [← HS1.out, HNXX.out, ← HP1.out]
        exact ⟨_, _, _, _, _, _, _, _, TX5.out⟩
      · exact HKB.out.trans KX5.out HWW.out
      · intro a e
        have := (HFA.out a e).1
        exact ⟨by omega, fun h => by have := TU.out.win _ (HW4.out _ h); omega, fun h => by have := TU.out.rin _ h; omega⟩
/-- Next -/
theorem tNext_ok (g : Nat) (s : TS) (W R : Nat → Prop) (w : World) (h : TxI w g s W R) (hf : s.Fine) (t : Int) (ht1 : -9223372036854775808 ≤ t) (ht2 : t ≤ 9223372036854775807) (hb : Builds g s.C) (hpl : s.P.length ≤ 1000000) :
    Calls Tryz.prog 18 #[.pointer (some ⟨g, 0, none⟩), .int .i64 t] w (NxO W R w g (s.send t)) := by
  by_cases ct : 1073741824 ≤ t
  · exact tnext_late g s W R w h hf t ht1 ht2 ct
  cases hrep : firstRep s.P with
  | some x => exact tnext_rep g s W R w h hf t ht1 ht2 ct hb x.1 x.2 hrep
  | none =>
    cases hq : (s.tick t).Q with
    | nil => exact tnext_none g s W R w h hf t ht1 ht2 ct hrep hq
    | cons q r =>
      by_cases hnx : s.next = 4294967296
      · exact tnext_used g s W R w h hf t ht1 ht2 ct hrep q r hq hnx
      · by_cases hfu : s.full = true
        · exact tnext_full g s W R w h hf t ht1 ht2 ct hrep q r hq hnx hfu
        · exact tnext_new g s W R w h hf t ht1 ht2 ct hb hpl hrep q r hq hnx hfu

end Go.Proofs.YtiffminhlimajaaGreat
