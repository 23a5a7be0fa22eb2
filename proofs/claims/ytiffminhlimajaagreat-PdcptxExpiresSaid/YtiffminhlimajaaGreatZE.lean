/- pdcptx.Submit. Printed by gen/xze.py. -/
import Derived.Test.YtiffminhlimajaaGreatZD
namespace Go.Proofs.YtiffminhlimajaaGreat
open Go.RowKit
set_option linter.unusedVariables false
attribute [local go_sem ↓] Go.wp_at_zero Go.wp_at_succ

theorem TxO.comp {W R W1 R1 : Nat → Prop} {w w1 w2 : World} {g : Nat} {s : TS} (hW : ∀ k, W1 k → W k ∨ w.heap.size ≤ k) (hR : ∀ k, R1 k → R k ∨ w.heap.size ≤ k) (hK : KeepF W w w1) (h : TxO W1 R1 w1 w2 g s) : TxO W R w w2 g s := by
  obtain ⟨W2, R2, h1, h2, h3, h4⟩ := h
  have hs := hK.size
  refine ⟨W2, R2, h1, fun k hk => ?_, fun k hk => ?_, hK.trans h4 (fun b hb h => ?_)⟩
  · rcases h2 k hk with h | h
    · exact hW k h
    · exact .inr (by omega)
  · rcases h3 k hk with h | h
    · exact hR k h
    · exact .inr (by omega)
  · rcases hW b h with h | h
    · exact h
    · omega
/-- the packet that is handed over lies outside the transmitter -/
structure ArgB (w : World) (W : Nat → Prop) (A : Option Addr) (n : Nat) (z : Nat → Int) : Prop where
  row : Row w w.heap.size A n (fun j => .int .u8 (z j))
  byte : ∀ j, j < n → 0 ≤ z j ∧ z j < 256
  out : ∀ a, A = some a → n ≠ 0 → ¬ W a.block
theorem ArgB.keep {w w1 : World} {W W1 : Nat → Prop} {A : Option Addr} {n : Nat} {z : Nat → Int} (h : ArgB w W A n z) (hk : KeepF W w w1) (hW : ∀ k, W1 k → W k ∨ w.heap.size ≤ k) : ArgB w1 W1 A n z :=
  ⟨(hk.row h.row (Nat.le_refl _) h.out).more hk.size, h.byte, fun a e hn hw => by
    obtain ⟨b, off, e2, hb, _⟩ := h.row (by omega)
    rw [e2] at e
    cases e
    rcases hW _ hw with h1 | h1
    · exact h.out _ e2 hn h1
    · have : b < w.heap.size := hb
      have : w.heap.size ≤ b := h1
      omega⟩

set_option maxRecDepth 100000 in
set_option maxHeartbeats 1600000 in
theorem tsubmit_bad (g : Nat) (s : TS) (W R : Nat → Prop) (w : World) (h : TxI w g s W R) (hf : s.Fine) (t : Int) (ht1 : -9223372036854775808 ≤ t) (ht2 : t ≤ 9223372036854775807) (A : Option Addr) (n c : Nat) (z : Nat → Int) (ha : ArgB w W A n z) (hbad : 1073741824 ≤ t ∨ n = 0 ∨ 9000 < n) (hn9 : n ≤ 1000000) :
    Calls Tryz.prog 22 #[.pointer (some ⟨g, 0, none⟩), .int .i64 t, .slice A n c] w fun e w' => e = .returned (.int .i64 (s.submit t n z).1) ∧ TxO W R w w' g (s.submit t n z).2 := by
  unfold TS.submit
  by_cases ct : 1073741824 ≤ t
  · rw [if_pos ct]
    have HTK := Lib.hid (ttick_ok g s W R w h hf t ht1 ht2)
    have HA := Lib.hid ha
    have HF := Lib.hid hf
    have n0 : (0 : Int) ≤ (n : Int) := by omega
    clear h hf ha
    go_enter Tryz.func22, Tryz.ntmps22
    rw [if_pos ct, if_pos ct] at HTK
    go_wp2_with (go_at_call 48; refine (HTK.out).mono ?_; rintro e w1 ⟨rfl, hO⟩; have HO := Lib.hid hO; clear hO)
    go_ret
    exact ⟨rfl, HO.out⟩
  rw [if_neg ct]
  by_cases cn : n = 0
  · rw [if_pos cn]
    have hz : (n : Int) = 0 := by omega
    have HTK := Lib.hid (ttick_ok g s W R w h hf t ht1 ht2)
    have HA := Lib.hid ha
    have HF := Lib.hid hf
    have n0 : (0 : Int) ≤ (n : Int) := by omega
    clear h hf ha
    go_enter Tryz.func22, Tryz.ntmps22
    rw [if_neg ct, if_neg ct] at HTK
    go_wp2_with (go_at_call 48; refine (HTK.out).mono ?_; rintro e w1 ⟨rfl, hO⟩; have HO := Lib.hid hO; clear hO)
    go_ret
    exact ⟨rfl, HO.out⟩
  rw [if_neg cn]
  have cl : 9000 < n := by omega
  rw [if_pos cl]
  have HTK := Lib.hid (ttick_ok g s W R w h hf t ht1 ht2)
  have HA := Lib.hid ha
  have HF := Lib.hid hf
  have n0 : (0 : Int) ≤ (n : Int) := by omega
  clear h hf ha
  go_enter Tryz.func22, Tryz.ntmps22
  rw [if_neg ct, if_neg ct] at HTK
  have hl1 : ¬ ((n : Int) = 0) := by omega
  have hl2 : (9000 : Int) < (n : Int) := by omega
  have hl3 : (n : Int) ≤ 9223372036854775807 := by omega
  go_wp2_with (go_at_call 48; refine (HTK.out).mono ?_; rintro e w1 ⟨rfl, hO⟩; have HO := Lib.hid hO; clear hO)
  go_ret
  exact ⟨rfl, HO.out⟩
set_option maxRecDepth 100000 in
set_option maxHeartbeats 1600000 in
theorem tsubmit_ok (g : Nat) (s : TS) (W R : Nat → Prop) (w : World) (h : TxI w g s W R) (hf : s.Fine) (hcm : s.C.cm = false) (hql : s.Q.length ≤ 1000000) (t : Int) (ht1 : -9223372036854775808 ≤ t) (ht2 : t ≤ 9223372036854775807) (A : Option Addr) (n c : Nat) (z : Nat → Int) (ha : ArgB w W A n z) (hn9 : n ≤ 1000000) :
    Calls Tryz.prog 22 #[.pointer (some ⟨g, 0, none⟩), .int .i64 t, .slice A n c] w fun e w' => e = .returned (.int .i64 (s.submit t n z).1) ∧ TxO W R w w' g (s.submit t n z).2 := by
  by_cases hbad : 1073741824 ≤ t ∨ n = 0 ∨ 9000 < n
  · exact tsubmit_bad g s W R w h hf t ht1 ht2 A n c z ha hbad hn9
  have ct : ¬ 1073741824 ≤ t := fun h => hbad (.inl h)
  have cn : ¬ n = 0 := fun h => hbad (.inr (.inl h))
  have cl : ¬ 9000 < n := fun h => hbad (.inr (.inr h))
  unfold TS.submit
  rw [if_neg ct, if_neg cn, if_neg cl]
  have HTK := Lib.hid (ttick_ok g s W R w h hf t ht1 ht2)
  have HA := Lib.hid ha
  have HF := Lib.hid hf
  have n0 : (0 : Int) ≤ (n : Int) := by omega
  clear h hf ha
  go_enter Tryz.func22, Tryz.ntmps22
  rw [if_neg ct, if_neg ct] at HTK
  have HCM := Lib.hid hcm
  have HQL := Lib.hid (Nat.le_trans (s.tick_len t) hql)
  have HNP : Hid (1 ≤ n ∧ n ≤ 9000) := Lib.hid (by omega)
  have hl1 : ¬ ((n : Int) = 0) := by omega
  have hl2 : ¬ (9000 : Int) < (n : Int) := by omega
  have hl3 : (n : Int) ≤ 9223372036854775807 := by omega
  clear hbad cn cl hcm hql
  obtain ⟨s1, hs1⟩ : ∃ s1, s1 = s.tick t := ⟨_, rfl⟩
  have HC1 : Hid (s1.C = s.C) := Lib.hid (by rw [hs1]; rfl)
  have HNOW : Hid (s1.now = max s.now t) := Lib.hid (by rw [hs1]; rfl)
  rw [← hs1] at HTK HQL ⊢
  clear hs1
  go_upto_region 8 with (go_at_call 48; refine (HTK.out).mono ?_; rintro e w1 ⟨rfl, hO⟩; have HO := Lib.hid hO; clear hO)
  obtain ⟨W1, R1, hI1, hW1, hR1, hK1⟩ := HO.out
  obtain ⟨qA, qc, lq, pA, pc, lp, ub, cb, hT1⟩ := hI1
  have T1 := Lib.hid hT1
  have HW1 := Lib.hid hW1
  have HR1 := Lib.hid hR1
  have HK1 := Lib.hid hK1
  have A1 := Lib.hid (HA.out.keep hK1 hW1)
  have c35 : w1.cell? ⟨g, 35, none⟩ = some (.bool false) := (hT1.cC (j := 35) (by decide)).trans (by rw [show s1.C.cell 35 = .bool s1.C.cm from rfl, HC1.out, HCM.out])
  clear hT1 hW1 hR1 hK1
  go_upto_region 12 with (fail)
  have hgl := T1.out.blk.lt
  obtain ⟨w0, hw0⟩ : ∃ w0, w0 = w1.drew := ⟨_, rfl⟩
  have hb0 : Below w1.heap.size w1 w0 := by rw [hw0]; exact (Below.refl _ _).drew
  have T0 : TxM w0 g s1 W1 R1 qA qc lq pA pc lp ub cb := T1.out.below hb0
  have A0 := A1.out.keep (KeepF.of_below (F := W1) hb0) (fun k hk => .inl hk)
  obtain ⟨iw, hiw, hiwz, hiws, hiwb⟩ := infoWait
  have cnow := T0.cnow
  obtain ⟨mx, hmx⟩ : ∃ mx, mx = s1.now := ⟨_, rfl⟩
  have HMX := Lib.hid hmx
  rw [← hmx] at cnow
  refine wp_region_held_drew (S := fun w' => KeepF (fun j => j = g ∨ ∃ a, qA = some a ∧ j = a.block) w1 w' ∧ w'.cell? ⟨g, 40, none⟩ = some (.int .i64 mx)) (by kernel_rfl) ⟨(KeepF.refl (w := w1)).drew, by rw [← hw0]; exact cnow⟩ (fun hHeld => ?_)
  rw [← hw0]
  rw [← hw0] at hHeld
  clear hw0 cnow hmx c35
  obtain ⟨ql, hql⟩ : ∃ ql, ql = lq.length := ⟨_, rfl⟩
  have HPL := Lib.hid hql
  have HQ6 : Hid (ql ≤ 1000000) := Lib.hid (by rw [hql]; have hq := congrArg List.length T0.qv; have := HQL.out; rw [List.length_map] at hq; omega)
  clear hql
  refine wpAnyH_take (i := 0) (oi := ⟨some 33, _, _, _, _, _⟩) (v := .pointer (some ⟨g, 0, none⟩)) rfl (by kernel_rfl) (by kernel_rfl) (by kernel_rfl) (fun _ _ _ h => h) (Or.inl ⟨by rfl, fun W hW => (by rfl)⟩) (by assumption) ?_
  try simp only [Act.put, List.setIfInBounds_toArray, List.set_cons_zero, List.set_cons_succ]
  refine wpAnyH_take (i := 1) (oi := ⟨some 34, _, _, _, _, _⟩) (v := .pointer (some ⟨g, 0, none⟩)) rfl (by kernel_rfl) (by kernel_rfl) (by kernel_rfl) (fun _ _ _ h => h) (Or.inl ⟨by rfl, fun W hW => (by rfl)⟩) (by assumption) ?_
  try simp only [Act.put, List.setIfInBounds_toArray, List.set_cons_zero, List.set_cons_succ]
  refine wpAnyH_take (i := 2) (oi := ⟨some 35, _, _, _, _, _⟩) (v := .pointer (some ⟨g, 0, none⟩)) rfl (by kernel_rfl) (by kernel_rfl) (by kernel_rfl) (fun _ _ _ h => h) (Or.inl ⟨by rfl, fun W hW => (by go_simp)⟩) (by assumption) ?_
  try simp only [Act.put, List.setIfInBounds_toArray, List.set_cons_zero, List.set_cons_succ]
  refine wpAnyH_take (i := 3) (oi := ⟨some 36, _, _, _, _, _⟩) (v := .pointer (some ⟨g, 42, none⟩)) rfl (by kernel_rfl) (by kernel_rfl) (by kernel_rfl) (fun _ _ _ h => h) (Or.inl ⟨by rfl, fun W hW => (by go_simp)⟩) (by assumption) ?_
  try simp only [Act.put, List.setIfInBounds_toArray, List.set_cons_zero, List.set_cons_succ]
  refine wpAnyH_take (i := 5) (oi := ⟨some 38, _, _, _, _, _⟩) (v := .slice A n c) rfl (by kernel_rfl) (by kernel_rfl) (by kernel_rfl) (fun _ _ _ h => h) (Or.inl ⟨by rfl, fun W hW => (by rfl)⟩) (by assumption) ?_
  try simp only [Act.put, List.setIfInBounds_toArray, List.set_cons_zero, List.set_cons_succ]
  refine wpAnyH_take (i := 7) (oi := ⟨some 40, _, _, _, _, _⟩) (v := .pointer (some ⟨g, 0, none⟩)) rfl (by kernel_rfl) (by kernel_rfl) (by kernel_rfl) (fun _ _ _ h => h) (Or.inl ⟨by rfl, fun W hW => (by rfl)⟩) (by assumption) ?_
  try simp only [Act.put, List.setIfInBounds_toArray, List.set_cons_zero, List.set_cons_succ]
  refine wpAnyH_take (i := 8) (oi := ⟨some 41, _, _, _, _, _⟩) (v := .pointer (some ⟨g, 0, none⟩)) rfl (by kernel_rfl) (by kernel_rfl) (by kernel_rfl) (fun _ _ _ h => h) (Or.inl ⟨by rfl, fun W hW => (by go_simp)⟩) (by assumption) ?_
  try simp only [Act.put, List.setIfInBounds_toArray, List.set_cons_zero, List.set_cons_succ]
  refine wpAnyH_take (i := 9) (oi := ⟨some 42, _, _, _, _, _⟩) (v := .pointer (some ⟨g, 40, none⟩)) rfl (by kernel_rfl) (by kernel_rfl) (by kernel_rfl) (fun _ _ _ h => h) (Or.inl ⟨by rfl, fun W hW => (by go_simp)⟩) (by assumption) ?_
  try simp only [Act.put, List.setIfInBounds_toArray, List.set_cons_zero, List.set_cons_succ]
  refine wpAnyH_take (i := 10) (oi := ⟨some 43, _, _, _, _, _⟩) (v := .int .i64 mx) rfl (by kernel_rfl) (by kernel_rfl) (by kernel_rfl) (fun _ _ _ h => h) (Or.inl ⟨by rfl, fun W hW => (by have := hW.2; go_simp)⟩) (by assumption) ?_
  try simp only [Act.put, List.setIfInBounds_toArray, List.set_cons_zero, List.set_cons_succ]
  refine wpAnyH_ready (rs := [4, 6]) (by kernel_rfl) (by simp) ?_
  refine AllReadyH.cons (o := ⟨some 37, _, _, _, _, _⟩) rfl (fun K hK => ?_) (AllReadyH.cons (o := ⟨some 39, _, _, _, _, _⟩) rfl (fun K hK => ?_) AllReadyH.nil)
  · skip
    rw [if_pos (by rfl)]
    have h43 := T0.cq
    rw [← HPL.out] at h43
    go_simp
    refine hK.out _ _ hHeld (fun hHeld => ?_)
    clear hK K h43
    try simp only [Act.put, List.setIfInBounds_toArray, List.set_cons_zero, List.set_cons_succ]
    refine wpAnyH_ready (rs := [6]) (by kernel_rfl) (by simp) ?_
    refine AllReadyH.cons (o := ⟨some 39, _, _, _, _, _⟩) rfl (fun K hK => ?_) AllReadyH.nil
    rw [if_pos (by rfl)]
    go_simp
    refine (clone_any A n c z w0 (by omega) A0.row).mono ?_
    rintro e w1' ⟨A2, c2', rfl, hc2, hR2, hF2, hbk⟩
    dsimp only
    have hFl : ∀ a, A2 = some a → w0.heap.size ≤ a.block := hF2
    have hFr : ∀ a, A2 = some a → a.block < w1'.heap.size := fun a e => row_lt hR2 HNP.out.1 e
    have hwl1 : ∀ j, W1 j → j < w0.heap.size := T0.win
    have U1 := T0.below hbk
    have hb1 : Below w1.heap.size w1 w1' := hb0.trans (hbk.mono hb0.size)
    have hW2 : ∀ j, W1 j → ∀ a, A2 = some a → j ≠ a.block := fun j hj a e => by have := hFl a e; have := hwl1 j hj; omega
    refine hK.out _ _ ⟨hHeld.1.more hbk, (hbk.cell (p := ⟨g, 40, none⟩) T0.blk.lt).trans hHeld.2⟩ (fun hHeld => ?_)
    clear hK K hbk hF2
    try simp only [Act.put, List.setIfInBounds_toArray, List.set_cons_zero, List.set_cons_succ]
    refine wpAnyH_take (i := 11) (oi := ⟨some 44, _, _, _, _, _⟩) (v := .agg #[.slice A2 n c2', .int .i64 mx]) rfl (by kernel_rfl) (by kernel_rfl) (by kernel_rfl) (fun _ _ _ h => h) (Or.inl ⟨by rfl, fun W hW => (by go_simp)⟩) (by assumption) ?_
    try simp only [Act.put, List.setIfInBounds_toArray, List.set_cons_zero, List.set_cons_succ]
    refine wpAnyH_ready (rs := [12]) (by kernel_rfl) (by simp) ?_
    refine AllReadyH.cons (o := ⟨some 45, _, _, _, _, _⟩) rfl (fun K hK => ?_) AllReadyH.nil
    rw [if_pos (by rfl)]
    go_simp
    obtain ⟨w2', hv⟩ : ∃ X, X = w1'.alloc (.cells #[.slice A2 n c2', .int .i64 mx] 103) := ⟨_, rfl⟩
    obtain ⟨nb, hnb⟩ : ∃ nb, nb = w1'.heap.size := ⟨_, rfl⟩
    have hbk : Below w1'.heap.size w1' w2' := by rw [hv]; exact (Below.refl _ _).alloc (Nat.le_refl _) _
    have hNB : Blk w2' nb 103 #[.slice A2 n c2', .int .i64 mx] := by rw [hv, hnb]; exact Blk.new _ _ _
    have T2 := U1.below hbk
    have hb2 : Below w1.heap.size w1 w2' := hb1.trans (hbk.mono hb1.size)
    replace hR2 := hR2.next hbk
    replace hFr : ∀ a, A2 = some a → a.block < w2'.heap.size := fun a e => Nat.lt_of_lt_of_le (hFr a e) hbk.size
    rw [← hv, ← hnb]
    refine hK.out _ _ ⟨hHeld.1.more hbk, (hbk.cell (p := ⟨g, 40, none⟩) U1.blk.lt).trans hHeld.2⟩ (fun hHeld => ?_)
    clear hK K hbk hv hnb
    try simp only [Act.put, List.setIfInBounds_toArray, List.set_cons_zero, List.set_cons_succ]
    refine wpAnyH_ready (rs := [13]) (by kernel_rfl) (by simp) ?_
    refine AllReadyH.cons (o := ⟨some 46, _, _, _, _, _⟩) rfl (fun K hK => ?_) AllReadyH.nil
    rw [if_pos (by rfl)]
    have hSL := T2.q
    rw [← HPL.out] at hSL
    refine wp_sl_append _ _ _ _ rfl w2' 103 iw (.agg #[.slice none 0 0, .int .i64 0]) 2 32 Tryz.underlying81 hiw hiwz hiws hiwb rfl qA ql qc (lq.flatMap WE.cells) rfl hSL _ rfl 1 [.slice A2 n c2', .int .i64 mx] (Src.ofSlice _ Tryz.underlying81 ⟨nb, 0, none⟩ 1 1 _ rfl (fun j u hu => by
        have hj : j < 2 := (List.getElem?_eq_some_iff.1 hu).1
        rw [Addr.add_lit, Nat.zero_add, hNB.cell j]
        simpa using hu) (by simp [Value.oneCell'])) (by decide) (by unfold maxLen; have := HQ6.out; omega) (by have := HQ6.out; omega) ?_
    intro A9 c9 wA hSL9 hK9 hA9
    dsimp only
    have hA9n : ∀ a, A9 = some a → (∃ a', qA = some a' ∧ a.block = a'.block) ∨ w2'.heap.size ≤ a.block := hA9
    refine hK.out _ _ ⟨hHeld.1.trans hK9 (fun j _ hj => .inr hj), (hK9.cell (p := ⟨g, 40, none⟩) T2.blk.lt (fun ⟨a, ha, e⟩ => T2.gq a ha e)).trans hHeld.2⟩ (fun hHeld => ?_)
    clear hK K
    try simp only [Act.put, List.setIfInBounds_toArray, List.set_cons_zero, List.set_cons_succ]
    refine wpAnyH_take (i := 14) (oi := ⟨some 47, _, _, _, _, _⟩) (v := .pointer (some ⟨g, 0, none⟩)) rfl (by kernel_rfl) (by kernel_rfl) (by kernel_rfl) (fun _ _ _ h => h) (Or.inl ⟨by rfl, fun W hW => (by go_simp)⟩) (by assumption) ?_
    try simp only [Act.put, List.setIfInBounds_toArray, List.set_cons_zero, List.set_cons_succ]
    refine wpAnyH_take (i := 15) (oi := ⟨some 48, _, _, _, _, _⟩) (v := .pointer (some ⟨g, 42, none⟩)) rfl (by kernel_rfl) (by kernel_rfl) (by kernel_rfl) (fun _ _ _ h => h) (Or.inl ⟨by rfl, fun W hW => (by go_simp)⟩) (by assumption) ?_
    try simp only [Act.put, List.setIfInBounds_toArray, List.set_cons_zero, List.set_cons_succ]
    refine wpAnyH_ready (rs := [16]) (by kernel_rfl) (by simp) ?_
    refine AllReadyH.cons (o := ⟨none, _, _, _, _, _⟩) rfl (fun K hK => ?_) AllReadyH.nil
    rw [if_pos (by rfl)]
    have hg9 : Blk wA g 86 _ := hK9.blk T2.blk (fun ⟨a, ha, e⟩ => T2.gq a ha e)
    have hc43 : wA.cell? ⟨g, 42, none⟩ = some (.slice qA lq.length qc) := (hg9.cell 42).trans (tArr_high s1.C.arr_size 3)
    have hf43 := hg9.frozen 42
    have T9 := T2.moreR (R' := fun j => R1 j ∨ ∃ a, A2 = some a ∧ j = a.block) (fun j hj => .inl hj) (fun j hw hr => by rcases hr with hr | ⟨a, ha, e⟩; exact T2.dis j hw hr; exact hW2 j hw a ha e) (fun j hr => by rcases hr with hr | ⟨a, ha, e⟩; exact T2.rin j hr; (rw [e]; exact hFr a ha))
    have hpk9 : ∀ e : WE, e ∈ lq ++ [(⟨⟨n, z, mx⟩, A2, c2'⟩ : WE)] → Pkt wA (fun j => R1 j ∨ ∃ a, A2 = some a ∧ j = a.block) e.A e.v.n e.c e.v.z := fun e he => by
      have hx : Pkt w2' (fun j => R1 j ∨ ∃ a, A2 = some a ∧ j = a.block) e.A e.v.n e.c e.v.z := by
        rcases List.mem_append.1 he with he | he
        · exact T9.qe e he
        · have : e = (⟨⟨n, z, mx⟩, A2, c2'⟩ : WE) := by simpa using he
          rw [this]
          exact Pkt.of_clone HNP.out.1 HNP.out.2 hc2 A0.byte hR2
      exact hx.keep hK9 (fun j ⟨a, ha, e2⟩ hr => T9.dis j (by rw [e2]; exact T9.wq a ha) hr)
    have hlen9 : (lq ++ [(⟨⟨n, z, mx⟩, A2, c2'⟩ : WE)]).length = ql + 1 := by rw [List.length_append, HPL.out]; rfl
    have hSL9' : SL wA 103 2 A9 (lq ++ [(⟨⟨n, z, mx⟩, A2, c2'⟩ : WE)]).length c9 ((lq ++ [(⟨⟨n, z, mx⟩, A2, c2'⟩ : WE)]).flatMap WE.cells) := by
      rw [hlen9, List.flatMap_append]
      exact hSL9
    have TF := T9.setQ hK9 hA9n hSL9' hpk9
    rw [hlen9, List.map_append, T2.qv] at TF
    have HTF := Lib.hid TF
    have hS9 : KeepF (fun j => j = g ∨ ∃ a, qA = some a ∧ j = a.block) w1 (wA.setCell ⟨g, 42, none⟩ (.slice A9 (ql + 1) c9)) := hHeld.1.setCell (p := ⟨g, 42, none⟩) (.inl rfl) _
    have hS40 : (wA.setCell ⟨g, 42, none⟩ (.slice A9 (ql + 1) c9)).cell? ⟨g, 40, none⟩ = some (.int .i64 mx) := by rw [HTF.out.cnow, HMX.out]
    have HKF := Lib.hid (hS9.mono (G := W1) (fun k h => by rcases h with h | ⟨a, ha, e⟩; rw [h]; exact T2.wg; rw [e]; exact T2.wq a ha))
    have HWF := Lib.hid (show ∀ k, (W1 k ∨ ∃ a, A9 = some a ∧ k = a.block) → W1 k ∨ w1.heap.size ≤ k from fun k hk => by
      rcases hk with hk | ⟨a, ha, e⟩
      · exact .inl hk
      · rcases hA9n a ha with ⟨a', ha', e'⟩ | hge
        · exact .inl (by rw [e, e']; exact T2.wq a' ha')
        · exact .inr (by have := hb2.size; omega))
    have HRF := Lib.hid (show ∀ k, (R1 k ∨ ∃ a, A2 = some a ∧ k = a.block) → R1 k ∨ w1.heap.size ≤ k from fun k hk => by
      rcases hk with hk | ⟨a, ha, e⟩
      · exact .inl hk
      · exact .inr (by have := hFl a ha; have := hb0.size; omega))
    clear TF hSL9 hSL9' hpk9 hK9 hA9 hA9n T9 hg9 hSL
    go_simp
    refine hK.out _ _ ⟨hS9, hS40⟩ (fun hHeld => ?_)
    clear hK K hS9 hS40
    try simp only [Act.put]
    refine wpAnyH_done (by kernel_rfl) ?_ _
    go_wp2
    go_ret
    refine ⟨rfl, TxO.comp HW1.out HR1.out HK1.out ⟨_, _, ⟨A9, c9, lq ++ [(⟨⟨n, z, mx⟩, A2, c2'⟩ : WE)], pA, pc, lp, ub, cb, ?_⟩, HWF.out, HRF.out, HKF.out⟩⟩
    · exact (by
        have hh := HTF.out
        rw [show max s.now t = mx from by rw [HMX.out, HNOW.out]]
        exact hh)
  · skip
    rw [if_pos (by rfl)]
    go_simp
    refine (clone_any A n c z w0 (by omega) A0.row).mono ?_
    rintro e w1' ⟨A2, c2', rfl, hc2, hR2, hF2, hbk⟩
    dsimp only
    have hFl : ∀ a, A2 = some a → w0.heap.size ≤ a.block := hF2
    have hFr : ∀ a, A2 = some a → a.block < w1'.heap.size := fun a e => row_lt hR2 HNP.out.1 e
    have hwl1 : ∀ j, W1 j → j < w0.heap.size := T0.win
    have U1 := T0.below hbk
    have hb1 : Below w1.heap.size w1 w1' := hb0.trans (hbk.mono hb0.size)
    have hW2 : ∀ j, W1 j → ∀ a, A2 = some a → j ≠ a.block := fun j hj a e => by have := hFl a e; have := hwl1 j hj; omega
    refine hK.out _ _ ⟨hHeld.1.more hbk, (hbk.cell (p := ⟨g, 40, none⟩) T0.blk.lt).trans hHeld.2⟩ (fun hHeld => ?_)
    clear hK K hbk hF2
    try simp only [Act.put, List.setIfInBounds_toArray, List.set_cons_zero, List.set_cons_succ]
    refine wpAnyH_take (i := 11) (oi := ⟨some 44, _, _, _, _, _⟩) (v := .agg #[.slice A2 n c2', .int .i64 mx]) rfl (by kernel_rfl) (by kernel_rfl) (by kernel_rfl) (fun _ _ _ h => h) (Or.inl ⟨by rfl, fun W hW => (by go_simp)⟩) (by assumption) ?_
    try simp only [Act.put, List.setIfInBounds_toArray, List.set_cons_zero, List.set_cons_succ]
    refine wpAnyH_ready (rs := [4, 12]) (by kernel_rfl) (by simp) ?_
    refine AllReadyH.cons (o := ⟨some 37, _, _, _, _, _⟩) rfl (fun K hK => ?_) (AllReadyH.cons (o := ⟨some 45, _, _, _, _, _⟩) rfl (fun K hK => ?_) AllReadyH.nil)
    · skip
      rw [if_pos (by rfl)]
      have h43 := U1.cq
      rw [← HPL.out] at h43
      go_simp
      refine hK.out _ _ hHeld (fun hHeld => ?_)
      clear hK K h43
      try simp only [Act.put, List.setIfInBounds_toArray, List.set_cons_zero, List.set_cons_succ]
      refine wpAnyH_ready (rs := [12]) (by kernel_rfl) (by simp) ?_
      refine AllReadyH.cons (o := ⟨some 45, _, _, _, _, _⟩) rfl (fun K hK => ?_) AllReadyH.nil
      rw [if_pos (by rfl)]
      go_simp
      obtain ⟨w2', hv⟩ : ∃ X, X = w1'.alloc (.cells #[.slice A2 n c2', .int .i64 mx] 103) := ⟨_, rfl⟩
      obtain ⟨nb, hnb⟩ : ∃ nb, nb = w1'.heap.size := ⟨_, rfl⟩
      have hbk : Below w1'.heap.size w1' w2' := by rw [hv]; exact (Below.refl _ _).alloc (Nat.le_refl _) _
      have hNB : Blk w2' nb 103 #[.slice A2 n c2', .int .i64 mx] := by rw [hv, hnb]; exact Blk.new _ _ _
      have T2 := U1.below hbk
      have hb2 : Below w1.heap.size w1 w2' := hb1.trans (hbk.mono hb1.size)
      replace hR2 := hR2.next hbk
      replace hFr : ∀ a, A2 = some a → a.block < w2'.heap.size := fun a e => Nat.lt_of_lt_of_le (hFr a e) hbk.size
      rw [← hv, ← hnb]
      refine hK.out _ _ ⟨hHeld.1.more hbk, (hbk.cell (p := ⟨g, 40, none⟩) U1.blk.lt).trans hHeld.2⟩ (fun hHeld => ?_)
      clear hK K hbk hv hnb
      try simp only [Act.put, List.setIfInBounds_toArray, List.set_cons_zero, List.set_cons_succ]
      refine wpAnyH_ready (rs := [13]) (by kernel_rfl) (by simp) ?_
      refine AllReadyH.cons (o := ⟨some 46, _, _, _, _, _⟩) rfl (fun K hK => ?_) AllReadyH.nil
      rw [if_pos (by rfl)]
      have hSL := T2.q
      rw [← HPL.out] at hSL
      refine wp_sl_append _ _ _ _ rfl w2' 103 iw (.agg #[.slice none 0 0, .int .i64 0]) 2 32 Tryz.underlying81 hiw hiwz hiws hiwb rfl qA ql qc (lq.flatMap WE.cells) rfl hSL _ rfl 1 [.slice A2 n c2', .int .i64 mx] (Src.ofSlice _ Tryz.underlying81 ⟨nb, 0, none⟩ 1 1 _ rfl (fun j u hu => by
          have hj : j < 2 := (List.getElem?_eq_some_iff.1 hu).1
          rw [Addr.add_lit, Nat.zero_add, hNB.cell j]
          simpa using hu) (by simp [Value.oneCell'])) (by decide) (by unfold maxLen; have := HQ6.out; omega) (by have := HQ6.out; omega) ?_
      intro A9 c9 wA hSL9 hK9 hA9
      dsimp only
      have hA9n : ∀ a, A9 = some a → (∃ a', qA = some a' ∧ a.block = a'.block) ∨ w2'.heap.size ≤ a.block := hA9
      refine hK.out _ _ ⟨hHeld.1.trans hK9 (fun j _ hj => .inr hj), (hK9.cell (p := ⟨g, 40, none⟩) T2.blk.lt (fun ⟨a, ha, e⟩ => T2.gq a ha e)).trans hHeld.2⟩ (fun hHeld => ?_)
      clear hK K
      try simp only [Act.put, List.setIfInBounds_toArray, List.set_cons_zero, List.set_cons_succ]
      refine wpAnyH_take (i := 14) (oi := ⟨some 47, _, _, _, _, _⟩) (v := .pointer (some ⟨g, 0, none⟩)) rfl (by kernel_rfl) (by kernel_rfl) (by kernel_rfl) (fun _ _ _ h => h) (Or.inl ⟨by rfl, fun W hW => (by go_simp)⟩) (by assumption) ?_
      try simp only [Act.put, List.setIfInBounds_toArray, List.set_cons_zero, List.set_cons_succ]
      refine wpAnyH_take (i := 15) (oi := ⟨some 48, _, _, _, _, _⟩) (v := .pointer (some ⟨g, 42, none⟩)) rfl (by kernel_rfl) (by kernel_rfl) (by kernel_rfl) (fun _ _ _ h => h) (Or.inl ⟨by rfl, fun W hW => (by go_simp)⟩) (by assumption) ?_
      try simp only [Act.put, List.setIfInBounds_toArray, List.set_cons_zero, List.set_cons_succ]
      refine wpAnyH_ready (rs := [16]) (by kernel_rfl) (by simp) ?_
      refine AllReadyH.cons (o := ⟨none, _, _, _, _, _⟩) rfl (fun K hK => ?_) AllReadyH.nil
      rw [if_pos (by rfl)]
      have hg9 : Blk wA g 86 _ := hK9.blk T2.blk (fun ⟨a, ha, e⟩ => T2.gq a ha e)
      have hc43 : wA.cell? ⟨g, 42, none⟩ = some (.slice qA lq.length qc) := (hg9.cell 42).trans (tArr_high s1.C.arr_size 3)
      have hf43 := hg9.frozen 42
      have T9 := T2.moreR (R' := fun j => R1 j ∨ ∃ a, A2 = some a ∧ j = a.block) (fun j hj => .inl hj) (fun j hw hr => by rcases hr with hr | ⟨a, ha, e⟩; exact T2.dis j hw hr; exact hW2 j hw a ha e) (fun j hr => by rcases hr with hr | ⟨a, ha, e⟩; exact T2.rin j hr; (rw [e]; exact hFr a ha))
      have hpk9 : ∀ e : WE, e ∈ lq ++ [(⟨⟨n, z, mx⟩, A2, c2'⟩ : WE)] → Pkt wA (fun j => R1 j ∨ ∃ a, A2 = some a ∧ j = a.block) e.A e.v.n e.c e.v.z := fun e he => by
        have hx : Pkt w2' (fun j => R1 j ∨ ∃ a, A2 = some a ∧ j = a.block) e.A e.v.n e.c e.v.z := by
          rcases List.mem_append.1 he with he | he
          · exact T9.qe e he
          · have : e = (⟨⟨n, z, mx⟩, A2, c2'⟩ : WE) := by simpa using he
            rw [this]
            exact Pkt.of_clone HNP.out.1 HNP.out.2 hc2 A0.byte hR2
        exact hx.keep hK9 (fun j ⟨a, ha, e2⟩ hr => T9.dis j (by rw [e2]; exact T9.wq a ha) hr)
      have hlen9 : (lq ++ [(⟨⟨n, z, mx⟩, A2, c2'⟩ : WE)]).length = ql + 1 := by rw [List.length_append, HPL.out]; rfl
      have hSL9' : SL wA 103 2 A9 (lq ++ [(⟨⟨n, z, mx⟩, A2, c2'⟩ : WE)]).length c9 ((lq ++ [(⟨⟨n, z, mx⟩, A2, c2'⟩ : WE)]).flatMap WE.cells) := by
        rw [hlen9, List.flatMap_append]
        exact hSL9
      have TF := T9.setQ hK9 hA9n hSL9' hpk9
      rw [hlen9, List.map_append, T2.qv] at TF
      have HTF := Lib.hid TF
      have hS9 : KeepF (fun j => j = g ∨ ∃ a, qA = some a ∧ j = a.block) w1 (wA.setCell ⟨g, 42, none⟩ (.slice A9 (ql + 1) c9)) := hHeld.1.setCell (p := ⟨g, 42, none⟩) (.inl rfl) _
      have hS40 : (wA.setCell ⟨g, 42, none⟩ (.slice A9 (ql + 1) c9)).cell? ⟨g, 40, none⟩ = some (.int .i64 mx) := by rw [HTF.out.cnow, HMX.out]
      have HKF := Lib.hid (hS9.mono (G := W1) (fun k h => by rcases h with h | ⟨a, ha, e⟩; rw [h]; exact T2.wg; rw [e]; exact T2.wq a ha))
      have HWF := Lib.hid (show ∀ k, (W1 k ∨ ∃ a, A9 = some a ∧ k = a.block) → W1 k ∨ w1.heap.size ≤ k from fun k hk => by
        rcases hk with hk | ⟨a, ha, e⟩
        · exact .inl hk
        · rcases hA9n a ha with ⟨a', ha', e'⟩ | hge
          · exact .inl (by rw [e, e']; exact T2.wq a' ha')
          · exact .inr (by have := hb2.size; omega))
      have HRF := Lib.hid (show ∀ k, (R1 k ∨ ∃ a, A2 = some a ∧ k = a.block) → R1 k ∨ w1.heap.size ≤ k from fun k hk => by
        rcases hk with hk | ⟨a, ha, e⟩
        · exact .inl hk
        · exact .inr (by have := hFl a ha; have := hb0.size; omega))
      clear TF hSL9 hSL9' hpk9 hK9 hA9 hA9n T9 hg9 hSL
      go_simp
      refine hK.out _ _ ⟨hS9, hS40⟩ (fun hHeld => ?_)
      clear hK K hS9 hS40
      try simp only [Act.put]
      refine wpAnyH_done (by kernel_rfl) ?_ _
      go_wp2
      go_ret
      refine ⟨rfl, TxO.comp HW1.out HR1.out HK1.out ⟨_, _, ⟨A9, c9, lq ++ [(⟨⟨n, z, mx⟩, A2, c2'⟩ : WE)], pA, pc, lp, ub, cb, ?_⟩, HWF.out, HRF.out, HKF.out⟩⟩
      · exact (by
          have hh := HTF.out
          rw [show max s.now t = mx from by rw [HMX.out, HNOW.out]]
          exact hh)
    · skip
      rw [if_pos (by rfl)]
      go_simp
      obtain ⟨w2', hv⟩ : ∃ X, X = w1'.alloc (.cells #[.slice A2 n c2', .int .i64 mx] 103) := ⟨_, rfl⟩
      obtain ⟨nb, hnb⟩ : ∃ nb, nb = w1'.heap.size := ⟨_, rfl⟩
      have hbk : Below w1'.heap.size w1' w2' := by rw [hv]; exact (Below.refl _ _).alloc (Nat.le_refl _) _
      have hNB : Blk w2' nb 103 #[.slice A2 n c2', .int .i64 mx] := by rw [hv, hnb]; exact Blk.new _ _ _
      have T2 := U1.below hbk
      have hb2 : Below w1.heap.size w1 w2' := hb1.trans (hbk.mono hb1.size)
      replace hR2 := hR2.next hbk
      replace hFr : ∀ a, A2 = some a → a.block < w2'.heap.size := fun a e => Nat.lt_of_lt_of_le (hFr a e) hbk.size
      rw [← hv, ← hnb]
      refine hK.out _ _ ⟨hHeld.1.more hbk, (hbk.cell (p := ⟨g, 40, none⟩) U1.blk.lt).trans hHeld.2⟩ (fun hHeld => ?_)
      clear hK K hbk hv hnb
      try simp only [Act.put, List.setIfInBounds_toArray, List.set_cons_zero, List.set_cons_succ]
      refine wpAnyH_ready (rs := [4]) (by kernel_rfl) (by simp) ?_
      refine AllReadyH.cons (o := ⟨some 37, _, _, _, _, _⟩) rfl (fun K hK => ?_) AllReadyH.nil
      rw [if_pos (by rfl)]
      have h43 := T2.cq
      rw [← HPL.out] at h43
      go_simp
      refine hK.out _ _ hHeld (fun hHeld => ?_)
      clear hK K h43
      try simp only [Act.put, List.setIfInBounds_toArray, List.set_cons_zero, List.set_cons_succ]
      refine wpAnyH_ready (rs := [13]) (by kernel_rfl) (by simp) ?_
      refine AllReadyH.cons (o := ⟨some 46, _, _, _, _, _⟩) rfl (fun K hK => ?_) AllReadyH.nil
      rw [if_pos (by rfl)]
      have hSL := T2.q
      rw [← HPL.out] at hSL
      refine wp_sl_append _ _ _ _ rfl w2' 103 iw (.agg #[.slice none 0 0, .int .i64 0]) 2 32 Tryz.underlying81 hiw hiwz hiws hiwb rfl qA ql qc (lq.flatMap WE.cells) rfl hSL _ rfl 1 [.slice A2 n c2', .int .i64 mx] (Src.ofSlice _ Tryz.underlying81 ⟨nb, 0, none⟩ 1 1 _ rfl (fun j u hu => by
          have hj : j < 2 := (List.getElem?_eq_some_iff.1 hu).1
          rw [Addr.add_lit, Nat.zero_add, hNB.cell j]
          simpa using hu) (by simp [Value.oneCell'])) (by decide) (by unfold maxLen; have := HQ6.out; omega) (by have := HQ6.out; omega) ?_
      intro A9 c9 wA hSL9 hK9 hA9
      dsimp only
      have hA9n : ∀ a, A9 = some a → (∃ a', qA = some a' ∧ a.block = a'.block) ∨ w2'.heap.size ≤ a.block := hA9
      refine hK.out _ _ ⟨hHeld.1.trans hK9 (fun j _ hj => .inr hj), (hK9.cell (p := ⟨g, 40, none⟩) T2.blk.lt (fun ⟨a, ha, e⟩ => T2.gq a ha e)).trans hHeld.2⟩ (fun hHeld => ?_)
      clear hK K
      try simp only [Act.put, List.setIfInBounds_toArray, List.set_cons_zero, List.set_cons_succ]
      refine wpAnyH_take (i := 14) (oi := ⟨some 47, _, _, _, _, _⟩) (v := .pointer (some ⟨g, 0, none⟩)) rfl (by kernel_rfl) (by kernel_rfl) (by kernel_rfl) (fun _ _ _ h => h) (Or.inl ⟨by rfl, fun W hW => (by go_simp)⟩) (by assumption) ?_
      try simp only [Act.put, List.setIfInBounds_toArray, List.set_cons_zero, List.set_cons_succ]
      refine wpAnyH_take (i := 15) (oi := ⟨some 48, _, _, _, _, _⟩) (v := .pointer (some ⟨g, 42, none⟩)) rfl (by kernel_rfl) (by kernel_rfl) (by kernel_rfl) (fun _ _ _ h => h) (Or.inl ⟨by rfl, fun W hW => (by go_simp)⟩) (by assumption) ?_
      try simp only [Act.put, List.setIfInBounds_toArray, List.set_cons_zero, List.set_cons_succ]
      refine wpAnyH_ready (rs := [16]) (by kernel_rfl) (by simp) ?_
      refine AllReadyH.cons (o := ⟨none, _, _, _, _, _⟩) rfl (fun K hK => ?_) AllReadyH.nil
      rw [if_pos (by rfl)]
      have hg9 : Blk wA g 86 _ := hK9.blk T2.blk (fun ⟨a, ha, e⟩ => T2.gq a ha e)
      have hc43 : wA.cell? ⟨g, 42, none⟩ = some (.slice qA lq.length qc) := (hg9.cell 42).trans (tArr_high s1.C.arr_size 3)
      have hf43 := hg9.frozen 42
      have T9 := T2.moreR (R' := fun j => R1 j ∨ ∃ a, A2 = some a ∧ j = a.block) (fun j hj => .inl hj) (fun j hw hr => by rcases hr with hr | ⟨a, ha, e⟩; exact T2.dis j hw hr; exact hW2 j hw a ha e) (fun j hr => by rcases hr with hr | ⟨a, ha, e⟩; exact T2.rin j hr; (rw [e]; exact hFr a ha))
      have hpk9 : ∀ e : WE, e ∈ lq ++ [(⟨⟨n, z, mx⟩, A2, c2'⟩ : WE)] → Pkt wA (fun j => R1 j ∨ ∃ a, A2 = some a ∧ j = a.block) e.A e.v.n e.c e.v.z := fun e he => by
        have hx : Pkt w2' (fun j => R1 j ∨ ∃ a, A2 = some a ∧ j = a.block) e.A e.v.n e.c e.v.z := by
          rcases List.mem_append.1 he with he | he
          · exact T9.qe e he
          · have : e = (⟨⟨n, z, mx⟩, A2, c2'⟩ : WE) := by simpa using he
            rw [this]
            exact Pkt.of_clone HNP.out.1 HNP.out.2 hc2 A0.byte hR2
        exact hx.keep hK9 (fun j ⟨a, ha, e2⟩ hr => T9.dis j (by rw [e2]; exact T9.wq a ha) hr)
      have hlen9 : (lq ++ [(⟨⟨n, z, mx⟩, A2, c2'⟩ : WE)]).length = ql + 1 := by rw [List.length_append, HPL.out]; rfl
      have hSL9' : SL wA 103 2 A9 (lq ++ [(⟨⟨n, z, mx⟩, A2, c2'⟩ : WE)]).length c9 ((lq ++ [(⟨⟨n, z, mx⟩, A2, c2'⟩ : WE)]).flatMap WE.cells) := by
        rw [hlen9, List.flatMap_append]
        exact hSL9
      have TF := T9.setQ hK9 hA9n hSL9' hpk9
      rw [hlen9, List.map_append, T2.qv] at TF
      have HTF := Lib.hid TF
      have hS9 : KeepF (fun j => j = g ∨ ∃ a, qA = some a ∧ j = a.block) w1 (wA.setCell ⟨g, 42, none⟩ (.slice A9 (ql + 1) c9)) := hHeld.1.setCell (p := ⟨g, 42, none⟩) (.inl rfl) _
      have hS40 : (wA.setCell ⟨g, 42, none⟩ (.slice A9 (ql + 1) c9)).cell? ⟨g, 40, none⟩ = some (.int .i64 mx) := by rw [HTF.out.cnow, HMX.out]
      have HKF := Lib.hid (hS9.mono (G := W1) (fun k h => by rcases h with h | ⟨a, ha, e⟩; rw [h]; exact T2.wg; rw [e]; exact T2.wq a ha))
      have HWF := Lib.hid (show ∀ k, (W1 k ∨ ∃ a, A9 = some a ∧ k = a.block) → W1 k ∨ w1.heap.size ≤ k from fun k hk => by
        rcases hk with hk | ⟨a, ha, e⟩
        · exact .inl hk
        · rcases hA9n a ha with ⟨a', ha', e'⟩ | hge
          · exact .inl (by rw [e, e']; exact T2.wq a' ha')
          · exact .inr (by have := hb2.size; omega))
      have HRF := Lib.hid (show ∀ k, (R1 k ∨ ∃ a, A2 = some a ∧ k = a.block) → R1 k ∨ w1.heap.size ≤ k from fun k hk => by
        rcases hk with hk | ⟨a, ha, e⟩
        · exact .inl hk
        · exact .inr (by have := hFl a ha; have := hb0.size; omega))
      clear TF hSL9 hSL9' hpk9 hK9 hA9 hA9n T9 hg9 hSL
      go_simp
      refine hK.out _ _ ⟨hS9, hS40⟩ (fun hHeld => ?_)
      clear hK K hS9 hS40
      try simp only [Act.put]
      refine wpAnyH_done (by kernel_rfl) ?_ _
      go_wp2
      go_ret
      refine ⟨rfl, TxO.comp HW1.out HR1.out HK1.out ⟨_, _, ⟨A9, c9, lq ++ [(⟨⟨n, z, mx⟩, A2, c2'⟩ : WE)], pA, pc, lp, ub, cb, ?_⟩, HWF.out, HRF.out, HKF.out⟩⟩
      · exact (by
          have hh := HTF.out
          rw [show max s.now t = mx from by rw [HMX.out, HNOW.out]]
          exact hh)
end Go.Proofs.YtiffminhlimajaaGreat
