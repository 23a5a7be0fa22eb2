/- law 47, HandoverApplies: the walk. -/
import Derived.Test.YtiffminhlimajaaTN
import Derived.Test.YtiffminhlimajaaMV
namespace Go.Proofs.Ytiffminhlimajaa
open Go.RowKit
set_option linter.unusedVariables false
attribute [local go_sem ↓] Go.wp_at_zero Go.wp_at_succ

/-- the list that the law builds: in block gb, cells in a slice of its own -/
structure GI (w6 : World) (gb : Nat) (nx : Int) (us : Bool) (A2 : Option Addr) (mq c2 : Nat) (gA : Option Addr) (gc : Nat) (lp : List PE) (wr : World) : Prop where
  blk : Blk wr gb 26 #[.int .u32 nx, .bool us, .slice gA lp.length gc, .slice A2 mq c2]
  p : SL wr 50 2 gA lp.length gc (lp.flatMap PE.cc)
  fr : ∀ a, gA = some a → w6.heap.size ≤ a.block
  gfr : w6.heap.size ≤ gb
  b : Below w6.heap.size w6 wr
theorem GI.gp {w6 : World} {gb : Nat} {nx : Int} {us : Bool} {A2 : Option Addr} {mq c2 : Nat} {gA : Option Addr} {gc : Nat} {lp : List PE} {wr : World} (h : GI w6 gb nx us A2 mq c2 gA gc lp wr) (a : Addr) (ha : gA = some a) : gb ≠ a.block := by
  obtain ⟨cur, hc⟩ := h.p.obj ha
  exact cells_ne h.blk hc (by decide)
theorem GI.below {w6 : World} {gb : Nat} {nx : Int} {us : Bool} {A2 : Option Addr} {mq c2 : Nat} {gA : Option Addr} {gc : Nat} {lp : List PE} {wr w' : World} (h : GI w6 gb nx us A2 mq c2 gA gc lp wr) (hb : Below wr.heap.size wr w') : GI w6 gb nx us A2 mq c2 gA gc lp w' :=
  ⟨h.blk.below hb h.blk.lt, h.p.next hb, h.fr, h.gfr, h.b.trans (hb.mono h.b.size)⟩
theorem GI.set_ {w6 : World} {gb : Nat} {nx : Int} {us : Bool} {A2 : Option Addr} {mq c2 : Nat} {gA gA' : Option Addr} {gc gc' : Nat} {lp lp' : List PE} {wr w1 : World} (h : GI w6 gb nx us A2 mq c2 gA gc lp wr) (hk : KeepF (fun k => ∃ a, gA = some a ∧ k = a.block) wr w1) (hn : ∀ a, gA' = some a → (∃ a', gA = some a' ∧ a.block = a'.block) ∨ wr.heap.size ≤ a.block)
    (hs : SL w1 50 2 gA' lp'.length gc' (lp'.flatMap PE.cc)) : GI w6 gb nx us A2 mq c2 gA' gc' lp' (w1.setCell ⟨gb, 2, none⟩ (.slice gA' lp'.length gc')) := by
  have hg : KeepF (fun k => k = gb) w1 (w1.setCell ⟨gb, 2, none⟩ (.slice gA' lp'.length gc')) := (KeepF.refl (F := fun k => k = gb)).setCell (p := ⟨gb, 2, none⟩) rfl _
  have hg1 : Blk w1 gb _ _ := hk.blk h.blk (fun ⟨a, ha, e⟩ => h.gp a ha e)
  have hlt := h.blk.lt
  have hbs := h.b.size
  have hgx : ∀ a, gA' = some a → ¬ a.block = gb := fun a ha e => by
    rcases hn a ha with ⟨a', ha', e'⟩ | hge
    · exact h.gp a' ha' (by omega)
    · omega
  refine ⟨hg1.set_ 2 _, hs.keepF hg hgx, fun a ha => ?_, h.gfr, ?_⟩
  · rcases hn a ha with ⟨a', ha', e'⟩ | hge
    · rw [e']; exact h.fr a' ha'
    · omega
  · exact (KeepF.below h.b hk (fun k ⟨a, ha, e⟩ => by rw [e]; exact h.fr a ha) h.b.size).setCell (p := ⟨gb, 2, none⟩) h.gfr _
/-- the elements kept of the first k -/
def kept (cf : Int → Bool) (ct : Nat → Int) (PA : Nat → Option Addr) (pn pc : Nat → Nat) (z : Nat → Nat → Int) (k : Nat) : List PE := ((List.range k).filter (fun j => !cf (ct j))).map (gPE ct PA pn pc z)
theorem kept_no {cf : Int → Bool} {ct : Nat → Int} {PA : Nat → Option Addr} {pn pc : Nat → Nat} {z : Nat → Nat → Int} {k : Nat} (h : cf (ct k) = true) : kept cf ct PA pn pc z (k + 1) = kept cf ct PA pn pc z k := by
  unfold kept
  rw [List.range_succ, List.filter_append]
  simp [h]
theorem kept_yes {cf : Int → Bool} {ct : Nat → Int} {PA : Nat → Option Addr} {pn pc : Nat → Nat} {z : Nat → Nat → Int} {k : Nat} (h : cf (ct k) = false) : kept cf ct PA pn pc z (k + 1) = kept cf ct PA pn pc z k ++ [gPE ct PA pn pc z k] := by
  unfold kept
  rw [List.range_succ, List.filter_append]
  simp [h]
theorem kept_le (cf : Int → Bool) (ct : Nat → Int) (PA : Nat → Option Addr) (pn pc : Nat → Nat) (z : Nat → Nat → Int) (k : Nat) : (kept cf ct PA pn pc z k).length ≤ k := by
  unfold kept
  rw [List.length_map]
  exact Nat.le_trans (List.length_filter_le _ _) (by simp)
theorem kept_v (cf : Int → Bool) (ct : Nat → Int) (PA : Nat → Option Addr) (pn pc : Nat → Nat) (z : Nat → Nat → Int) (m : Nat) : (kept cf ct PA pn pc z m).map (·.v) = (resP m ct pn z).filter (fun e => !cf e.ct) := by
  unfold kept resP
  rw [List.map_map, List.filter_map]
  rfl
theorem kept_mem {cf : Int → Bool} {ct : Nat → Int} {PA : Nat → Option Addr} {pn pc : Nat → Nat} {z : Nat → Nat → Int} {m : Nat} {e : PE} (h : e ∈ kept cf ct PA pn pc z m) : ∃ j, j < m ∧ e = gPE ct PA pn pc z j := by
  unfold kept at h
  obtain ⟨j, hj, rfl⟩ := List.mem_map.1 h
  exact ⟨j, by simpa using (List.mem_filter.1 hj).1, rfl⟩
theorem kept_count (cf : Int → Bool) (ct : Nat → Int) (PA : Nat → Option Addr) (pn pc : Nat → Nat) (z : Nat → Nat → Int) (m : Nat) : ((((resP m ct pn z).filter (fun e => cf e.ct)).length : Nat) : Int) = (m : Int) - ((kept cf ct PA pn pc z m).length : Nat) := by
  have h1 : (kept cf ct PA pn pc z m).length = ((resP m ct pn z).filter (fun e => !cf e.ct)).length := by rw [← kept_v cf ct PA pn pc z m, List.length_map]
  have h2 : ∀ l : List PV, (l.filter (fun e => cf e.ct)).length + (l.filter (fun e => !cf e.ct)).length = l.length := fun l => by
    induction l with
    | nil => rfl
    | cons e r ih => cases hc : cf e.ct <;> simp [hc] <;> omega
  have h3 := h2 (resP m ct pn z)
  rw [resP_len] at h3
  rw [h1]
  omega
set_option maxRecDepth 100000 in
set_option maxHeartbeats 6400000 in
theorem applies_walk (nx : Int) (us : Bool) (A A2 : Option Addr) (m c1 mq c2 : Nat) (ct : Nat → Int) (PA : Nat → Option Addr) (pn pc : Nat → Nat) (z : Nat → Nat → Int) (QA : Nat → Option Addr) (qn qc : Nat → Nat) (y : Nat → Nat → Int) (Ab : Option Addr) (mb cb : Nat) (x : Nat → Int) (w : World) (hnx : 0 ≤ nx ∧ nx < 4294967296) (hm : m ≤ maxLen) (hmq : mq ≤ maxLen)
    (h : Cnts w A m ct PA pn pc z) (hq : BRows w A2 mq QA qn qc y) (hmb : mb ≤ cb) (hmx : mb ≤ maxLen) (hx : ∀ j, j < mb → 0 ≤ x j ∧ x j < 256) (hr : Row w w.heap.size Ab mb (fun j => .int .u8 (x j))) :
    Calls Try.prog 3 #[.agg #[.int .u32 nx, .bool us, .slice A m c1, .slice A2 mq c2], .slice Ab mb cb] w fun e w' => e = .returned (.bool true) ∧ Below w.heap.size w w' := by
  have HK := Lib.hid (fun W => known_true W)
  have HSM := Lib.hid (fun (V : World) (hb : Below w.heap.size w V) => small_det nx us A A2 m c1 mq c2 ct PA pn pc z V hm hmq (h.below hb))
  obtain ⟨r, hr0⟩ : ∃ r, r = smallB m mq pn := ⟨_, rfl⟩
  rw [← hr0] at HSM
  have HR0 := Lib.hid hr0
  have HC := Lib.hid h
  have HQ := Lib.hid hq
  have HR := Lib.hid hr
  have HX := Lib.hid hx
  have HNX := Lib.hid hnx
  have hmx' : (mb : Int) ≤ 9223372036854775807 := by unfold maxLen at hmx; omega
  obtain ⟨Bn, hBn⟩ : ∃ Bn, Bn = w.heap.size := ⟨_, rfl⟩
  have HBN := Lib.hid hBn
  have hwB : Bn ≤ w.heap.size := Nat.le_of_eq hBn
  clear h hq hr hx hnx hm hmq hmx hr0
  go_enter Try.func3, Try.ntmps3
  go_upto_region 1 with (fail)
  refine wp_let (fun W => Blk W w.heap.size 26 #[.int .u32 nx, .bool us, .slice A m c1, .slice A2 mq c2] ∧ Below w.heap.size w W) ⟨Blk.new _ _ _, ((Below.refl _ w).alloc (Nat.le_refl _) _)⟩ ?_
  rintro W1 ⟨b1, b2⟩
  have F1 := Lib.hid b1
  have B1 := Lib.hid b2
  clear b1 b2
  rw [← hBn] at F1 B1 HSM ⊢
  clear hBn
  have x0 := F1.out.cell 0
  have x1 := F1.out.cell 1
  have x2 := F1.out.cell 2
  have x3 := F1.out.cell 3
  simp at x0 x1 x2 x3
  cases r with
  | false =>
    go_wp2_with (first
      | (go_at_call 4; refine (HSM.out _ B1.out).mono ?_; rintro e w2 ⟨rfl, hb⟩; have B2 := Lib.hid (B1.out.trans (hb.mono (Nat.le_of_lt F1.out.lt))); clear hb)
      | (go_at_call 5; refine (HK.out _).mono ?_; rintro e w3 ⟨rfl, hb⟩; have BF := Lib.hid (B2.out.trans (hb.mono (Nat.le_trans hwB B2.out.size))); clear hb))
    go_ret
    exact ⟨rfl, BF.out.mono (Nat.le_of_eq HBN.out.symm)⟩
  | true =>
  rcases Decidable.em ((600 : Int) < (mb : Int)) with g6 | g6
  · go_wp2_with (first
      | (go_at_call 4; refine (HSM.out _ B1.out).mono ?_; rintro e w2 ⟨rfl, hb⟩; have B2 := Lib.hid (B1.out.trans (hb.mono (Nat.le_of_lt F1.out.lt))); clear hb)
      | (go_at_call 5; refine (HK.out _).mono ?_; rintro e w3 ⟨rfl, hb⟩; have BF := Lib.hid (B2.out.trans (hb.mono (Nat.le_trans hwB B2.out.size))); clear hb))
    go_ret
    exact ⟨rfl, BF.out.mono (Nat.le_of_eq HBN.out.symm)⟩
  have hsm := HR0.out
  unfold smallB at hsm
  obtain ⟨hm40, hm10, _⟩ := of_decide_eq_true hsm.symm
  clear hsm
  rcases Classical.em (FOk true nx us m ct pn mq qn) with hf | hf
  · have HF := Lib.hid hf
    have HRS := Lib.hid (fun (V : World) (hb : Below Bn w V) => tresume_ok cfA A A2 m c1 mq c2 nx us ct PA pn pc z QA qn qc y V HNX.out (by omega) (by omega) (HC.out.below (by rw [← HBN.out]; exact hb)) (HQ.out.below (by rw [← HBN.out]; exact hb)) cfA_valid hf)
    rw [cfA_lit] at HRS
    clear hf
    go_upto_region 6 with (first
      | (go_at_call 4; refine (HSM.out _ B1.out).mono ?_; rintro e w2 ⟨rfl, hb⟩; have B2 := Lib.hid (B1.out.trans (hb.mono (Nat.le_of_lt F1.out.lt))); have F2 := F1.out.below hb F1.out.lt; have y0 := F2.cell 0; have y1 := F2.cell 1; have y2 := F2.cell 2; have y3 := F2.cell 3; simp at y0 y1 y2 y3; have FF2 := Lib.hid F2; clear hb F2)
      | (go_at_call 6; refine (HRS.out _ B2.out).mono ?_; rintro e w3 ⟨g, W, R, rfl, hT, hW, hRR, hb⟩; have TT := Lib.hid hT; have HW := Lib.hid hW; have HRR := Lib.hid hRR; have B3 := Lib.hid (B2.out.trans (hb.mono (Nat.le_of_lt FF2.out.lt))); have F3 := Lib.hid (FF2.out.below hb FF2.out.lt); clear hT hW hRR hb))
    have hs2 : Bn ≤ w3.heap.size := Nat.le_of_lt F3.out.lt
    have HEX := Lib.hid (fun (V : World) (hb : Below w3.heap.size w3 V) => export_cmp g _ W R V (TT.out.below hb) (by show (resP m ct pn z).length ≤ 1000000 ∧ (resQ mq qn y).length ≤ 1000000; rw [resP_len, resQ_len]; omega) nx us (next_mod HF.out HNX.out).1 (next_mod HF.out HNX.out).2 A A2 m mq (resP_len m ct pn z) (resQ_len mq qn y)
      (fun k e he => by
        obtain ⟨hk, rfl⟩ := resP_at m ct pn z k e he
        exact cnts_ce2 (HC.out.below (by rw [← HBN.out]; exact B3.out.trans (hb.mono hs2))) hk)
      (fun k e he => by
        obtain ⟨hk, rfl⟩ := resQ_at mq qn y k e he
        exact brows_be2 (HQ.out.below (by rw [← HBN.out]; exact B3.out.trans (hb.mono hs2))) hk))
    have HSF := Lib.hid (fun (V : World) (pA qA : Option Addr) (pc' qc' : Nat) (h1 : SameC V pA A m) (h2 : SameB V qA A2 mq) => samef_true nx us pA A qA A2 m pc' c1 mq qc' c2 V (by unfold maxLen; omega) (by unfold maxLen; omega) h1 h2)
    have HRb := Lib.hid (HR.out.next (by rw [← HBN.out]; exact B3.out))
    have hmb6 : mb ≤ 600 := by omega
    rcases Decidable.em (derr mb x ≠ 0 ∨ dkind mb x = 1) with he | he
    · have HAP := Lib.hid (apply_err g _ W R w3 TT.out rfl mb cb Ab x (by omega) hmb HX.out HRb.out he)
      have HRD := Lib.hid (fun (V : World) (hb : Below w3.heap.size w3 V) => refDecode_any mb cb Ab x V (by unfold maxLen; omega) hmb HX.out (HRb.out.next hb))
      unfold DecPost ctl at HRD
      rcases Decidable.em (derr mb x = 0) with e0 | e0
      · have ek : dkind mb x = 1 := by rcases he with h | h; exact absurd e0 h; exact h
        rw [if_pos e0] at HAP
        rw [e0, ek] at HRD
        clear he e0 ek
        go_upto_region 8 with (first
          | (go_at_call 7; refine (HAP.out).mono ?_; rintro e w4 ⟨rfl, hb⟩; have B4 := Lib.hid hb; clear hb)
          | (go_at_call 8; refine (HRD.out _ B4.out).mono ?_; rintro e w5 ⟨A3, c3, A4, c4, rfl, hR1, hR2, hb⟩; have B5 := Lib.hid (B4.out.trans (hb.mono B4.out.size)); clear hb hR1 hR2))
        refine wp_let (fun V => Blk V w5.heap.size 43 #[.int .i64 1, .int .u32 (dfirst mb x), .slice A3 (dlen mb x) c3, .slice A4 (dfeed mb x) c4] ∧ Below w3.heap.size w3 V) ⟨Blk.new _ _ _, B5.out.alloc B5.out.size _⟩ ?_
        rintro w6 ⟨k6, b6⟩
        obtain ⟨sb, hsb⟩ : ∃ sb, sb = w5.heap.size := ⟨_, rfl⟩
        rw [← hsb] at k6 ⊢
        have z0 := k6.cell 0
        simp at z0
        have B6 := Lib.hid b6
        clear b6 k6 hsb
        go_upto_region 11 with (fail)
        have HS6 := Lib.hid (show ∀ W', Below w6.heap.size w6 W' → W'.cell? ⟨Bn, 0, none⟩ = some (.int .u32 nx) ∧ W'.cell? ⟨Bn, 1, none⟩ = some (.bool us) ∧ W'.cell? ⟨Bn, 2, none⟩ = some (.slice A m c1) ∧ W'.cell? ⟨Bn, 3, none⟩ = some (.slice A2 mq c2) from fun W' hW => by
          have h1 := (F3.out.below B6.out F3.out.lt)
          have h2 := h1.below hW h1.lt
          exact ⟨h2.cell 0, h2.cell 1, h2.cell 2, h2.cell 3⟩)
        refine wp_region_held_drew (S := fun w' => Below w6.heap.size w6 w') (by kernel_rfl) ((Below.refl _ w6).drew) (fun hHeld => ?_)
        obtain ⟨v0, hv0⟩ : ∃ v0, v0 = w6.drew := ⟨_, rfl⟩
        have D0 := Lib.hid (show Below w3.heap.size w3 v0 from by rw [hv0]; exact B6.out.drew)
        rw [← hv0]
        rw [← hv0] at hHeld
        clear hv0
        refine wpAnyH_take (i := 0) (oi := ⟨some 63, _, _, _, _, _⟩) (v := .int .i64 8) rfl (by kernel_rfl) (by kernel_rfl) (by kernel_rfl) (fun _ _ _ h => h) (Or.inl ⟨by rfl, fun W hW => (by rfl)⟩) (by assumption) ?_
        try simp only [Act.put, List.setIfInBounds_toArray, List.set_cons_zero, List.set_cons_succ]
        refine wpAnyH_take (i := 1) (oi := ⟨some 64, _, _, _, _, _⟩) (v := .bool true) rfl (by kernel_rfl) (by kernel_rfl) (by kernel_rfl) (fun _ _ _ h => h) (Or.inl ⟨by rfl, fun W hW => (by go_simp)⟩) (by assumption) ?_
        try simp only [Act.put, List.setIfInBounds_toArray, List.set_cons_zero, List.set_cons_succ]
        refine wpAnyH_take (i := 2) (oi := ⟨some 65, _, _, _, _, _⟩) (v := .bool true) rfl (by kernel_rfl) (by kernel_rfl) (by kernel_rfl) (fun _ _ _ h => h) (Or.inl ⟨by rfl, fun W hW => (by rfl)⟩) (by assumption) ?_
        try simp only [Act.put, List.setIfInBounds_toArray, List.set_cons_zero, List.set_cons_succ]
        refine wpAnyH_take (i := 3) (oi := ⟨some 66, _, _, _, _, _⟩) (v := .int .i64 0) rfl (by kernel_rfl) (by kernel_rfl) (by kernel_rfl) (fun _ _ _ h => h) (Or.inl ⟨by rfl, fun W hW => (by rfl)⟩) (by assumption) ?_
        try simp only [Act.put, List.setIfInBounds_toArray, List.set_cons_zero, List.set_cons_succ]
        refine wpAnyH_take (i := 4) (oi := ⟨some 67, _, _, _, _, _⟩) (v := .bool true) rfl (by kernel_rfl) (by kernel_rfl) (by kernel_rfl) (fun _ _ _ h => h) (Or.inl ⟨by rfl, fun W hW => (by go_simp)⟩) (by assumption) ?_
        try simp only [Act.put, List.setIfInBounds_toArray, List.set_cons_zero, List.set_cons_succ]
        refine wpAnyH_take (i := 5) (oi := ⟨some 68, _, _, _, _, _⟩) (v := .bool true) rfl (by kernel_rfl) (by kernel_rfl) (by kernel_rfl) (fun _ _ _ h => h) (Or.inl ⟨by rfl, fun W hW => (by go_simp)⟩) (by assumption) ?_
        try simp only [Act.put, List.setIfInBounds_toArray, List.set_cons_zero, List.set_cons_succ]
        refine wpAnyH_take (i := 6) (oi := ⟨some 69, _, _, _, _, _⟩) (v := .bool true) rfl (by kernel_rfl) (by kernel_rfl) (by kernel_rfl) (fun _ _ _ h => h) (Or.inl ⟨by rfl, fun W hW => (by rfl)⟩) (by assumption) ?_
        try simp only [Act.put, List.setIfInBounds_toArray, List.set_cons_zero, List.set_cons_succ]
        refine wpAnyH_take (i := 7) (oi := ⟨some 70, _, _, _, _, _⟩) (v := .pointer (some ⟨g, 0, none⟩)) rfl (by kernel_rfl) (by kernel_rfl) (by kernel_rfl) (fun _ _ _ h => h) (Or.inl ⟨by rfl, fun W hW => (by rfl)⟩) (by assumption) ?_
        try simp only [Act.put, List.setIfInBounds_toArray, List.set_cons_zero, List.set_cons_succ]
        refine wpAnyH_take (i := 9) (oi := ⟨some 72, _, _, _, _, _⟩) (v := .agg #[.int .u32 nx, .bool us, .slice A m c1, .slice A2 mq c2]) rfl (by kernel_rfl) (by kernel_rfl) (by kernel_rfl) (fun _ _ _ h => h) (Or.inl ⟨by rfl, fun W hW => (by obtain ⟨u0, u1, u2, u3⟩ := HS6.out W hW; go_simp)⟩) (by assumption) ?_
        try simp only [Act.put, List.setIfInBounds_toArray, List.set_cons_zero, List.set_cons_succ]
        refine wpAnyH_ready (rs := [8]) (by kernel_rfl) (by simp) ?_
        refine AllReadyH.cons (o := ⟨some 71, _, _, _, _, _⟩) rfl (fun K hK => ?_) AllReadyH.nil
        rw [if_pos (by rfl)]
        go_simp
        refine (HEX.out _ D0.out).mono ?_
        rintro e v1 ⟨pA, pc', qA, qc', rfl, hC1, hC2, hbk⟩
        dsimp only
        have D1 := Lib.hid (D0.out.trans (hbk.mono D0.out.size))
        have HC1 := Lib.hid hC1
        have HC2 := Lib.hid hC2
        refine hK.out _ _ (hHeld.trans (hbk.mono hHeld.size)) (fun hHeld => ?_)
        clear hK K hbk hC1 hC2
        try simp only [Act.put, List.setIfInBounds_toArray, List.set_cons_zero, List.set_cons_succ]
        refine wpAnyH_ready (rs := [10]) (by kernel_rfl) (by simp) ?_
        refine AllReadyH.cons (o := ⟨some 73, _, _, _, _, _⟩) rfl (fun K hK => ?_) AllReadyH.nil
        rw [if_pos (by rfl)]
        go_simp
        refine (HSF.out _ pA qA pc' qc' HC1.out HC2.out).mono ?_
        rintro e v2 ⟨rfl, hbk⟩
        dsimp only
        refine hK.out _ _ (hHeld.trans (hbk.mono hHeld.size)) (fun hHeld => ?_)
        clear hK K hbk
        try simp only [Act.put, List.setIfInBounds_toArray, List.set_cons_zero, List.set_cons_succ]
        refine wpAnyH_take (i := 11) (oi := ⟨some 74, _, _, _, _, _⟩) (v := .bool true) rfl (by kernel_rfl) (by kernel_rfl) (by kernel_rfl) (fun _ _ _ h => h) (Or.inl ⟨by rfl, fun W hW => (by go_simp)⟩) (by assumption) ?_
        try simp only [Act.put, List.setIfInBounds_toArray, List.set_cons_zero, List.set_cons_succ]
        refine wpAnyH_take (i := 12) (oi := ⟨some 75, _, _, _, _, _⟩) (v := .bool true) rfl (by kernel_rfl) (by kernel_rfl) (by kernel_rfl) (fun _ _ _ h => h) (Or.inl ⟨by rfl, fun W hW => (by rfl)⟩) (by assumption) ?_
        try simp only [Act.put, List.setIfInBounds_toArray, List.set_cons_zero, List.set_cons_succ]
        refine wpAnyH_ready (rs := [13]) (by kernel_rfl) (by simp) ?_
        refine AllReadyH.cons (o := ⟨some 76, _, _, _, _, _⟩) rfl (fun K hK => ?_) AllReadyH.nil
        rw [if_pos (by rfl)]
        go_simp
        refine (HK.out _).mono ?_
        rintro e v3 ⟨rfl, hbk⟩
        dsimp only
        refine hK.out _ _ (hHeld.trans (hbk.mono hHeld.size)) (fun hHeld => ?_)
        clear hK K hbk
        try simp only [Act.put, List.setIfInBounds_toArray, List.set_cons_zero, List.set_cons_succ]
        refine wpAnyH_take (i := 14) (oi := ⟨some 77, _, _, _, _, _⟩) (v := .bool true) rfl (by kernel_rfl) (by kernel_rfl) (by kernel_rfl) (fun _ _ _ h => h) (Or.inl ⟨by rfl, fun W hW => (by go_simp)⟩) (by assumption) ?_
        try simp only [Act.put, List.setIfInBounds_toArray, List.set_cons_zero, List.set_cons_succ]
        refine wpAnyH_take (i := 15) (oi := ⟨some 4, _, _, _, _, _⟩) (v := .bool true) rfl (by kernel_rfl) (by kernel_rfl) (by kernel_rfl) (fun _ _ _ h => h) (Or.inl ⟨by rfl, fun W hW => (by go_simp)⟩) (by assumption) ?_
        try simp only [Act.put, List.setIfInBounds_toArray, List.set_cons_zero, List.set_cons_succ]
        refine wpAnyH_done (by kernel_rfl) ?_ _
        have HBF := Lib.hid ((B3.out.trans (B6.out.mono hs2)).trans (hHeld.mono (Nat.le_trans hs2 B6.out.size)))
        clear hHeld
        go_wp2
        go_ret
        exact ⟨rfl, HBF.out.mono (Nat.le_of_eq HBN.out.symm)⟩
      · have hE0 : ((derr mb x) == 0) = false := by simpa using e0
        rw [if_neg e0] at HAP
        obtain ⟨E, hE⟩ : ∃ E, E = derr mb x := ⟨_, rfl⟩
        rw [← hE] at HAP HRD hE0
        clear he e0 hE
        go_upto_region 8 with (first
          | (go_at_call 7; refine (HAP.out).mono ?_; rintro e w4 ⟨rfl, hb⟩; have B4 := Lib.hid hb; clear hb)
          | (go_at_call 8; refine (HRD.out _ B4.out).mono ?_; rintro e w5 ⟨A3, c3, A4, c4, rfl, hR1, hR2, hb⟩; have B5 := Lib.hid (B4.out.trans (hb.mono B4.out.size)); clear hb hR1 hR2))
        refine wp_let (fun V => Below w3.heap.size w3 V) (B5.out.alloc B5.out.size _) ?_
        rintro w6 b6
        have B6 := Lib.hid b6
        clear b6
        go_upto_region 9 with (fail)
        have HS6 := Lib.hid (show ∀ W', Below w6.heap.size w6 W' → W'.cell? ⟨Bn, 0, none⟩ = some (.int .u32 nx) ∧ W'.cell? ⟨Bn, 1, none⟩ = some (.bool us) ∧ W'.cell? ⟨Bn, 2, none⟩ = some (.slice A m c1) ∧ W'.cell? ⟨Bn, 3, none⟩ = some (.slice A2 mq c2) from fun W' hW => by
          have h1 := (F3.out.below B6.out F3.out.lt)
          have h2 := h1.below hW h1.lt
          exact ⟨h2.cell 0, h2.cell 1, h2.cell 2, h2.cell 3⟩)
        refine wp_region_held_drew (S := fun w' => Below w6.heap.size w6 w') (by kernel_rfl) ((Below.refl _ w6).drew) (fun hHeld => ?_)
        obtain ⟨v0, hv0⟩ : ∃ v0, v0 = w6.drew := ⟨_, rfl⟩
        have D0 := Lib.hid (show Below w3.heap.size w3 v0 from by rw [hv0]; exact B6.out.drew)
        rw [← hv0]
        rw [← hv0] at hHeld
        clear hv0
        refine wpAnyH_take (i := 0) (oi := ⟨some 44, _, _, _, _, _⟩) (v := .int .i64 E) rfl (by kernel_rfl) (by kernel_rfl) (by kernel_rfl) (fun _ _ _ h => h) (Or.inl ⟨by rfl, fun W hW => (by rfl)⟩) (by assumption) ?_
        try simp only [Act.put, List.setIfInBounds_toArray, List.set_cons_zero, List.set_cons_succ]
        refine wpAnyH_take (i := 1) (oi := ⟨some 45, _, _, _, _, _⟩) (v := .int .i64 E) rfl (by kernel_rfl) (by kernel_rfl) (by kernel_rfl) (fun _ _ _ h => h) (Or.inl ⟨by rfl, fun W hW => (by rfl)⟩) (by assumption) ?_
        try simp only [Act.put, List.setIfInBounds_toArray, List.set_cons_zero, List.set_cons_succ]
        refine wpAnyH_take (i := 2) (oi := ⟨some 46, _, _, _, _, _⟩) (v := .bool true) rfl (by kernel_rfl) (by kernel_rfl) (by kernel_rfl) (fun _ _ _ h => h) (Or.inl ⟨by rfl, fun W hW => (by go_simp)⟩) (by assumption) ?_
        try simp only [Act.put, List.setIfInBounds_toArray, List.set_cons_zero, List.set_cons_succ]
        refine wpAnyH_take (i := 3) (oi := ⟨some 47, _, _, _, _, _⟩) (v := .bool true) rfl (by kernel_rfl) (by kernel_rfl) (by kernel_rfl) (fun _ _ _ h => h) (Or.inl ⟨by rfl, fun W hW => (by rfl)⟩) (by assumption) ?_
        try simp only [Act.put, List.setIfInBounds_toArray, List.set_cons_zero, List.set_cons_succ]
        refine wpAnyH_take (i := 4) (oi := ⟨some 48, _, _, _, _, _⟩) (v := .int .i64 0) rfl (by kernel_rfl) (by kernel_rfl) (by kernel_rfl) (fun _ _ _ h => h) (Or.inl ⟨by rfl, fun W hW => (by rfl)⟩) (by assumption) ?_
        try simp only [Act.put, List.setIfInBounds_toArray, List.set_cons_zero, List.set_cons_succ]
        refine wpAnyH_take (i := 5) (oi := ⟨some 49, _, _, _, _, _⟩) (v := .bool true) rfl (by kernel_rfl) (by kernel_rfl) (by kernel_rfl) (fun _ _ _ h => h) (Or.inl ⟨by rfl, fun W hW => (by go_simp)⟩) (by assumption) ?_
        try simp only [Act.put, List.setIfInBounds_toArray, List.set_cons_zero, List.set_cons_succ]
        refine wpAnyH_take (i := 6) (oi := ⟨some 50, _, _, _, _, _⟩) (v := .bool true) rfl (by kernel_rfl) (by kernel_rfl) (by kernel_rfl) (fun _ _ _ h => h) (Or.inl ⟨by rfl, fun W hW => (by go_simp)⟩) (by assumption) ?_
        try simp only [Act.put, List.setIfInBounds_toArray, List.set_cons_zero, List.set_cons_succ]
        refine wpAnyH_take (i := 7) (oi := ⟨some 51, _, _, _, _, _⟩) (v := .bool true) rfl (by kernel_rfl) (by kernel_rfl) (by kernel_rfl) (fun _ _ _ h => h) (Or.inl ⟨by rfl, fun W hW => (by rfl)⟩) (by assumption) ?_
        try simp only [Act.put, List.setIfInBounds_toArray, List.set_cons_zero, List.set_cons_succ]
        refine wpAnyH_take (i := 8) (oi := ⟨some 52, _, _, _, _, _⟩) (v := .pointer (some ⟨g, 0, none⟩)) rfl (by kernel_rfl) (by kernel_rfl) (by kernel_rfl) (fun _ _ _ h => h) (Or.inl ⟨by rfl, fun W hW => (by rfl)⟩) (by assumption) ?_
        try simp only [Act.put, List.setIfInBounds_toArray, List.set_cons_zero, List.set_cons_succ]
        refine wpAnyH_take (i := 10) (oi := ⟨some 54, _, _, _, _, _⟩) (v := .agg #[.int .u32 nx, .bool us, .slice A m c1, .slice A2 mq c2]) rfl (by kernel_rfl) (by kernel_rfl) (by kernel_rfl) (fun _ _ _ h => h) (Or.inl ⟨by rfl, fun W hW => (by obtain ⟨u0, u1, u2, u3⟩ := HS6.out W hW; go_simp)⟩) (by assumption) ?_
        try simp only [Act.put, List.setIfInBounds_toArray, List.set_cons_zero, List.set_cons_succ]
        refine wpAnyH_ready (rs := [9]) (by kernel_rfl) (by simp) ?_
        refine AllReadyH.cons (o := ⟨some 53, _, _, _, _, _⟩) rfl (fun K hK => ?_) AllReadyH.nil
        rw [if_pos (by rfl)]
        go_simp
        refine (HEX.out _ D0.out).mono ?_
        rintro e v1 ⟨pA, pc', qA, qc', rfl, hC1, hC2, hbk⟩
        dsimp only
        have D1 := Lib.hid (D0.out.trans (hbk.mono D0.out.size))
        have HC1 := Lib.hid hC1
        have HC2 := Lib.hid hC2
        refine hK.out _ _ (hHeld.trans (hbk.mono hHeld.size)) (fun hHeld => ?_)
        clear hK K hbk hC1 hC2
        try simp only [Act.put, List.setIfInBounds_toArray, List.set_cons_zero, List.set_cons_succ]
        refine wpAnyH_ready (rs := [11]) (by kernel_rfl) (by simp) ?_
        refine AllReadyH.cons (o := ⟨some 55, _, _, _, _, _⟩) rfl (fun K hK => ?_) AllReadyH.nil
        rw [if_pos (by rfl)]
        go_simp
        refine (HSF.out _ pA qA pc' qc' HC1.out HC2.out).mono ?_
        rintro e v2 ⟨rfl, hbk⟩
        dsimp only
        refine hK.out _ _ (hHeld.trans (hbk.mono hHeld.size)) (fun hHeld => ?_)
        clear hK K hbk
        try simp only [Act.put, List.setIfInBounds_toArray, List.set_cons_zero, List.set_cons_succ]
        refine wpAnyH_take (i := 12) (oi := ⟨some 56, _, _, _, _, _⟩) (v := .bool true) rfl (by kernel_rfl) (by kernel_rfl) (by kernel_rfl) (fun _ _ _ h => h) (Or.inl ⟨by rfl, fun W hW => (by go_simp)⟩) (by assumption) ?_
        try simp only [Act.put, List.setIfInBounds_toArray, List.set_cons_zero, List.set_cons_succ]
        refine wpAnyH_take (i := 13) (oi := ⟨some 57, _, _, _, _, _⟩) (v := .bool true) rfl (by kernel_rfl) (by kernel_rfl) (by kernel_rfl) (fun _ _ _ h => h) (Or.inl ⟨by rfl, fun W hW => (by rfl)⟩) (by assumption) ?_
        try simp only [Act.put, List.setIfInBounds_toArray, List.set_cons_zero, List.set_cons_succ]
        refine wpAnyH_ready (rs := [14]) (by kernel_rfl) (by simp) ?_
        refine AllReadyH.cons (o := ⟨some 58, _, _, _, _, _⟩) rfl (fun K hK => ?_) AllReadyH.nil
        rw [if_pos (by rfl)]
        go_simp
        refine (HK.out _).mono ?_
        rintro e v3 ⟨rfl, hbk⟩
        dsimp only
        refine hK.out _ _ (hHeld.trans (hbk.mono hHeld.size)) (fun hHeld => ?_)
        clear hK K hbk
        try simp only [Act.put, List.setIfInBounds_toArray, List.set_cons_zero, List.set_cons_succ]
        refine wpAnyH_take (i := 15) (oi := ⟨some 59, _, _, _, _, _⟩) (v := .bool true) rfl (by kernel_rfl) (by kernel_rfl) (by kernel_rfl) (fun _ _ _ h => h) (Or.inl ⟨by rfl, fun W hW => (by go_simp)⟩) (by assumption) ?_
        try simp only [Act.put, List.setIfInBounds_toArray, List.set_cons_zero, List.set_cons_succ]
        refine wpAnyH_take (i := 16) (oi := ⟨some 4, _, _, _, _, _⟩) (v := .bool true) rfl (by kernel_rfl) (by kernel_rfl) (by kernel_rfl) (fun _ _ _ h => h) (Or.inl ⟨by rfl, fun W hW => (by go_simp)⟩) (by assumption) ?_
        try simp only [Act.put, List.setIfInBounds_toArray, List.set_cons_zero, List.set_cons_succ]
        refine wpAnyH_done (by kernel_rfl) ?_ _
        have HBF := Lib.hid ((B3.out.trans (B6.out.mono hs2)).trans (hHeld.mono (Nat.le_trans hs2 B6.out.size)))
        clear hHeld
        go_wp2
        go_ret
        exact ⟨rfl, HBF.out.mono (Nat.le_of_eq HBN.out.symm)⟩
    · have e0 : derr mb x = 0 := Decidable.byContradiction fun h => he (.inl h)
      have ek : dkind mb x = 0 := by
        unfold dkind
        split
        · rename_i h; exact absurd (.inr (by unfold dkind; rw [if_pos h])) he
        · rfl
      obtain ⟨cf, hcf⟩ : ∃ cf, cf = confB (dfirst mb x) (dlen mb x) (HM.hb (pay (dz x))) := ⟨_, rfl⟩
      have HAP := Lib.hid (apply_stat g _ W R w3 TT.out (by show (resP m ct pn z).length ≤ 1000000 ∧ (resQ mq qn y).length ≤ 1000000; rw [resP_len, resQ_len]; omega) (fok_incr HF.out z) mb cb Ab x (by omega) hmb HX.out HRb.out e0 ek cf hcf)
      have HWB := Lib.hid (show ∀ k, W k → ¬ k ≤ Bn from fun k hk => by have := HW.out k hk; have := FF2.out.lt; omega)
      have HRD := Lib.hid (fun (V : World) (hb : Below Bn w V) => refDecode_any mb cb Ab x V (by unfold maxLen; omega) hmb HX.out (HR.out.next (by rw [← HBN.out]; exact hb)))
      unfold DecPost ctl at HRD
      rw [e0, ek] at HRD
      obtain ⟨N, hN⟩ : ∃ N, N = (((resP m ct pn z).filter (fun e => cf e.ct)).length : Int) := ⟨_, rfl⟩
      have HNC := Lib.hid (hN.trans (kept_count cf ct PA pn pc z m))
      replace HAP := Lib.hid (show Calls Try.prog 7 #[.pointer (some ⟨g, 0, none⟩), .slice Ab mb cb] w3 fun e w' => e = .returned (.tuple #[.int .i64 N, .int .i64 0]) ∧ TxO W R w3 w' g { resS cfA (nextOf nx us) m ct pn z mq qn y with P := (resP m ct pn z).filter (fun e => !cf e.ct) } from by rw [hN]; exact HAP.out)
      obtain ⟨d0, d1⟩ := dfirst_rng mb x HX.out
      have hL := dlen_le mb x
      have HCFE := Lib.hid hcf
      have HCOK := Lib.hid (fun (V : World) (k : Nat) (hk : k < m) (A3 A4 : Option Addr) (c3 c4 : Nat) (h : Row V V.heap.size A3 (dlen mb x) (fun j => .bool (HM.hb (pay (dz x)) j))) => confirms_ok 0 (dfirst mb x) (ct k) (dlen mb x) c3 (dfeed mb x) c4 A3 A4 (HM.hb (pay (dz x))) V ⟨d0, d1⟩ (HC.out.rng k hk) hL h)
      rw [← hcf] at HCOK
      clear he e0 ek hN hcf d0 d1 hL HSM
      go_upto_region 8 with (first
        | (go_at_call 7; refine (HAP.out).mono ?_; rintro e w4 ⟨rfl, W4, R4, hT4, hW4, hR4, hK4⟩; have T4 := Lib.hid hT4; have B4 := Lib.hid (KeepF.below B3.out hK4 (fun k hk => by have := HWB.out k hk; omega) hs2); have F4 := Lib.hid (hK4.blk F3.out (fun hw => HWB.out _ hw (Nat.le_refl _))); clear hT4 hW4 hR4 hK4)
        | (go_at_call 8; refine (HRD.out _ B4.out).mono ?_; rintro e w5 ⟨A3, c3, A4, c4, rfl, hR1, hR2, hb⟩; have B5 := Lib.hid (B4.out.trans (hb.mono (Nat.le_of_lt F4.out.lt))); have R5 := Lib.hid hR1; have F5 := Lib.hid (F4.out.below hb F4.out.lt); have T5 := Lib.hid (T4.out.below hb); clear hb hR1 hR2))
      refine wp_let (fun V => Blk V w5.heap.size 43 #[.int .i64 0, .int .u32 (dfirst mb x), .slice A3 (dlen mb x) c3, .slice A4 (dfeed mb x) c4] ∧ Below w5.heap.size w5 V) ⟨Blk.new _ _ _, (Below.refl _ _).alloc (Nat.le_refl _) _⟩ ?_
      rintro w6 ⟨k6, b6⟩
      obtain ⟨sb, hsb⟩ : ∃ sb, sb = w5.heap.size := ⟨_, rfl⟩
      have F6 := Lib.hid (F5.out.below b6 F5.out.lt)
      have T6 := Lib.hid (T5.out.below b6)
      have R6 := Lib.hid (R5.out.next b6)
      have B6 := Lib.hid (B5.out.trans (b6.mono (Nat.le_of_lt F5.out.lt)))
      rw [← hsb] at k6 ⊢
      have C6 := Lib.hid k6
      have z0 := k6.cell 0
      have f0 := F6.out.cell 0
      have f1 := F6.out.cell 1
      have f2 := F6.out.cell 2
      have f3 := F6.out.cell 3
      simp at z0 f0 f1 f2 f3
      clear b6 k6 hsb
      go_upto_region 14 with (fail)
      obtain ⟨gb, hgb⟩ : ∃ gb, gb = w6.heap.size := ⟨_, rfl⟩
      refine wp_let (fun V => GI w6 gb nx us A2 mq c2 none 0 [] V) ⟨(by rw [hgb]; exact Blk.new _ _ _), SL.nil _ _ _, (fun a e => by cases e), (by omega), (Below.refl _ w6).alloc (Nat.le_refl _) _⟩ ?_
      intro w7 hg7
      have G7 := Lib.hid hg7
      rw [← hgb]
      have hbB : Bn < w6.heap.size := F6.out.lt
      have hsB : sb < w6.heap.size := C6.out.lt
      have hm' : (m : Int) ≤ 40 := by omega
      have HK0 := Lib.hid (show ([] : List PE) = kept cf ct PA pn pc z 0 from rfl)
      have HKV := Lib.hid (kept_v cf ct PA pn pc z m)
      have HKM := Lib.hid (fun (e : PE) (h : e ∈ kept cf ct PA pn pc z m) => kept_mem h)
      have HKS := Lib.hid (fun (k : Nat) (h : cf (ct k) = false) => kept_yes (PA := PA) (pn := pn) (pc := pc) (z := z) h)
      have HKN := Lib.hid (fun (k : Nat) (h : cf (ct k) = true) => kept_no (PA := PA) (pn := pn) (pc := pc) (z := z) h)
      have HKL := Lib.hid (fun (k : Nat) => kept_le cf ct PA pn pc z k)
      have HNC2 := Lib.hid HNC.out
      generalize kept cf ct PA pn pc z = KP at *
      clear hg7 z0 f0 f1 f2 f3 x0 x1 x2 x3 y0 y1 y2 y3 HRS HAP HRD HNC hgb
      go_wp2
      go_loopw [12] (fun v wr => ∃ (k : Nat) (gA : Option Addr) (gc : Nat) (lp : List PE), k ≤ m ∧ v = .int .i64 k ∧ GI w6 gb nx us A2 mq c2 gA gc lp wr ∧ lp = KP k) (fun v _ => m - (intOf v).toNat)
      case atStart => exact ⟨0, _, _, _, by omega, rfl, G7.out, HK0.out⟩
      case round =>
        clear G7 HK0 w7
        obtain ⟨k, gA, gc, lp, hk, rfl, hG, hlp⟩ := hrel
        have GG := Lib.hid hG
        have HLP := Lib.hid hlp
        have hlk : lp.length ≤ k := by rw [hlp]; exact HKL.out k
        have F7 := Lib.hid (F6.out.below hG.b hbB)
        have f2 := F7.out.cell 2
        simp at f2
        clear hG hlp
        have k0 : (0 : Int) ≤ (k : Int) := by omega
        by_cases hlt : k < m
        · obtain ⟨lb, lo, rfl, hlb, hlc⟩ := HC.out.at_ (by omega)
          obtain ⟨e0, e1⟩ := hlc k hlt
          have k1 : (k : Int) < (m : Int) := by omega
          have hlB : lb < Bn := by have := HBN.out; omega
          have HE := Lib.hid (show ∀ W', Below w6.heap.size w6 W' → (W'.cell? ⟨lb, lo + k * 2, none⟩ = some (.int .u32 (ct k)) ∧ W'.cell? ⟨lb, lo + k * 2 + 1, none⟩ = some (.slice (PA k) (pn k) (pc k))) ∧ W'.cell? ⟨Bn, 2, none⟩ = some (.slice (some ⟨lb, lo, none⟩) m c1) ∧ W'.cell? ⟨sb, 0, none⟩ = some (.int .i64 0) ∧ W'.cell? ⟨sb, 1, none⟩ = some (.int .u32 (dfirst mb x)) ∧ W'.cell? ⟨sb, 2, none⟩ = some (.slice A3 (dlen mb x) c3) ∧ W'.cell? ⟨sb, 3, none⟩ = some (.slice A4 (dfeed mb x) c4) from fun W' hW => by
            have hb : Below Bn w W' := B6.out.trans (hW.mono (Nat.le_of_lt hbB))
            have hf := F6.out.below hW hbB
            have hc := C6.out.below hW hsB
            exact ⟨⟨(hb.cell (p := ⟨lb, lo + k * 2, none⟩) hlB).trans e0, (hb.cell (p := ⟨lb, lo + k * 2 + 1, none⟩) hlB).trans e1⟩, hf.cell 2, hc.cell 0, hc.cell 1, hc.cell 2, hc.cell 3⟩)
          have hr0 := HC.out.rng k hlt
          obtain ⟨r0, r1⟩ := hr0
          obtain ⟨bb, hbb⟩ : ∃ bb, bb = cf (ct k) := ⟨_, rfl⟩
          have HBB := Lib.hid hbb
          obtain ⟨xk, hxk⟩ : ∃ xk, xk = ct k := ⟨_, rfl⟩
          have HCX := Lib.hid (fun (V : World) (h : Row V V.heap.size A3 (dlen mb x) (fun j => .bool (HM.hb (pay (dz x)) j))) => HCOK.out V k hlt A3 A4 c3 c4 h)
          have hbb2 : cf xk = bb := by rw [hxk, hbb]
          rw [← hxk] at HE HCX r0 r1
          rw [hbb2] at HCX
          have HXK := Lib.hid hxk
          clear hlc e0 e1 hbb hbb2 hxk
          go_upto_region 17 with (fail)
          have hHeld : Below w6.heap.size w6 wr := GG.out.b
          refine wp_region_held_drew (S := fun w' => Below w6.heap.size w6 w') (by kernel_rfl) (GG.out.b.drew) (fun hHeld => ?_)
          obtain ⟨v0, hv0⟩ : ∃ v0, v0 = wr.drew := ⟨_, rfl⟩
          have D0 := Lib.hid (show Below wr.heap.size wr v0 from by rw [hv0]; exact (Below.refl _ _).drew)
          rw [← hv0]
          rw [← hv0] at hHeld
          clear hv0
          refine wpAnyH_take (i := 0) (oi := ⟨some 87, _, _, _, _, _⟩) (v := .agg #[.int .i64 0, .int .u32 (dfirst mb x), .slice A3 (dlen mb x) c3, .slice A4 (dfeed mb x) c4]) rfl (by kernel_rfl) (by kernel_rfl) (by kernel_rfl) (fun _ _ _ h => h) (Or.inl ⟨by rfl, fun W hW => (by obtain ⟨⟨u0, u1⟩, u2, u3, u4, u5, u6⟩ := HE.out W hW; go_simp)⟩) (by assumption) ?_
          try simp only [Act.put, List.setIfInBounds_toArray, List.set_cons_zero, List.set_cons_succ]
          refine wpAnyH_take (i := 1) (oi := ⟨some 88, _, _, _, _, _⟩) (v := .pointer (some ⟨Bn, 2, none⟩)) rfl (by kernel_rfl) (by kernel_rfl) (by kernel_rfl) (fun _ _ _ h => h) (Or.inl ⟨by rfl, fun W hW => (by go_simp)⟩) (by assumption) ?_
          try simp only [Act.put, List.setIfInBounds_toArray, List.set_cons_zero, List.set_cons_succ]
          refine wpAnyH_take (i := 2) (oi := ⟨some 89, _, _, _, _, _⟩) (v := .slice (some ⟨lb, lo, none⟩) m c1) rfl (by kernel_rfl) (by kernel_rfl) (by kernel_rfl) (fun _ _ _ h => h) (Or.inl ⟨by rfl, fun W hW => (by obtain ⟨⟨u0, u1⟩, u2, u3, u4, u5, u6⟩ := HE.out W hW; go_simp)⟩) (by assumption) ?_
          try simp only [Act.put, List.setIfInBounds_toArray, List.set_cons_zero, List.set_cons_succ]
          refine wpAnyH_take (i := 3) (oi := ⟨some 90, _, _, _, _, _⟩) (v := .int .i64 k) rfl (by kernel_rfl) (by kernel_rfl) (by kernel_rfl) (fun _ _ _ h => h) (Or.inl ⟨by rfl, fun W hW => (by rfl)⟩) (by assumption) ?_
          try simp only [Act.put, List.setIfInBounds_toArray, List.set_cons_zero, List.set_cons_succ]
          refine wpAnyH_take (i := 4) (oi := ⟨some 91, _, _, _, _, _⟩) (v := .pointer (some ⟨lb, lo + k * 2, none⟩)) rfl (by kernel_rfl) (by kernel_rfl) (by kernel_rfl) (fun _ _ _ h => h) (Or.inl ⟨by rfl, fun W hW => (by go_simp)⟩) (by assumption) ?_
          try simp only [Act.put, List.setIfInBounds_toArray, List.set_cons_zero, List.set_cons_succ]
          refine wpAnyH_take (i := 5) (oi := ⟨some 92, _, _, _, _, _⟩) (v := .pointer (some ⟨lb, lo + k * 2, none⟩)) rfl (by kernel_rfl) (by kernel_rfl) (by kernel_rfl) (fun _ _ _ h => h) (Or.inl ⟨by rfl, fun W hW => (by go_simp)⟩) (by assumption) ?_
          try simp only [Act.put, List.setIfInBounds_toArray, List.set_cons_zero, List.set_cons_succ]
          refine wpAnyH_take (i := 6) (oi := ⟨some 93, _, _, _, _, _⟩) (v := .int .u32 xk) rfl (by kernel_rfl) (by kernel_rfl) (by kernel_rfl) (fun _ _ _ h => h) (Or.inl ⟨by rfl, fun W hW => (by obtain ⟨⟨u0, u1⟩, u2, u3, u4, u5, u6⟩ := HE.out W hW; go_simp)⟩) (by assumption) ?_
          try simp only [Act.put, List.setIfInBounds_toArray, List.set_cons_zero, List.set_cons_succ]
          refine wpAnyH_ready (rs := [7]) (by kernel_rfl) (by simp) ?_
          refine AllReadyH.cons (o := ⟨some 94, _, _, _, _, _⟩) rfl (fun K hK => ?_) AllReadyH.nil
          rw [if_pos (by rfl)]
          go_simp
          refine (HCX.out v0 (R6.out.next hHeld)).mono ?_
          rintro e v1 ⟨rfl, hbk⟩
          dsimp only
          have D1 := Lib.hid hbk
          refine hK.out _ _ (hHeld.trans (hbk.mono hHeld.size)) (fun hHeld => ?_)
          clear hK K hbk
          try simp only [Act.put, List.setIfInBounds_toArray, List.set_cons_zero, List.set_cons_succ]
          refine wpAnyH_take (i := 8) (oi := ⟨some 95, _, _, _, _, _⟩) (v := .bool (!bb)) rfl (by kernel_rfl) (by kernel_rfl) (by kernel_rfl) (fun _ _ _ h => h) (Or.inl ⟨by rfl, fun W hW => (by go_simp)⟩) (by assumption) ?_
          try simp only [Act.put, List.setIfInBounds_toArray, List.set_cons_zero, List.set_cons_succ]
          refine wpAnyH_done (by kernel_rfl) ?_ _
          cases bb
          · go_upto_region 18 with (fail)
            have G1 := Lib.hid ((GG.out.below D0.out).below D1.out)
            have W1b := Lib.hid (show Below w6.heap.size w6 v1 from G1.out.b)
            have hgb6 : w6.heap.size ≤ gb := G1.out.gfr
            have hgl1 : gb < v1.heap.size := G1.out.blk.lt
            have hsz1 : w6.heap.size ≤ v1.heap.size := W1b.out.size
            have HE8 := Lib.hid (show ∀ W', KeepF (fun j => j = gb ∨ ∃ a, gA = some a ∧ j = a.block) v1 W' → (W'.cell? ⟨lb, lo + k * 2, none⟩ = some (.int .u32 xk) ∧ W'.cell? ⟨lb, lo + k * 2 + 1, none⟩ = some (.slice (PA k) (pn k) (pc k))) ∧ W'.cell? ⟨Bn, 2, none⟩ = some (.slice (some ⟨lb, lo, none⟩) m c1) from fun W' hW => by
              obtain ⟨⟨u0, u1⟩, u2, _⟩ := HE.out v1 W1b.out
              have hno : ∀ j, j < w6.heap.size → ¬ (j = gb ∨ ∃ a, gA = some a ∧ j = a.block) := fun j hj h => by
                rcases h with h | ⟨a, ha, h⟩
                · omega
                · have := G1.out.fr a ha; omega
              exact ⟨⟨(hW.cell (p := ⟨lb, lo + k * 2, none⟩) (by show lb < _; omega) (hno lb (by omega))).trans u0, (hW.cell (p := ⟨lb, lo + k * 2 + 1, none⟩) (by show lb < _; omega) (hno lb (by omega))).trans u1⟩, (hW.cell (p := ⟨Bn, 2, none⟩) (by show Bn < _; omega) (hno Bn hbB)).trans u2⟩)
            have y0 : Below v1.heap.size v1 v1.drew := (Below.refl _ _).drew
            obtain ⟨ic, hic, hicz, hics, hicb⟩ := infoCnt
            refine wp_region_held_drew (S := fun w' => KeepF (fun j => j = gb ∨ ∃ a, gA = some a ∧ j = a.block) v1 w') (by kernel_rfl) ((KeepF.refl (w := v1)).drew) (fun hHeld => ?_)
            obtain ⟨w0, hw0⟩ : ∃ w0, w0 = v1.drew := ⟨_, rfl⟩
            have T0 : GI w6 gb nx us A2 mq c2 gA gc lp w0 := by rw [hw0]; exact G1.out.below y0
            have hb0 : Below v1.heap.size v1 w0 := by rw [hw0]; exact y0
            rw [← hw0]
            rw [← hw0] at hHeld
            clear hw0 y0
            obtain ⟨pl, hpl⟩ : ∃ pl, pl = lp.length := ⟨_, rfl⟩
            have HPL2 := Lib.hid hpl
            have HPL : Hid (pl ≤ k) := Lib.hid (by omega)
            have HKE := Lib.hid (HKS.out k HBB.out.symm)
            have HGE := Lib.hid (show gPE ct PA pn pc z k = ⟨⟨xk, pn k, z k, true⟩, PA k, pc k⟩ from by rw [HXK.out]; rfl)
            clear hpl
            refine wpAnyH_take (i := 0) (oi := ⟨some 96, _, _, _, _, _⟩) (v := .pointer (some ⟨gb, 2, none⟩)) rfl (by kernel_rfl) (by kernel_rfl) (by kernel_rfl) (fun _ _ _ h => h) (Or.inl ⟨by rfl, fun W hW => (by go_simp)⟩) (by assumption) ?_
            try simp only [Act.put, List.setIfInBounds_toArray, List.set_cons_zero, List.set_cons_succ]
            refine wpAnyH_take (i := 2) (oi := ⟨some 98, _, _, _, _, _⟩) (v := .pointer (some ⟨Bn, 2, none⟩)) rfl (by kernel_rfl) (by kernel_rfl) (by kernel_rfl) (fun _ _ _ h => h) (Or.inl ⟨by rfl, fun W hW => (by go_simp)⟩) (by assumption) ?_
            try simp only [Act.put, List.setIfInBounds_toArray, List.set_cons_zero, List.set_cons_succ]
            refine wpAnyH_take (i := 3) (oi := ⟨some 99, _, _, _, _, _⟩) (v := .slice (some ⟨lb, lo, none⟩) m c1) rfl (by kernel_rfl) (by kernel_rfl) (by kernel_rfl) (fun _ _ _ h => h) (Or.inl ⟨by rfl, fun W hW => (by obtain ⟨⟨u0, u1⟩, u2⟩ := HE8.out W hW; go_simp)⟩) (by assumption) ?_
            try simp only [Act.put, List.setIfInBounds_toArray, List.set_cons_zero, List.set_cons_succ]
            refine wpAnyH_take (i := 4) (oi := ⟨some 100, _, _, _, _, _⟩) (v := .int .i64 k) rfl (by kernel_rfl) (by kernel_rfl) (by kernel_rfl) (fun _ _ _ h => h) (Or.inl ⟨by rfl, fun W hW => (by rfl)⟩) (by assumption) ?_
            try simp only [Act.put, List.setIfInBounds_toArray, List.set_cons_zero, List.set_cons_succ]
            refine wpAnyH_take (i := 5) (oi := ⟨some 101, _, _, _, _, _⟩) (v := .pointer (some ⟨lb, lo + k * 2, none⟩)) rfl (by kernel_rfl) (by kernel_rfl) (by kernel_rfl) (fun _ _ _ h => h) (Or.inl ⟨by rfl, fun W hW => (by go_simp)⟩) (by assumption) ?_
            try simp only [Act.put, List.setIfInBounds_toArray, List.set_cons_zero, List.set_cons_succ]
            refine wpAnyH_take (i := 6) (oi := ⟨some 102, _, _, _, _, _⟩) (v := .agg #[.int .u32 xk, .slice (PA k) (pn k) (pc k)]) rfl (by kernel_rfl) (by kernel_rfl) (by kernel_rfl) (fun _ _ _ h => h) (Or.inl ⟨by rfl, fun W hW => (by obtain ⟨⟨u0, u1⟩, u2⟩ := HE8.out W hW; go_simp)⟩) (by assumption) ?_
            try simp only [Act.put, List.setIfInBounds_toArray, List.set_cons_zero, List.set_cons_succ]
            refine wpAnyH_ready (rs := [1, 7]) (by kernel_rfl) (by simp) ?_
            refine AllReadyH.cons (o := ⟨some 97, _, _, _, _, _⟩) rfl (fun K hK => ?_) (AllReadyH.cons (o := ⟨some 103, _, _, _, _, _⟩) rfl (fun K hK => ?_) AllReadyH.nil)
            · rw [if_pos (by rfl)]
              have h43 := T0.blk.cell 2
              simp at h43
              rw [← HPL2.out] at h43
              go_simp
              refine hK.out _ _ hHeld (fun hHeld => ?_)
              clear hK K h43
              try simp only [Act.put, List.setIfInBounds_toArray, List.set_cons_zero, List.set_cons_succ]
              refine wpAnyH_ready (rs := [7]) (by kernel_rfl) (by simp) ?_
              refine AllReadyH.cons (o := ⟨some 103, _, _, _, _, _⟩) rfl (fun K hK => ?_) AllReadyH.nil
              rw [if_pos (by rfl)]
              go_simp
              obtain ⟨w1', hv⟩ : ∃ X, X = w0.alloc (.cells #[.int .u32 xk, .slice (PA k) (pn k) (pc k)] 50) := ⟨_, rfl⟩
              obtain ⟨nb, hnb⟩ : ∃ nb, nb = w0.heap.size := ⟨_, rfl⟩
              have hbk : Below w0.heap.size w0 w1' := by rw [hv]; exact (Below.refl _ _).alloc (Nat.le_refl _) _
              have hNB : Blk w1' nb 50 #[.int .u32 xk, .slice (PA k) (pn k) (pc k)] := by rw [hv, hnb]; exact Blk.new _ _ _
              have T1 := T0.below hbk
              rw [← hv, ← hnb]
              refine hK.out _ _ (hHeld.more hbk) (fun hHeld => ?_)
              clear hK K hbk hv hnb
              try simp only [Act.put, List.setIfInBounds_toArray, List.set_cons_zero, List.set_cons_succ]
              refine wpAnyH_ready (rs := [8]) (by kernel_rfl) (by simp) ?_
              refine AllReadyH.cons (o := ⟨some 104, _, _, _, _, _⟩) rfl (fun K hK => ?_) AllReadyH.nil
              rw [if_pos (by rfl)]
              have hSL := T1.p
              rw [← HPL2.out] at hSL
              refine wp_sl_append _ _ _ _ rfl w1' 50 ic (.agg #[.int .u32 0, .slice none 0 0]) 2 32 Try.underlying23 hic hicz hics hicb rfl gA pl gc (lp.flatMap PE.cc) rfl hSL _ rfl 1 [.int .u32 xk, .slice (PA k) (pn k) (pc k)] (Src.ofSlice _ Try.underlying23 ⟨nb, 0, none⟩ 1 1 _ rfl (fun j u hu => by
                  have hj : j < 2 := (List.getElem?_eq_some_iff.1 hu).1
                  rw [Addr.add_lit, Nat.zero_add, hNB.cell j]
                  simpa using hu) (by simp [Value.oneCell'])) (by decide) (by unfold maxLen; have := HPL.out; omega) (by have := HPL.out; omega) ?_
              intro A9 c9 wA hSL9 hK9 hA9
              dsimp only
              have hA9n : ∀ a, A9 = some a → (∃ a', gA = some a' ∧ a.block = a'.block) ∨ w1'.heap.size ≤ a.block := hA9
              refine hK.out _ _ (hHeld.trans hK9 (fun j _ hj => .inr hj)) (fun hHeld => ?_)
              clear hK K
              try simp only [Act.put, List.setIfInBounds_toArray, List.set_cons_zero, List.set_cons_succ]
              refine wpAnyH_take (i := 9) (oi := ⟨some 105, _, _, _, _, _⟩) (v := .pointer (some ⟨gb, 2, none⟩)) rfl (by kernel_rfl) (by kernel_rfl) (by kernel_rfl) (fun _ _ _ h => h) (Or.inl ⟨by rfl, fun W hW => (by go_simp)⟩) (by assumption) ?_
              try simp only [Act.put, List.setIfInBounds_toArray, List.set_cons_zero, List.set_cons_succ]
              refine wpAnyH_ready (rs := [10]) (by kernel_rfl) (by simp) ?_
              refine AllReadyH.cons (o := ⟨none, _, _, _, _, _⟩) rfl (fun K hK => ?_) AllReadyH.nil
              rw [if_pos (by rfl)]
              have hg9 : Blk wA gb 26 _ := hK9.blk T1.blk (fun ⟨a, ha, e⟩ => T1.gp a ha e)
              have hc43 := hg9.cell 2
              have hf43 := hg9.frozen 2
              simp at hc43
              have hlen9 : (lp ++ [(⟨⟨xk, pn k, z k, true⟩, PA k, pc k⟩ : PE)]).length = pl + 1 := by rw [List.length_append, HPL2.out]; rfl
              have hSL9' : SL wA 50 2 A9 (lp ++ [(⟨⟨xk, pn k, z k, true⟩, PA k, pc k⟩ : PE)]).length c9 ((lp ++ [(⟨⟨xk, pn k, z k, true⟩, PA k, pc k⟩ : PE)]).flatMap PE.cc) := by
                rw [hlen9, List.flatMap_append]
                exact hSL9
              have TF := T1.set_ hK9 hA9n hSL9'
              rw [hlen9] at TF
              have HTF := Lib.hid TF
              have HVF := Lib.hid (show lp ++ [(⟨⟨xk, pn k, z k, true⟩, PA k, pc k⟩ : PE)] = KP (k + 1) from by rw [HKE.out, HGE.out, HLP.out])
              have hS9 : KeepF (fun j => j = gb ∨ ∃ a, gA = some a ∧ j = a.block) v1 (wA.setCell ⟨gb, 2, none⟩ (.slice A9 (pl + 1) c9)) := hHeld.setCell (p := ⟨gb, 2, none⟩) (.inl rfl) _
              clear TF hSL9 hSL9' hK9 hA9 hA9n hg9 hSL
              go_simp
              refine hK.out _ _ hS9 (fun hHeld => ?_)
              clear hK K hS9
              try simp only [Act.put]
              refine wpAnyH_done (by kernel_rfl) ?_ _
              go_wp2
              go_roundw
              case rel => exact ⟨k + 1, _, _, _, by omega, by go_num, HTF.out, HVF.out⟩
              case measure => simp [intOf]; omega
            · rw [if_pos (by rfl)]
              go_simp
              obtain ⟨w1', hv⟩ : ∃ X, X = w0.alloc (.cells #[.int .u32 xk, .slice (PA k) (pn k) (pc k)] 50) := ⟨_, rfl⟩
              obtain ⟨nb, hnb⟩ : ∃ nb, nb = w0.heap.size := ⟨_, rfl⟩
              have hbk : Below w0.heap.size w0 w1' := by rw [hv]; exact (Below.refl _ _).alloc (Nat.le_refl _) _
              have hNB : Blk w1' nb 50 #[.int .u32 xk, .slice (PA k) (pn k) (pc k)] := by rw [hv, hnb]; exact Blk.new _ _ _
              have T1 := T0.below hbk
              rw [← hv, ← hnb]
              refine hK.out _ _ (hHeld.more hbk) (fun hHeld => ?_)
              clear hK K hbk hv hnb
              try simp only [Act.put, List.setIfInBounds_toArray, List.set_cons_zero, List.set_cons_succ]
              refine wpAnyH_ready (rs := [1]) (by kernel_rfl) (by simp) ?_
              refine AllReadyH.cons (o := ⟨some 97, _, _, _, _, _⟩) rfl (fun K hK => ?_) AllReadyH.nil
              rw [if_pos (by rfl)]
              have h43 := T1.blk.cell 2
              simp at h43
              rw [← HPL2.out] at h43
              go_simp
              refine hK.out _ _ hHeld (fun hHeld => ?_)
              clear hK K h43
              try simp only [Act.put, List.setIfInBounds_toArray, List.set_cons_zero, List.set_cons_succ]
              refine wpAnyH_ready (rs := [8]) (by kernel_rfl) (by simp) ?_
              refine AllReadyH.cons (o := ⟨some 104, _, _, _, _, _⟩) rfl (fun K hK => ?_) AllReadyH.nil
              rw [if_pos (by rfl)]
              have hSL := T1.p
              rw [← HPL2.out] at hSL
              refine wp_sl_append _ _ _ _ rfl w1' 50 ic (.agg #[.int .u32 0, .slice none 0 0]) 2 32 Try.underlying23 hic hicz hics hicb rfl gA pl gc (lp.flatMap PE.cc) rfl hSL _ rfl 1 [.int .u32 xk, .slice (PA k) (pn k) (pc k)] (Src.ofSlice _ Try.underlying23 ⟨nb, 0, none⟩ 1 1 _ rfl (fun j u hu => by
                  have hj : j < 2 := (List.getElem?_eq_some_iff.1 hu).1
                  rw [Addr.add_lit, Nat.zero_add, hNB.cell j]
                  simpa using hu) (by simp [Value.oneCell'])) (by decide) (by unfold maxLen; have := HPL.out; omega) (by have := HPL.out; omega) ?_
              intro A9 c9 wA hSL9 hK9 hA9
              dsimp only
              have hA9n : ∀ a, A9 = some a → (∃ a', gA = some a' ∧ a.block = a'.block) ∨ w1'.heap.size ≤ a.block := hA9
              refine hK.out _ _ (hHeld.trans hK9 (fun j _ hj => .inr hj)) (fun hHeld => ?_)
              clear hK K
              try simp only [Act.put, List.setIfInBounds_toArray, List.set_cons_zero, List.set_cons_succ]
              refine wpAnyH_take (i := 9) (oi := ⟨some 105, _, _, _, _, _⟩) (v := .pointer (some ⟨gb, 2, none⟩)) rfl (by kernel_rfl) (by kernel_rfl) (by kernel_rfl) (fun _ _ _ h => h) (Or.inl ⟨by rfl, fun W hW => (by go_simp)⟩) (by assumption) ?_
              try simp only [Act.put, List.setIfInBounds_toArray, List.set_cons_zero, List.set_cons_succ]
              refine wpAnyH_ready (rs := [10]) (by kernel_rfl) (by simp) ?_
              refine AllReadyH.cons (o := ⟨none, _, _, _, _, _⟩) rfl (fun K hK => ?_) AllReadyH.nil
              rw [if_pos (by rfl)]
              have hg9 : Blk wA gb 26 _ := hK9.blk T1.blk (fun ⟨a, ha, e⟩ => T1.gp a ha e)
              have hc43 := hg9.cell 2
              have hf43 := hg9.frozen 2
              simp at hc43
              have hlen9 : (lp ++ [(⟨⟨xk, pn k, z k, true⟩, PA k, pc k⟩ : PE)]).length = pl + 1 := by rw [List.length_append, HPL2.out]; rfl
              have hSL9' : SL wA 50 2 A9 (lp ++ [(⟨⟨xk, pn k, z k, true⟩, PA k, pc k⟩ : PE)]).length c9 ((lp ++ [(⟨⟨xk, pn k, z k, true⟩, PA k, pc k⟩ : PE)]).flatMap PE.cc) := by
                rw [hlen9, List.flatMap_append]
                exact hSL9
              have TF := T1.set_ hK9 hA9n hSL9'
              rw [hlen9] at TF
              have HTF := Lib.hid TF
              have HVF := Lib.hid (show lp ++ [(⟨⟨xk, pn k, z k, true⟩, PA k, pc k⟩ : PE)] = KP (k + 1) from by rw [HKE.out, HGE.out, HLP.out])
              have hS9 : KeepF (fun j => j = gb ∨ ∃ a, gA = some a ∧ j = a.block) v1 (wA.setCell ⟨gb, 2, none⟩ (.slice A9 (pl + 1) c9)) := hHeld.setCell (p := ⟨gb, 2, none⟩) (.inl rfl) _
              clear TF hSL9 hSL9' hK9 hA9 hA9n hg9 hSL
              go_simp
              refine hK.out _ _ hS9 (fun hHeld => ?_)
              clear hK K hS9
              try simp only [Act.put]
              refine wpAnyH_done (by kernel_rfl) ?_ _
              go_wp2
              go_roundw
              case rel => exact ⟨k + 1, _, _, _, by omega, by go_num, HTF.out, HVF.out⟩
              case measure => simp [intOf]; omega
          · go_wp2
            go_roundw
            case rel => exact ⟨k + 1, _, _, _, by omega, by go_num, (GG.out.below D0.out).below D1.out, by rw [HLP.out, HKN.out k HBB.out.symm]⟩
            case measure => simp [intOf]; omega
        · obtain rfl : k = m := by omega
          have hlv : lp.map (·.v) = (resP k ct pn z).filter (fun e => !cf e.ct) := by rw [HLP.out]; exact HKV.out
          have HLV := Lib.hid hlv
          obtain ⟨pl, hpl⟩ : ∃ pl, pl = lp.length := ⟨_, rfl⟩
          have hN : N = (k : Int) - (pl : Int) := by rw [hpl, HLP.out]; exact HNC2.out
          have HPL := Lib.hid hpl
          have hpl40 : pl ≤ 40 := by omega
          have hwr : Bn ≤ wr.heap.size := by have := GG.out.b.size; omega
          have HEX2 := Lib.hid (fun (V : World) (hb : Below wr.heap.size wr V) => export_cmp g _ W4 R4 V ((T6.out.below GG.out.b).below hb) (by show ((resP k ct pn z).filter (fun e => !cf e.ct)).length ≤ 1000000 ∧ (resQ mq qn y).length ≤ 1000000; rw [← HLV.out, List.length_map, resQ_len]; omega) nx us (next_mod HF.out HNX.out).1 (next_mod HF.out HNX.out).2 gA A2 pl mq (by show ((resP k ct pn z).filter (fun e => !cf e.ct)).length = pl; rw [← HLV.out, List.length_map, HPL.out]) (resQ_len mq qn y)
            (fun j e he => by
              have he : ((resP k ct pn z).filter (fun e => !cf e.ct))[j]? = some e := he
              rw [← HLV.out, List.getElem?_map] at he
              cases hq : lp[j]? with
              | none => rw [hq] at he; cases he
              | some pe =>
                rw [hq] at he
                have hev : pe.v = e := by simpa using he
                subst hev
                have hjl : j < lp.length := (List.getElem?_eq_some_iff.1 hq).1
                obtain ⟨i, hi, hpi⟩ := HKM.out pe (by rw [← HLP.out]; exact List.mem_of_getElem? hq)
                have hrow := (HC.out.below (by rw [← HBN.out]; exact (B6.out.trans (GG.out.b.mono (Nat.le_of_lt hbB))).trans (hb.mono hwr))).row i hi
                exact ce2_sl (GG.out.below hb).p hq hjl (by rw [hpi]; exact hrow))
            (fun j e he => by
              obtain ⟨hj, rfl⟩ := resQ_at mq qn y j e he
              exact brows_be2 (HQ.out.below (by rw [← HBN.out]; exact (B6.out.trans (GG.out.b.mono (Nat.le_of_lt hbB))).trans (hb.mono hwr))) hj))
          have HSF2 := Lib.hid (fun (V : World) (pA qA : Option Addr) (pc' qc' : Nat) (h1 : SameC V pA gA pl) (h2 : SameB V qA A2 mq) => samef_true nx us pA gA qA A2 pl pc' gc mq qc' c2 V (by unfold maxLen; omega) (by unfold maxLen; omega) h1 h2)
          have HS9 := Lib.hid (show ∀ W', Below wr.heap.size wr W' → W'.cell? ⟨Bn, 2, none⟩ = some (.slice A k c1) ∧ W'.cell? ⟨gb, 0, none⟩ = some (.int .u32 nx) ∧ W'.cell? ⟨gb, 1, none⟩ = some (.bool us) ∧ W'.cell? ⟨gb, 2, none⟩ = some (.slice gA pl gc) ∧ W'.cell? ⟨gb, 3, none⟩ = some (.slice A2 mq c2) from fun W' hW => by
            have h1 := F7.out.below hW F7.out.lt
            have h2 := (GG.out.below hW).blk
            rw [← HPL.out] at h2
            exact ⟨h1.cell 2, h2.cell 0, h2.cell 1, h2.cell 2, h2.cell 3⟩)
          have hpk : pl ≤ k := by omega
          have HWR := Lib.hid (show IntKind.i64.wrap ((k : Int) - (pl : Int)) = (k : Int) - (pl : Int) from by simp [IntKind.wrap, IntKind.signed, IntKind.bits]; omega)
          clear hlv hpl HSF HEX f2
          have k1 : ¬ (k : Int) < (k : Int) := by omega
          have f2' := (HS9.out wr (Below.refl _ _)).1
          go_upto_region 19 with (fail)
          clear f2'
          refine wp_region_held_drew (S := fun w' => Below wr.heap.size wr w') (by kernel_rfl) ((Below.refl _ wr).drew) (fun hHeld => ?_)
          obtain ⟨v0, hv0⟩ : ∃ v0, v0 = wr.drew := ⟨_, rfl⟩
          have D0 := Lib.hid (show Below wr.heap.size wr v0 from by rw [hv0]; exact (Below.refl _ _).drew)
          rw [← hv0]
          rw [← hv0] at hHeld
          clear hv0
          refine wpAnyH_take (i := 0) (oi := ⟨some 106, _, _, _, _, _⟩) (v := .int .i64 0) rfl (by kernel_rfl) (by kernel_rfl) (by kernel_rfl) (fun _ _ _ h => h) (Or.inl ⟨by rfl, fun W hW => (by rfl)⟩) (by assumption) ?_
          try simp only [Act.put, List.setIfInBounds_toArray, List.set_cons_zero, List.set_cons_succ]
          refine wpAnyH_take (i := 1) (oi := ⟨some 107, _, _, _, _, _⟩) (v := .bool true) rfl (by kernel_rfl) (by kernel_rfl) (by kernel_rfl) (fun _ _ _ h => h) (Or.inl ⟨by rfl, fun W hW => (by go_simp)⟩) (by assumption) ?_
          try simp only [Act.put, List.setIfInBounds_toArray, List.set_cons_zero, List.set_cons_succ]
          refine wpAnyH_take (i := 2) (oi := ⟨some 108, _, _, _, _, _⟩) (v := .bool true) rfl (by kernel_rfl) (by kernel_rfl) (by kernel_rfl) (fun _ _ _ h => h) (Or.inl ⟨by rfl, fun W hW => (by rfl)⟩) (by assumption) ?_
          try simp only [Act.put, List.setIfInBounds_toArray, List.set_cons_zero, List.set_cons_succ]
          refine wpAnyH_take (i := 3) (oi := ⟨some 109, _, _, _, _, _⟩) (v := .int .i64 N) rfl (by kernel_rfl) (by kernel_rfl) (by kernel_rfl) (fun _ _ _ h => h) (Or.inl ⟨by rfl, fun W hW => (by rfl)⟩) (by assumption) ?_
          try simp only [Act.put, List.setIfInBounds_toArray, List.set_cons_zero, List.set_cons_succ]
          refine wpAnyH_take (i := 4) (oi := ⟨some 110, _, _, _, _, _⟩) (v := .pointer (some ⟨Bn, 2, none⟩)) rfl (by kernel_rfl) (by kernel_rfl) (by kernel_rfl) (fun _ _ _ h => h) (Or.inl ⟨by rfl, fun W hW => (by go_simp)⟩) (by assumption) ?_
          try simp only [Act.put, List.setIfInBounds_toArray, List.set_cons_zero, List.set_cons_succ]
          refine wpAnyH_take (i := 5) (oi := ⟨some 111, _, _, _, _, _⟩) (v := .slice A k c1) rfl (by kernel_rfl) (by kernel_rfl) (by kernel_rfl) (fun _ _ _ h => h) (Or.inl ⟨by rfl, fun W hW => (by obtain ⟨u0, u1, u2, u3, u4⟩ := HS9.out W hW; go_simp)⟩) (by assumption) ?_
          try simp only [Act.put, List.setIfInBounds_toArray, List.set_cons_zero, List.set_cons_succ]
          refine wpAnyH_take (i := 6) (oi := ⟨some 112, _, _, _, _, _⟩) (v := .int .i64 k) rfl (by kernel_rfl) (by kernel_rfl) (by kernel_rfl) (fun _ _ _ h => h) (Or.inl ⟨by rfl, fun W hW => (by go_simp)⟩) (by assumption) ?_
          try simp only [Act.put, List.setIfInBounds_toArray, List.set_cons_zero, List.set_cons_succ]
          refine wpAnyH_take (i := 7) (oi := ⟨some 113, _, _, _, _, _⟩) (v := .pointer (some ⟨gb, 2, none⟩)) rfl (by kernel_rfl) (by kernel_rfl) (by kernel_rfl) (fun _ _ _ h => h) (Or.inl ⟨by rfl, fun W hW => (by go_simp)⟩) (by assumption) ?_
          try simp only [Act.put, List.setIfInBounds_toArray, List.set_cons_zero, List.set_cons_succ]
          refine wpAnyH_take (i := 8) (oi := ⟨some 114, _, _, _, _, _⟩) (v := .slice gA pl gc) rfl (by kernel_rfl) (by kernel_rfl) (by kernel_rfl) (fun _ _ _ h => h) (Or.inl ⟨by rfl, fun W hW => (by obtain ⟨u0, u1, u2, u3, u4⟩ := HS9.out W hW; go_simp)⟩) (by assumption) ?_
          try simp only [Act.put, List.setIfInBounds_toArray, List.set_cons_zero, List.set_cons_succ]
          refine wpAnyH_take (i := 9) (oi := ⟨some 115, _, _, _, _, _⟩) (v := .int .i64 pl) rfl (by kernel_rfl) (by kernel_rfl) (by kernel_rfl) (fun _ _ _ h => h) (Or.inl ⟨by rfl, fun W hW => (by go_simp)⟩) (by assumption) ?_
          try simp only [Act.put, List.setIfInBounds_toArray, List.set_cons_zero, List.set_cons_succ]
          refine wpAnyH_take (i := 10) (oi := ⟨some 116, _, _, _, _, _⟩) (v := .int .i64 N) rfl (by kernel_rfl) (by kernel_rfl) (by kernel_rfl) (fun _ _ _ h => h) (Or.inl ⟨by rfl, fun W hW => (by go_simp; exact HWR.out)⟩) (by assumption) ?_
          try simp only [Act.put, List.setIfInBounds_toArray, List.set_cons_zero, List.set_cons_succ]
          refine wpAnyH_take (i := 11) (oi := ⟨some 117, _, _, _, _, _⟩) (v := .bool true) rfl (by kernel_rfl) (by kernel_rfl) (by kernel_rfl) (fun _ _ _ h => h) (Or.inl ⟨by rfl, fun W hW => (by go_simp)⟩) (by assumption) ?_
          try simp only [Act.put, List.setIfInBounds_toArray, List.set_cons_zero, List.set_cons_succ]
          refine wpAnyH_take (i := 12) (oi := ⟨some 118, _, _, _, _, _⟩) (v := .bool true) rfl (by kernel_rfl) (by kernel_rfl) (by kernel_rfl) (fun _ _ _ h => h) (Or.inl ⟨by rfl, fun W hW => (by go_simp)⟩) (by assumption) ?_
          try simp only [Act.put, List.setIfInBounds_toArray, List.set_cons_zero, List.set_cons_succ]
          refine wpAnyH_take (i := 13) (oi := ⟨some 119, _, _, _, _, _⟩) (v := .bool true) rfl (by kernel_rfl) (by kernel_rfl) (by kernel_rfl) (fun _ _ _ h => h) (Or.inl ⟨by rfl, fun W hW => (by rfl)⟩) (by assumption) ?_
          try simp only [Act.put, List.setIfInBounds_toArray, List.set_cons_zero, List.set_cons_succ]
          refine wpAnyH_take (i := 14) (oi := ⟨some 120, _, _, _, _, _⟩) (v := .pointer (some ⟨g, 0, none⟩)) rfl (by kernel_rfl) (by kernel_rfl) (by kernel_rfl) (fun _ _ _ h => h) (Or.inl ⟨by rfl, fun W hW => (by rfl)⟩) (by assumption) ?_
          try simp only [Act.put, List.setIfInBounds_toArray, List.set_cons_zero, List.set_cons_succ]
          refine wpAnyH_take (i := 16) (oi := ⟨some 122, _, _, _, _, _⟩) (v := .agg #[.int .u32 nx, .bool us, .slice gA pl gc, .slice A2 mq c2]) rfl (by kernel_rfl) (by kernel_rfl) (by kernel_rfl) (fun _ _ _ h => h) (Or.inl ⟨by rfl, fun W hW => (by obtain ⟨u0, u1, u2, u3, u4⟩ := HS9.out W hW; go_simp)⟩) (by assumption) ?_
          try simp only [Act.put, List.setIfInBounds_toArray, List.set_cons_zero, List.set_cons_succ]
          refine wpAnyH_ready (rs := [15]) (by kernel_rfl) (by simp) ?_
          refine AllReadyH.cons (o := ⟨some 121, _, _, _, _, _⟩) rfl (fun K hK => ?_) AllReadyH.nil
          rw [if_pos (by rfl)]
          go_simp
          refine (HEX2.out _ D0.out).mono ?_
          rintro e v1 ⟨pA, pc', qA, qc', rfl, hC1, hC2, hbk⟩
          dsimp only
          have HC1 := Lib.hid hC1
          have HC2 := Lib.hid hC2
          refine hK.out _ _ (hHeld.trans (hbk.mono hHeld.size)) (fun hHeld => ?_)
          clear hK K hbk hC1 hC2
          try simp only [Act.put, List.setIfInBounds_toArray, List.set_cons_zero, List.set_cons_succ]
          refine wpAnyH_ready (rs := [17]) (by kernel_rfl) (by simp) ?_
          refine AllReadyH.cons (o := ⟨some 123, _, _, _, _, _⟩) rfl (fun K hK => ?_) AllReadyH.nil
          rw [if_pos (by rfl)]
          go_simp
          refine (HSF2.out _ pA qA pc' qc' HC1.out HC2.out).mono ?_
          rintro e v2 ⟨rfl, hbk⟩
          dsimp only
          refine hK.out _ _ (hHeld.trans (hbk.mono hHeld.size)) (fun hHeld => ?_)
          clear hK K hbk
          try simp only [Act.put, List.setIfInBounds_toArray, List.set_cons_zero, List.set_cons_succ]
          refine wpAnyH_take (i := 18) (oi := ⟨some 124, _, _, _, _, _⟩) (v := .bool true) rfl (by kernel_rfl) (by kernel_rfl) (by kernel_rfl) (fun _ _ _ h => h) (Or.inl ⟨by rfl, fun W hW => (by go_simp)⟩) (by assumption) ?_
          try simp only [Act.put, List.setIfInBounds_toArray, List.set_cons_zero, List.set_cons_succ]
          refine wpAnyH_take (i := 19) (oi := ⟨some 125, _, _, _, _, _⟩) (v := .bool true) rfl (by kernel_rfl) (by kernel_rfl) (by kernel_rfl) (fun _ _ _ h => h) (Or.inl ⟨by rfl, fun W hW => (by rfl)⟩) (by assumption) ?_
          try simp only [Act.put, List.setIfInBounds_toArray, List.set_cons_zero, List.set_cons_succ]
          refine wpAnyH_ready (rs := [20]) (by kernel_rfl) (by simp) ?_
          refine AllReadyH.cons (o := ⟨some 126, _, _, _, _, _⟩) rfl (fun K hK => ?_) AllReadyH.nil
          rw [if_pos (by rfl)]
          go_simp
          refine (HK.out _).mono ?_
          rintro e v3 ⟨rfl, hbk⟩
          dsimp only
          refine hK.out _ _ (hHeld.trans (hbk.mono hHeld.size)) (fun hHeld => ?_)
          clear hK K hbk
          try simp only [Act.put, List.setIfInBounds_toArray, List.set_cons_zero, List.set_cons_succ]
          refine wpAnyH_take (i := 21) (oi := ⟨some 127, _, _, _, _, _⟩) (v := .bool true) rfl (by kernel_rfl) (by kernel_rfl) (by kernel_rfl) (fun _ _ _ h => h) (Or.inl ⟨by rfl, fun W hW => (by go_simp)⟩) (by assumption) ?_
          try simp only [Act.put, List.setIfInBounds_toArray, List.set_cons_zero, List.set_cons_succ]
          refine wpAnyH_take (i := 22) (oi := ⟨some 4, _, _, _, _, _⟩) (v := .bool true) rfl (by kernel_rfl) (by kernel_rfl) (by kernel_rfl) (fun _ _ _ h => h) (Or.inl ⟨by rfl, fun W hW => (by go_simp)⟩) (by assumption) ?_
          try simp only [Act.put, List.setIfInBounds_toArray, List.set_cons_zero, List.set_cons_succ]
          refine wpAnyH_done (by kernel_rfl) ?_ _
          have HBF := Lib.hid ((B6.out.trans (GG.out.b.mono (Nat.le_of_lt hbB))).trans (hHeld.mono hwr))
          clear hHeld
          go_wp2
          go_ret
          exact ⟨rfl, HBF.out.mono (Nat.le_of_eq HBN.out.symm)⟩
  · have HRS := Lib.hid (fun (V : World) (hb : Below Bn w V) => tresume_no cfA A A2 m c1 mq c2 nx us ct PA pn pc z QA qn qc y V HNX.out (by unfold maxLen; omega) (by unfold maxLen; omega) (HC.out.below (by rw [← HBN.out]; exact hb)) (HQ.out.below (by rw [← HBN.out]; exact hb)) (fun h => hf h.2))
    rw [cfA_lit] at HRS
    clear hf
    go_wp2_with (first
      | (go_at_call 4; refine (HSM.out _ B1.out).mono ?_; rintro e w2 ⟨rfl, hb⟩; have B2 := Lib.hid (B1.out.trans (hb.mono (Nat.le_of_lt F1.out.lt))); have F2 := F1.out.below hb F1.out.lt; have y0 := F2.cell 0; have y1 := F2.cell 1; have y2 := F2.cell 2; have y3 := F2.cell 3; simp at y0 y1 y2 y3; clear hb F2)
      | (go_at_call 6; refine (HRS.out _ B2.out).mono ?_; rintro e w3 ⟨rfl, hb⟩; have B3 := Lib.hid (B2.out.trans (hb.mono (Nat.le_trans hwB B2.out.size))); clear hb)
      | (go_at_call 5; refine (HK.out _).mono ?_; rintro e w4 ⟨rfl, hb⟩; have BF := Lib.hid (B3.out.trans (hb.mono (Nat.le_trans hwB B3.out.size))); clear hb))
    go_ret
    exact ⟨rfl, BF.out.mono (Nat.le_of_eq HBN.out.symm)⟩
end Go.Proofs.Ytiffminhlimajaa
