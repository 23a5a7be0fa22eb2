/- pdcptx.tick. Printed by gen/xzd.py. -/
import Derived.Test.YtiffminhlimajaaGreatZC
namespace Go.Proofs.YtiffminhlimajaaGreat
open Go.RowKit
set_option linter.unusedVariables false
attribute [local go_sem ↓] Go.wp_at_zero Go.wp_at_succ

theorem filt_map (lq : List WE) (p : QV → Bool) : (lq.filter fun e => !p e.v).map (·.v) = (lq.map (·.v)).filter fun q => !p q := by
  rw [List.filter_map]; rfl
set_option maxRecDepth 100000 in
set_option maxHeartbeats 1600000 in
theorem ttick_ok (g : Nat) (s : TS) (W R : Nat → Prop) (w : World) (h : TxI w g s W R) (hf : s.Fine) (t : Int) (ht1 : -9223372036854775808 ≤ t) (ht2 : t ≤ 9223372036854775807) :
    Calls Tryz.prog 48 #[.pointer (some ⟨g, 0, none⟩), .int .i64 t] w fun e w' => e = .returned (.int .i64 (if 1073741824 ≤ t then 2 else 0)) ∧ TxO W R w w' g (if 1073741824 ≤ t then s else s.tick t) := by
  have HM := Lib.hid (fun (V : World) (hb : Below w.heap.size w V) => tmade_ok g s W R V (h.below hb))
  have HI := Lib.hid h
  obtain ⟨qA, qc, lq, pA, pc, lp, ub, cb, hT⟩ := h
  have HT := Lib.hid hT
  have HF := Lib.hid hf
  have hgl := hT.blk.lt
  clear hT hf
  by_cases ct : 1073741824 ≤ t
  · rw [if_pos ct, if_pos ct]
    go_enter Tryz.func48, Tryz.ntmps48
    go_upto_region 1 with (fail)
    refine wp_let (fun V => V.cell? ⟨w.heap.size, 0, none⟩ = some (.pointer (some ⟨g, 0, none⟩)) ∧ Below w.heap.size w V ∧ w.heap.size < V.heap.size) ⟨(Blk.new _ _ _).cell 0, (Below.refl _ w).alloc (Nat.le_refl _) _, by simp⟩ ?_
    rintro W1 ⟨b1, b2, b3⟩
    obtain ⟨tb, htb⟩ : ∃ tb, tb = w.heap.size := ⟨_, rfl⟩
    have HTB := Lib.hid htb
    have B2 := Lib.hid b2
    rw [← htb] at b1 b3 ⊢
    clear b2 htb
    go_wp2_with (go_at_call 54; refine (HM.out _ B2.out).mono ?_; rintro e w2 ⟨rfl, rfl⟩)
    go_ret
    exact ⟨rfl, TxO.same HI.out B2.out⟩
  rw [if_neg ct, if_neg ct]
  go_enter Tryz.func48, Tryz.ntmps48
  go_upto_region 1 with (fail)
  refine wp_let (fun V => V.cell? ⟨w.heap.size, 0, none⟩ = some (.pointer (some ⟨g, 0, none⟩)) ∧ Below w.heap.size w V ∧ w.heap.size < V.heap.size) ⟨(Blk.new _ _ _).cell 0, (Below.refl _ w).alloc (Nat.le_refl _) _, by simp⟩ ?_
  rintro W1 ⟨b1, b2, b3⟩
  obtain ⟨tb, htb⟩ : ∃ tb, tb = w.heap.size := ⟨_, rfl⟩
  have HTB := Lib.hid htb
  have B2 := Lib.hid b2
  rw [← htb] at b1 b3 ⊢
  clear b2 htb
  go_upto_region 5 with (go_at_call 54; refine (HM.out _ B2.out).mono ?_; rintro e w2 ⟨rfl, rfl⟩)
  have T1 := Lib.hid (HT.out.below B2.out)
  have c1 := T1.out.cnow
  have hn0 := HT.out.now0
  obtain ⟨nw, hnw⟩ : ∃ nw, nw = s.now := ⟨_, rfl⟩
  rw [← hnw] at c1 hn0
  have f1 := T1.out.blk.frozen 40
  obtain ⟨mx, hmx⟩ : ∃ mx, mx = max nw t := ⟨_, rfl⟩
  have HMX := Lib.hid hmx
  have HNW := Lib.hid hnw
  clear hnw
  go_region
  have hmx2 : (if nw < t then t else nw) = mx := by rw [HMX.out]; split <;> omega
  rw [hmx2]
  have hmr : 0 ≤ mx ∧ mx < 1073741824 := by rw [HMX.out]; omega
  have TM := T1.out.setNow mx hmr
  have HTG := Lib.hid (show tb ≠ g by have := HTB.out; omega)
  have kg : KeepF (fun k => k = g) W1 (W1.setCell ⟨g, 40, none⟩ (.int .i64 mx)) := (KeepF.refl (F := fun k => k = g)).setCell (p := ⟨g, 40, none⟩) rfl _
  refine then_let (fun V => TxM V g { s with now := mx } W R qA qc lq pA pc lp ub cb ∧ KeepF W w V ∧ V.cell? ⟨tb, 0, none⟩ = some (.pointer (some ⟨g, 0, none⟩)) ∧ tb < V.heap.size) ⟨TM.below (Below.refl _ _).drew, ((KeepF.of_below B2.out).setCell (p := ⟨g, 40, none⟩) T1.out.wg _).drew, (kg.drew.cell (p := ⟨tb, 0, none⟩) b3 HTG.out).trans b1, Nat.lt_of_lt_of_le b3 kg.drew.size⟩ ?_
  rintro V ⟨d1, d2, d3, d4⟩
  have TV := Lib.hid d1
  have KV := Lib.hid d2
  obtain ⟨w0, hw0⟩ : ∃ w0, w0 = V.drew := ⟨_, rfl⟩
  have hb0 : Below V.heap.size V w0 := by rw [hw0]; exact (Below.refl _ _).drew
  have HQB := Lib.hid (show ∀ a, qA = some a → tb ≠ a.block from fun a ha e => by have := HT.out.q.lt ha; have := HTB.out; omega)
  have HSB := Lib.hid (show ∀ W', KeepF (fun j => j = g ∨ ∃ a, qA = some a ∧ j = a.block) V W' → W'.cell? ⟨tb, 0, none⟩ = some (.pointer (some ⟨g, 0, none⟩)) from fun W' hW => (hW.cell (p := ⟨tb, 0, none⟩) d4 (fun h => by rcases h with h | ⟨a, ha, e⟩; exact HTG.out h; exact HQB.out a ha e)).trans d3)
  have T0 := Lib.hid (TV.out.below hb0)
  have HD4 := Lib.hid d4
  have HP := Lib.hid (show ∀ W', KeepF (fun k => ∃ a, qA = some a ∧ k = a.block) w0 W' → Picks (fun e => s.gone mx e.v) tb lq W' from fun W' hW e he => by
    have hS := HSB.out W' (((KeepF.of_below hb0).trans hW (fun k _ h => h)).mono (fun k h => .inr h))
    have hg : ¬ ∃ a, qA = some a ∧ g = a.block := fun ⟨a, ha, e⟩ => T0.out.gq a ha e
    have hgl0 := T0.out.blk.lt
    have ha := HF.out.at_ e.v (by rw [← T0.out.qv]; exact List.mem_map_of_mem he)
    have hv := HF.out.val
    exact tgone_ok s.C.ds mx e.v.at_ ⟨hv.2.2.2.1, hv.2.2.2.2.1⟩ ⟨ha.1, by rw [HMX.out]; have := HNW.out; omega⟩ hmr.2 e.A e.v.n e.c g tb W' hS
      ((hW.cell (p := ⟨g, 37, none⟩) hgl0 hg).trans (T0.out.cC (j := 37) (by decide))) ((hW.cell (p := ⟨g, 40, none⟩) hgl0 hg).trans T0.out.cnow) (Nat.lt_of_lt_of_le HD4.out (Nat.le_trans hb0.size hW.size)) (Nat.lt_of_lt_of_le hgl0 hW.size))
  clear d1 d2 d3 b1 b3 kg TM c1 f1 hmx2 B2 T1
  go_upto_region 6 with (fail)
  refine wp_region_held_drew (S := fun w' => KeepF (fun j => j = g ∨ ∃ a, qA = some a ∧ j = a.block) V w') (by kernel_rfl) ((KeepF.refl (w := V)).drew) (fun hHeld => ?_)
  rw [← hw0]
  rw [← hw0] at hHeld
  clear hw0

  refine wpAnyH_take (i := 0) (oi := ⟨some 20, _, _, _, _, _⟩) (v := .pointer (some ⟨g, 0, none⟩)) rfl (by kernel_rfl) (by kernel_rfl) (by kernel_rfl) (fun _ _ _ h => h) (Or.inl ⟨by rfl, fun W hW => (by have := HSB.out W hW; go_simp)⟩) (by assumption) ?_
  try simp only [Act.put, List.setIfInBounds_toArray, List.set_cons_zero, List.set_cons_succ]
  refine wpAnyH_take (i := 1) (oi := ⟨some 21, _, _, _, _, _⟩) (v := .pointer (some ⟨g, 0, none⟩)) rfl (by kernel_rfl) (by kernel_rfl) (by kernel_rfl) (fun _ _ _ h => h) (Or.inl ⟨by rfl, fun W hW => (by have := HSB.out W hW; go_simp)⟩) (by assumption) ?_
  try simp only [Act.put, List.setIfInBounds_toArray, List.set_cons_zero, List.set_cons_succ]
  refine wpAnyH_take (i := 2) (oi := ⟨some 22, _, _, _, _, _⟩) (v := .pointer (some ⟨g, 0, none⟩)) rfl (by kernel_rfl) (by kernel_rfl) (by kernel_rfl) (fun _ _ _ h => h) (Or.inl ⟨by rfl, fun W hW => (by go_simp)⟩) (by assumption) ?_
  try simp only [Act.put, List.setIfInBounds_toArray, List.set_cons_zero, List.set_cons_succ]
  refine wpAnyH_take (i := 3) (oi := ⟨some 23, _, _, _, _, _⟩) (v := .pointer (some ⟨g, 42, none⟩)) rfl (by kernel_rfl) (by kernel_rfl) (by kernel_rfl) (fun _ _ _ h => h) (Or.inl ⟨by rfl, fun W hW => (by go_simp)⟩) (by assumption) ?_
  try simp only [Act.put, List.setIfInBounds_toArray, List.set_cons_zero, List.set_cons_succ]
  refine wpAnyH_take (i := 5) (oi := ⟨some 25, _, _, _, _, _⟩) (v := .func (.func 86) #[] #[.pointer (some ⟨tb, 0, none⟩)]) rfl (by kernel_rfl) (by kernel_rfl) (by kernel_rfl) (fun _ _ _ h => h) (Or.inl ⟨by rfl, fun W hW => (by go_simp)⟩) (by assumption) ?_
  try simp only [Act.put, List.setIfInBounds_toArray, List.set_cons_zero, List.set_cons_succ]
  refine wpAnyH_ready (rs := [4]) (by kernel_rfl) (by simp) ?_
  refine AllReadyH.cons (o := ⟨some 24, _, _, _, _, _⟩) rfl (fun K hK => ?_) AllReadyH.nil
  rw [if_pos (by rfl)]
  have h42 := T0.out.cq
  obtain ⟨n, hn⟩ : ∃ n, n = lq.length := ⟨_, rfl⟩
  have HN := Lib.hid hn
  rw [← hn] at h42
  have HDL := Lib.hid (wdelete_ok qA n qc lq hn (fun e => s.gone mx e.v) tb w0 (by rw [hn]; exact T0.out.q) HP.out)
  obtain ⟨lq', hlq⟩ : ∃ lq', lq' = lq.filter fun e => !s.gone mx e.v := ⟨_, rfl⟩
  have HLQ := Lib.hid hlq
  rw [← hlq] at HDL
  clear hn hlq
  go_simp
  refine hK.out _ _ hHeld (fun hHeld => ?_)
  clear hK K h42
  try simp only [Act.put, List.setIfInBounds_toArray, List.set_cons_zero, List.set_cons_succ]
  refine wpAnyH_ready (rs := [6]) (by kernel_rfl) (by simp) ?_
  refine AllReadyH.cons (o := ⟨some 26, _, _, _, _, _⟩) rfl (fun K hK => ?_) AllReadyH.nil
  rw [if_pos (by rfl)]
  go_simp
  refine (HDL.out).mono ?_
  rintro e wD ⟨rfl, hSD, hKD⟩
  dsimp only
  have SD := Lib.hid hSD
  have KD := Lib.hid hKD
  obtain ⟨n', hn'⟩ : ∃ n', n' = lq'.length := ⟨_, rfl⟩
  have HN' := Lib.hid hn'
  rw [← hn']
  have hg9 : Blk wD g 86 _ := hKD.blk T0.out.blk (fun ⟨a, ha, e⟩ => T0.out.gq a ha e)
  have hc43 : wD.cell? ⟨g, 42, none⟩ = some (.slice qA lq.length qc) := (hg9.cell 42).trans (tArr_high s.C.arr_size 3)
  have hf43 := hg9.frozen 42
  refine hK.out _ _ (hHeld.trans hKD (fun j _ hj => .inr hj)) (fun hHeld => ?_)
  clear hK K hSD hKD hn' hg9
  try simp only [Act.put, List.setIfInBounds_toArray, List.set_cons_zero, List.set_cons_succ]
  refine wpAnyH_take (i := 7) (oi := ⟨some 27, _, _, _, _, _⟩) (v := .pointer (some ⟨g, 0, none⟩)) rfl (by kernel_rfl) (by kernel_rfl) (by kernel_rfl) (fun _ _ _ h => h) (Or.inl ⟨by rfl, fun W hW => (by go_simp)⟩) (by assumption) ?_
  try simp only [Act.put, List.setIfInBounds_toArray, List.set_cons_zero, List.set_cons_succ]
  refine wpAnyH_take (i := 8) (oi := ⟨some 28, _, _, _, _, _⟩) (v := .pointer (some ⟨g, 42, none⟩)) rfl (by kernel_rfl) (by kernel_rfl) (by kernel_rfl) (fun _ _ _ h => h) (Or.inl ⟨by rfl, fun W hW => (by go_simp)⟩) (by assumption) ?_
  try simp only [Act.put, List.setIfInBounds_toArray, List.set_cons_zero, List.set_cons_succ]
  refine wpAnyH_ready (rs := [9]) (by kernel_rfl) (by simp) ?_
  refine AllReadyH.cons (o := ⟨none, _, _, _, _, _⟩) rfl (fun K hK => ?_) AllReadyH.nil
  rw [if_pos (by rfl)]
  have hlen : lq'.length = n' := HN'.out.symm
  have TF := T0.out.setQ (lq' := lq') (qA' := qA) (qc' := qc) (w1 := wD) KD.out (fun a ha => .inl ⟨a, ha, rfl⟩) SD.out (fun e he => (T0.out.qe e (by rw [HLQ.out] at he; exact (List.mem_filter.1 he).1)).keep KD.out (fun j ⟨a, ha, e2⟩ hr => T0.out.dis j (by rw [e2]; exact T0.out.wq a ha) hr))
  rw [hlen] at TF
  have HTF := Lib.hid TF
  have hS9 : KeepF (fun j => j = g ∨ ∃ a, qA = some a ∧ j = a.block) V (wD.setCell ⟨g, 42, none⟩ (.slice qA n' qc)) := hHeld.setCell (p := ⟨g, 42, none⟩) (.inl rfl) _
  have HKF := Lib.hid (KV.out.trans hS9 (fun k _ h => by rcases h with h | ⟨a, ha, e⟩; rw [h]; exact TV.out.wg; rw [e]; exact TV.out.wq a ha))
  clear TF hlen
  go_simp
  refine hK.out _ _ hS9 (fun hHeld => ?_)
  clear hK K hS9
  try simp only [Act.put]
  refine wpAnyH_done (by kernel_rfl) ?_ _
  go_wp2
  go_ret
  refine ⟨rfl, (fun k => W k ∨ ∃ a, qA = some a ∧ k = a.block), R, ⟨qA, qc, lq', pA, pc, lp, ub, cb, ?_⟩, ?_, fun k hr => .inl hr, HKF.out⟩
  · have hh := HTF.out
    have e1 : lq'.map (·.v) = (s.tick t).Q := by
      rw [HLQ.out, filt_map, T0.out.qv, HMX.out, HNW.out]; rfl
    have e2 : s.tick t = { s with now := mx, Q := lq'.map (·.v) } := by
      rw [e1, HMX.out, HNW.out]; rfl
    rw [e2]
    exact hh
  · rintro k (hk | ⟨a, ha, rfl⟩)
    · exact .inl hk
    · exact .inl (T0.out.wq a ha)
end Go.Proofs.YtiffminhlimajaaGreat
