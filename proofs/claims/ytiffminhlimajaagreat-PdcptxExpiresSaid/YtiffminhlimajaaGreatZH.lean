/- pdcptx.Next: errors and repetitions. Printed by gen/xzh.py. -/
import Derived.Test.YtiffminhlimajaaGreatZG
namespace Go.Proofs.YtiffminhlimajaaGreat
open Go.RowKit
set_option linter.unusedVariables false
attribute [local go_sem ↓] Go.wp_at_zero Go.wp_at_succ

/-- the contract of build for a transmitter -/
def Builds (g : Nat) (C : Cfg) : Prop := ∀ (s : TS) (W R : Nat → Prop) (V : World), s.C = C → TxI V g s W R → ∀ (ct : Nat), ct < 4294967296 → ∀ (A : Option Addr) (n c : Nat) (z : Nat → Int), 1 ≤ n → n ≤ 9000 → Row V V.heap.size A n (fun j => .int .u8 (z j)) → (∀ j, j < n → 0 ≤ z j ∧ z j < 256) →
  Calls Tryz.prog 51 #[.pointer (some ⟨g, 0, none⟩), .int .u32 ct, .slice A n c] V (BuildC C ct n z V)
theorem builds_plain (g : Nat) (C : Cfg) (hok : C.Ok) (hv : C.Valid) (hig : C.ig = false) (hcm : C.cm = false) : Builds g C := fun s W R V hC hI ct hct A n c z h1 h9 hr hz => by
  subst hC
  exact tbuild_plain g s W R V hI hok hv hig hcm ct hct A n c z h1 h9 hr hz
/-- what Next answers -/
def NxO (W R : Nat → Prop) (w : World) (g : Nat) (r : NX) (e : Ending) (w' : World) : Prop :=
  ∃ A c W' R', e = .returned (.tuple #[.slice A r.n c, .int .u32 r.ct, .int .i64 r.e]) ∧ r.n ≤ c ∧ Row w' w'.heap.size A r.n (fun j => .int .u8 ((r.z j : Nat) : Int)) ∧ TxI w' g r.s W' R' ∧ (∀ k, W' k → W k ∨ w.heap.size ≤ k) ∧ (∀ k, R' k → R k ∨ w.heap.size ≤ k) ∧ KeepF W w w' ∧ (∀ a, A = some a → w.heap.size ≤ a.block ∧ ¬ W' a.block ∧ ¬ R' a.block)
theorem nx_err {W R : Nat → Prop} {w w' : World} {g : Nat} {s : TS} (h : TxO W R w w' g s) (e : Int) : NxO W R w g ⟨0, zB, 0, e, s⟩ (.returned (.tuple #[.slice none 0 0, .int .u32 0, .int .i64 e])) w' := by
  obtain ⟨W', R', h1, h2, h3, h4⟩ := h
  exact ⟨none, 0, W', R', rfl, Nat.le_refl _, fun hn => absurd hn (by show ¬ 0 < 0; omega), h1, h2, h3, h4, fun a e => by cases e⟩
/-- pending packets changed in place -/
theorem TxM.putP {w w1 : World} {g : Nat} {s : TS} {W R : Nat → Prop} {qA : Option Addr} {qc : Nat} {lq : List WE} {pA : Option Addr} {pc : Nat} {lp lp' : List PE} {ub cb : Nat} (h : TxM w g s W R qA qc lq pA pc lp ub cb)
    (hk : KeepF (fun k => ∃ a, pA = some a ∧ k = a.block) w w1) (hs : SL w1 101 3 pA lp.length pc (lp'.flatMap PE.cells)) (hl : lp'.length = lp.length)
    (he : ∀ e, e ∈ lp' → Pkt w1 R e.A e.v.n e.c e.v.z) (pr : ∀ e, e ∈ lp' → 0 ≤ e.v.ct ∧ e.v.ct < 4294967296) : TxM w1 g { s with P := lp'.map (·.v) } W R qA qc lq pA pc lp' ub cb := by
  have hs1 : ∀ a, qA = some a → ¬ ∃ b, pA = some b ∧ a.block = b.block := fun a ha ⟨b, hb, e⟩ => h.qp a b ha hb e
  have pk : ∀ {A : Option Addr} {n c : Nat} {z : Nat → Int}, Pkt w R A n c z → Pkt w1 R A n c z := fun hp => hp.keep hk (fun k ⟨a, ha, e⟩ hr => h.dis k (by rw [e]; exact h.wp a ha) hr)
  refine ⟨?_, h.qv, rfl, h.q.keepF hk hs1, by rw [hl]; exact hs, h.u.keep (hk.block ub h.u.lt (fun ⟨a, ha, e⟩ => h.pu a ha e.symm)), (hk.block cb (h.win _ h.wc) (fun ⟨a, ha, e⟩ => h.kp a ha e)).trans h.k,
    fun e he2 => pk (h.qe e he2), he, (fun e he => (by obtain ⟨x, hx, rfl⟩ := List.mem_map.1 he; exact pr x hx)), h.wg, h.wu, h.wc, h.wq, h.wp, h.kg, h.ku, h.kq, h.kp, h.dis,
    fun k hw => Nat.lt_of_lt_of_le (h.win k hw) hk.size, fun k hw => Nat.lt_of_lt_of_le (h.rin k hw) hk.size, h.now0, h.next0⟩
  rw [hl]
  exact hk.blk h.blk (fun ⟨a, ha, e⟩ => h.gp a ha e)

set_option maxRecDepth 100000 in
theorem tnext_late (g : Nat) (s : TS) (W R : Nat → Prop) (w : World) (h : TxI w g s W R) (hf : s.Fine) (t : Int) (ht1 : -9223372036854775808 ≤ t) (ht2 : t ≤ 9223372036854775807) (ct : 1073741824 ≤ t) :
    Calls Tryz.prog 18 #[.pointer (some ⟨g, 0, none⟩), .int .i64 t] w (NxO W R w g (s.send t)) := by
  have HTK := Lib.hid (ttick_ok g s W R w h hf t ht1 ht2)
  unfold TS.send
  rw [if_pos ct]
  rw [if_pos ct, if_pos ct] at HTK
  clear h hf
  go_enter Tryz.func18, Tryz.ntmps18
  go_wp2_with (go_at_call 48; refine (HTK.out).mono ?_; rintro e w1 ⟨rfl, hO⟩; have HO := Lib.hid hO; clear hO)
  go_ret3
  exact nx_err HO.out 2
set_option maxRecDepth 100000 in
set_option maxHeartbeats 1600000 in
theorem tnext_rep (g : Nat) (s : TS) (W R : Nat → Prop) (w : World) (h : TxI w g s W R) (hf : s.Fine) (t : Int) (ht1 : -9223372036854775808 ≤ t) (ht2 : t ≤ 9223372036854775807) (ct : ¬ 1073741824 ≤ t) (hb : Builds g s.C) (i : Nat) (p : PV) (hrep : firstRep s.P = some (i, p)) :
    Calls Tryz.prog 18 #[.pointer (some ⟨g, 0, none⟩), .int .i64 t] w (NxO W R w g (s.send t)) := by
  have HBD := Lib.hid hb
  have HRP := Lib.hid hrep
  unfold TS.send
  rw [if_neg ct, hrep]
  dsimp only
  have HTK := Lib.hid (ttick_ok g s W R w h hf t ht1 ht2)
  rw [if_neg ct, if_neg ct] at HTK
  have HF1 := Lib.hid (hf.tick t)
  clear h hf
  obtain ⟨s1, hs1⟩ : ∃ s1, s1 = s.tick t := ⟨_, rfl⟩
  have HS1 := Lib.hid hs1
  have HC1 : Hid (s1.C = s.C) := Lib.hid (by rw [hs1]; rfl)
  have HP1 : Hid (s1.P = s.P) := Lib.hid (by rw [hs1]; rfl)
  have HN1 : Hid (s1.next = s.next) := Lib.hid (by rw [hs1]; rfl)
  rw [← hs1] at HTK HF1
  clear hs1
  go_enter Tryz.func18, Tryz.ntmps18
  go_upto_region 4 with (go_at_call 48; refine (HTK.out).mono ?_; rintro e w1 ⟨rfl, hO⟩; have HO := Lib.hid hO; clear hO)
  obtain ⟨W1, R1, hI1, hW1, hR1, hK1⟩ := HO.out
  obtain ⟨qA, qc, lq, pA, pc, lp, ub, cb, hT1⟩ := hI1
  have T1 := Lib.hid hT1
  have HW1 := Lib.hid hW1
  have HR1 := Lib.hid hR1
  have HK1 := Lib.hid hK1
  clear hW1 hR1 hK1
  obtain ⟨m, hm⟩ : ∃ m, m = lp.length := ⟨_, rfl⟩
  have HM := Lib.hid hm
  have HRI := Lib.hid (rindex_ok pA m pc lp hm w1 (by rw [hm]; exact hT1.p))
  have cp := hT1.cp
  rw [← hm] at cp
  have hgl := hT1.blk.lt
  have hmc := hT1.p.le
  have hcm := hT1.p.cmax
  unfold maxLen at hcm
  rw [← hm] at hmc
  have m9 : (m : Int) ≤ 9223372036854775807 := by omega
  have HRC := Lib.hid (rep_cases lp)
  rw [hT1.pv, HP1.out, ← hm] at HRC
  clear hT1 hm
  obtain ⟨pe, hpe, HF0, hv⟩ : ∃ pe, lp[i]? = some pe ∧ Hid (firstP (isRep lp) 0 m = (i : Int)) ∧ pe.v = p := by
    rcases HRC.out with ⟨i', e', h1, h2, h3⟩ | ⟨_, h3⟩
    · rw [HRP.out] at h3
      cases h3
      exact ⟨e', h1, Lib.hid h2, rfl⟩
    · rw [HRP.out] at h3
      cases h3
  subst hv
  rw [HF0.out] at HRI
  have him : i < m := by rw [HM.out]; exact (List.getElem?_eq_some_iff.1 hpe).1
  have HPE := Lib.hid hpe
  have i0 : (0 : Int) ≤ (i : Int) := by omega
  have i1 : (i : Int) < (m : Int) := by omega
  clear hrep hpe HF0 HRC
  go_upto_region 5 with (go_at_call 49; refine (HRI.out).mono ?_; rintro e w2 ⟨rfl, hB⟩; have E2 := Lib.hid hB; clear hB)
  have T2 := Lib.hid (T1.out.below E2.out)
  obtain ⟨b, o, hpA, hbl, d0, d1, d2⟩ := T2.out.pcell HPE.out
  subst hpA
  have cp2 := T2.out.cp
  rw [← HM.out] at cp2
  have hpr := T2.out.pr pe.v (by rw [← T2.out.pv]; exact List.mem_map_of_mem (List.mem_of_getElem? HPE.out))
  obtain ⟨CT, hCT⟩ : ∃ CT : Nat, CT = pe.v.ct.toNat := ⟨_, rfl⟩
  have HCT := Lib.hid hCT
  have HCI : Hid (pe.v.ct = (CT : Int)) := Lib.hid (by rw [hCT]; omega)
  have HCL : Hid (CT < 4294967296) := Lib.hid (by rw [hCT]; omega)
  rw [HCI.out] at d0
  have PK := Lib.hid (T2.out.pe pe (List.mem_of_getElem? HPE.out))
  obtain ⟨PA, hPA⟩ : ∃ PA, PA = pe.A := ⟨_, rfl⟩
  obtain ⟨pn, hpn⟩ : ∃ pn, pn = pe.v.n := ⟨_, rfl⟩
  obtain ⟨pz, hpz⟩ : ∃ pz, pz = pe.v.z := ⟨_, rfl⟩
  obtain ⟨pcc, hpcc⟩ : ∃ pcc, pcc = pe.c := ⟨_, rfl⟩
  have HPN := Lib.hid hpn
  have HPZ := Lib.hid hpz
  rw [← hPA, ← hpn, ← hpz, ← hpcc] at PK
  rw [← hPA, ← hpn, ← hpcc] at d1
  clear hpr hCT hPA hpn hpz hpcc cp
  go_upto_region 7 with (fail)
  obtain ⟨w0, hw0⟩ : ∃ w0, w0 = w2.drew := ⟨_, rfl⟩
  have hb0 : Below w2.heap.size w2 w0 := by rw [hw0]; exact (Below.refl _ _).drew
  have HD0 := Lib.hid (show ∀ W', Below w2.heap.size w2 W' → W'.cell? ⟨b, o + i * 3, none⟩ = some (.int .u32 (CT : Int)) from fun W' hW => (hW.cell (p := ⟨b, o + i * 3, none⟩) hbl).trans d0)
  have HD1 := Lib.hid (show ∀ W', Below w2.heap.size w2 W' → W'.cell? ⟨b, o + i * 3 + 1, none⟩ = some (.slice PA pn pcc) from fun W' hW => (hW.cell (p := ⟨b, o + i * 3 + 1, none⟩) hbl).trans d1)
  have HD2 := Lib.hid d2
  have HBU := Lib.hid (HBD.out s1 W1 R1 w0 HC1.out ⟨_, _, _, _, _, _, _, _, T2.out.below hb0⟩ CT HCL.out PA pn pcc pz PK.out.pos PK.out.max (PK.out.row.next hb0) PK.out.byte)
  refine wp_region_held_drew (S := fun w' => Below w2.heap.size w2 w') (by kernel_rfl) ((Below.refl _ w2).drew) (fun hHeld => ?_)
  rw [← hw0]
  rw [← hw0] at hHeld
  clear hw0 cp2 d0 d1 d2
  refine wpAnyH_take (i := 0) (oi := ⟨some 36, _, _, _, _, _⟩) (v := .pointer (some ⟨g, 0, none⟩)) rfl (by kernel_rfl) (by kernel_rfl) (by kernel_rfl) (fun _ _ _ h => h) (Or.inl ⟨by rfl, fun W hW => (by rfl)⟩) (by assumption) ?_
  try simp only [Act.put, List.setIfInBounds_toArray, List.set_cons_zero, List.set_cons_succ]
  refine wpAnyH_take (i := 1) (oi := ⟨some 37, _, _, _, _, _⟩) (v := .pointer (some ⟨b, o + i * 3, none⟩)) rfl (by kernel_rfl) (by kernel_rfl) (by kernel_rfl) (fun _ _ _ h => h) (Or.inl ⟨by rfl, fun W hW => (by rfl)⟩) (by assumption) ?_
  try simp only [Act.put, List.setIfInBounds_toArray, List.set_cons_zero, List.set_cons_succ]
  refine wpAnyH_take (i := 2) (oi := ⟨some 38, _, _, _, _, _⟩) (v := .pointer (some ⟨b, o + i * 3, none⟩)) rfl (by kernel_rfl) (by kernel_rfl) (by kernel_rfl) (fun _ _ _ h => h) (Or.inl ⟨by rfl, fun W hW => (by go_simp)⟩) (by assumption) ?_
  try simp only [Act.put, List.setIfInBounds_toArray, List.set_cons_zero, List.set_cons_succ]
  refine wpAnyH_take (i := 3) (oi := ⟨some 39, _, _, _, _, _⟩) (v := .pointer (some ⟨b, o + i * 3, none⟩)) rfl (by kernel_rfl) (by kernel_rfl) (by kernel_rfl) (fun _ _ _ h => h) (Or.inl ⟨by rfl, fun W hW => (by go_simp)⟩) (by assumption) ?_
  try simp only [Act.put, List.setIfInBounds_toArray, List.set_cons_zero, List.set_cons_succ]
  refine wpAnyH_take (i := 4) (oi := ⟨some 40, _, _, _, _, _⟩) (v := .pointer (some ⟨b, o + i * 3, none⟩)) rfl (by kernel_rfl) (by kernel_rfl) (by kernel_rfl) (fun _ _ _ h => h) (Or.inl ⟨by rfl, fun W hW => (by go_simp)⟩) (by assumption) ?_
  try simp only [Act.put, List.setIfInBounds_toArray, List.set_cons_zero, List.set_cons_succ]
  refine wpAnyH_take (i := 5) (oi := ⟨some 41, _, _, _, _, _⟩) (v := .int .u32 (CT : Int)) rfl (by kernel_rfl) (by kernel_rfl) (by kernel_rfl) (fun _ _ _ h => h) (Or.inl ⟨by rfl, fun W hW => (by have := HD0.out W hW; go_simp)⟩) (by assumption) ?_
  try simp only [Act.put, List.setIfInBounds_toArray, List.set_cons_zero, List.set_cons_succ]
  refine wpAnyH_take (i := 6) (oi := ⟨some 42, _, _, _, _, _⟩) (v := .pointer (some ⟨b, o + i * 3, none⟩)) rfl (by kernel_rfl) (by kernel_rfl) (by kernel_rfl) (fun _ _ _ h => h) (Or.inl ⟨by rfl, fun W hW => (by rfl)⟩) (by assumption) ?_
  try simp only [Act.put, List.setIfInBounds_toArray, List.set_cons_zero, List.set_cons_succ]
  refine wpAnyH_take (i := 7) (oi := ⟨some 43, _, _, _, _, _⟩) (v := .pointer (some ⟨b, o + i * 3, none⟩)) rfl (by kernel_rfl) (by kernel_rfl) (by kernel_rfl) (fun _ _ _ h => h) (Or.inl ⟨by rfl, fun W hW => (by go_simp)⟩) (by assumption) ?_
  try simp only [Act.put, List.setIfInBounds_toArray, List.set_cons_zero, List.set_cons_succ]
  refine wpAnyH_take (i := 8) (oi := ⟨some 44, _, _, _, _, _⟩) (v := .pointer (some ⟨b, o + i * 3, none⟩)) rfl (by kernel_rfl) (by kernel_rfl) (by kernel_rfl) (fun _ _ _ h => h) (Or.inl ⟨by rfl, fun W hW => (by go_simp)⟩) (by assumption) ?_
  try simp only [Act.put, List.setIfInBounds_toArray, List.set_cons_zero, List.set_cons_succ]
  refine wpAnyH_take (i := 9) (oi := ⟨some 45, _, _, _, _, _⟩) (v := .pointer (some ⟨b, o + i * 3 + 1, none⟩)) rfl (by kernel_rfl) (by kernel_rfl) (by kernel_rfl) (fun _ _ _ h => h) (Or.inl ⟨by rfl, fun W hW => (by go_simp)⟩) (by assumption) ?_
  try simp only [Act.put, List.setIfInBounds_toArray, List.set_cons_zero, List.set_cons_succ]
  refine wpAnyH_take (i := 10) (oi := ⟨some 46, _, _, _, _, _⟩) (v := .slice PA pn pcc) rfl (by kernel_rfl) (by kernel_rfl) (by kernel_rfl) (fun _ _ _ h => h) (Or.inl ⟨by rfl, fun W hW => (by have := HD1.out W hW; go_simp)⟩) (by assumption) ?_
  try simp only [Act.put, List.setIfInBounds_toArray, List.set_cons_zero, List.set_cons_succ]
  refine wpAnyH_ready (rs := [11]) (by kernel_rfl) (by simp) ?_
  refine AllReadyH.cons (o := ⟨some 47, _, _, _, _, _⟩) rfl (fun K hK => ?_) AllReadyH.nil
  rw [if_pos (by rfl)]
  go_simp
  refine (HBU.out).mono ?_
  rintro e w3 ⟨A3, c3, rfl, hc3, hF3, hR3, hB3⟩
  dsimp only
  have HC3 := Lib.hid hc3
  have HF3 := Lib.hid hF3
  have HR3 := Lib.hid hR3
  have HB3 := Lib.hid hB3
  have HPD := Lib.hid (rfl : pduN s.C pn = pduN s.C pn)
  obtain ⟨N3, hN3⟩ : ∃ N3, N3 = pduN s.C pn := ⟨_, rfl⟩
  have HN3 := Lib.hid hN3
  rw [← hN3] at HC3 HR3 ⊢
  have H3 : Below w2.heap.size w2 w3 := hHeld.trans (hB3.mono hb0.size)
  refine hK.out _ _ H3 (fun hHeld => ?_)
  clear hK K hR3 hF3 hc3 hB3 hN3
  try simp only [Act.put, List.setIfInBounds_toArray, List.set_cons_zero, List.set_cons_succ]
  refine wpAnyH_take (i := 12) (oi := ⟨some 35, _, _, _, _, _⟩) (v := .tuple #[.slice A3 N3 c3, .int .i64 0]) rfl (by kernel_rfl) (by kernel_rfl) (by kernel_rfl) (fun _ _ _ h => h) (Or.inl ⟨by rfl, fun W hW => (by rfl)⟩) (by assumption) ?_
  try simp only [Act.put, List.setIfInBounds_toArray, List.set_cons_zero, List.set_cons_succ]
  refine wpAnyH_take (i := 13) (oi := ⟨some 48, _, _, _, _, _⟩) (v := .slice A3 N3 c3) rfl (by kernel_rfl) (by kernel_rfl) (by kernel_rfl) (fun _ _ _ h => h) (Or.inl ⟨by rfl, fun W hW => (by go_simp)⟩) (by assumption) ?_
  try simp only [Act.put, List.setIfInBounds_toArray, List.set_cons_zero, List.set_cons_succ]
  refine wpAnyH_take (i := 15) (oi := ⟨some 10, _, _, _, _, _⟩) (v := .slice A3 N3 c3) rfl (by kernel_rfl) (by kernel_rfl) (by kernel_rfl) (fun _ _ _ h => h) (Or.inl ⟨by rfl, fun W hW => (by rfl)⟩) (by assumption) ?_
  try simp only [Act.put, List.setIfInBounds_toArray, List.set_cons_zero, List.set_cons_succ]
  refine wpAnyH_take (i := 14) (oi := ⟨some 49, _, _, _, _, _⟩) (v := .int .i64 0) rfl (by kernel_rfl) (by kernel_rfl) (by kernel_rfl) (fun _ _ _ h => h) (Or.inl ⟨by rfl, fun W hW => (by go_simp)⟩) (by assumption) ?_
  try simp only [Act.put, List.setIfInBounds_toArray, List.set_cons_zero, List.set_cons_succ]
  refine wpAnyH_take (i := 16) (oi := ⟨some 11, _, _, _, _, _⟩) (v := .int .i64 0) rfl (by kernel_rfl) (by kernel_rfl) (by kernel_rfl) (fun _ _ _ h => h) (Or.inl ⟨by rfl, fun W hW => (by rfl)⟩) (by assumption) ?_
  try simp only [Act.put, List.setIfInBounds_toArray, List.set_cons_zero, List.set_cons_succ]
  refine wpAnyH_done (by kernel_rfl) ?_ _
  have HH3 := Lib.hid H3
  clear H3 hHeld
  have T3 := Lib.hid (T2.out.below HH3.out)
  have e2 : w3.cell? ⟨b, o + i * 3 + 2, none⟩ = some (.bool pe.v.rep) := (HH3.out.cell (p := ⟨b, o + i * 3 + 2, none⟩) hbl).trans HD2.out
  have e0 := HD0.out w3 HH3.out
  have f2 := T3.out.p.frozen rfl (o + i * 3 + 2)
  have HQ := Lib.hid (show SL (w3.setCell ⟨b, o + i * 3 + 2, none⟩ (.bool false)) 101 3 (some ⟨b, o, none⟩) lp.length pc ((lp.set i { pe with v := { pe.v with rep := false } }).flatMap PE.cells) from by
    have := T3.out.p.setOne (i * 3 + 2) (by rw [← HM.out]; omega) (.bool false)
    rw [rep_set lp i pe HPE.out, ← Nat.add_assoc] at this
    exact this)
  have HKF := Lib.hid ((KeepF.refl (F := fun k => ∃ a, (some ⟨b, o, none⟩ : Option Addr) = some a ∧ k = a.block) (w := w3)).setCell (p := ⟨b, o + i * 3 + 2, none⟩) ⟨_, rfl, rfl⟩ (.bool false))
  have T4 := Lib.hid (T3.out.putP (lp' := lp.set i { pe with v := { pe.v with rep := false } }) HKF.out HQ.out (by rw [List.length_set]) (fun e he => by
    have hk : Pkt w3 R1 e.A e.v.n e.c e.v.z := by
      rcases List.mem_or_eq_of_mem_set he with h | h
      · exact T3.out.pe e h
      · subst h
        exact T3.out.pe pe (List.mem_of_getElem? HPE.out)
    exact hk.keep HKF.out (fun k ⟨a, ha, e2⟩ hr => T3.out.dis k (by rw [e2]; exact T3.out.wp a ha) hr)) (fun e he => by
    rcases List.mem_or_eq_of_mem_set he with h | h
    · exact T3.out.pr e.v (by rw [← T3.out.pv]; exact List.mem_map_of_mem h)
    · subst h
      exact T3.out.pr pe.v (by rw [← T3.out.pv]; exact List.mem_map_of_mem (List.mem_of_getElem? HPE.out))))
  go_upto_region 11 with (fail)
  refine wp_let (fun V => V = w3.setCell ⟨b, o + i * 3 + 2, none⟩ (.bool false)) rfl ?_
  intro w4 hw4
  rw [← hw4] at HQ HKF T4
  have HW4 := Lib.hid hw4
  clear hw4 e0 e2 f2
  obtain ⟨b', o', hbo, _, g0, _, _⟩ := T4.out.pcell (k := i) (e := { pe with v := { pe.v with rep := false } }) (by rw [List.getElem?_set_self (by rw [← HM.out]; exact him)])
  cases hbo
  dsimp only at g0
  rw [HCI.out] at g0
  go_quiet (fail)
  go_wp2
  go_ret3
  have hN : pduN s.C pe.v.n = N3 := by rw [HN3.out, HPN.out]
  have hZ : pduZ s.C pe.v.ct.toNat pe.v.n (nf pe.v.z) = pduZ s.C CT pn (nf pz) := by rw [HCT.out, HPN.out, HPZ.out]
  have hS : ({ s.tick t with P := s.P.set i { pe.v with rep := false } } : TS) = { s1 with P := (lp.set i { pe with v := { pe.v with rep := false } }).map (·.v) } := by
    rw [List.map_set, T1.out.pv, HP1.out, ← HS1.out]
  have hsz : w1.heap.size ≤ w2.heap.size := E2.out.size
  have hs0 : w.heap.size ≤ w1.heap.size := HK1.out.size
  have h4s : w2.heap.size ≤ w3.heap.size := HH3.out.size
  have hfr : ∀ a, A3 = some a → w2.heap.size ≤ a.block := fun a e => Nat.le_trans hb0.size (HF3.out a e)
  have hbw : b < w2.heap.size := hbl
  refine ⟨A3, c3, W1, R1, ?_, ?_, ?_, ?_, HW1.out, HR1.out, ?_, ?_⟩
  · show _ = Ending.returned (.tuple #[.slice A3 (pduN s.C pe.v.n) c3, .int .u32 pe.v.ct, .int .i64 0])
    rw [hN, HCI.out]
    rfl
  · show pduN s.C pe.v.n ≤ c3
    rw [hN]
    exact HC3.out
  · show Row _ _ A3 (pduN s.C pe.v.n) (fun j => .int .u8 ((pduZ s.C pe.v.ct.toNat pe.v.n (nf pe.v.z) j : Nat) : Int))
    rw [hN, hZ]
    refine ((HKF.out.row HR3.out (Nat.le_refl _) (fun a e _ ⟨a', ha', e'⟩ => ?_)).more HKF.out.size).next (below_drewN (Below.refl _ _) _)
    cases ha'
    have := hfr a e
    have e' : a.block = b := e'
    omega
  · show TxI _ g ({ s.tick t with P := s.P.set i { pe.v with rep := false } } : TS) W1 R1
    rw [hS]
    exact ⟨_, _, _, _, _, _, _, _, T4.out.below (below_drewN (Below.refl _ _) _)⟩
  · exact ((HK1.out.trans ((KeepF.of_below (F := W1) (E2.out.trans (HH3.out.mono hsz))).trans (HKF.out.mono (G := W1) (fun k ⟨a, ha, e⟩ => by rw [e]; exact T3.out.wp a ha)) (fun _ _ h => h)) (fun k hk h => by
      rcases HW1.out k h with h | h
      · exact h
      · omega)).more (below_drewN (Below.refl _ _) _))
  · intro a e
    have := hfr a e
    exact ⟨by omega, fun h => by have := T1.out.win _ h; omega, fun h => by have := T1.out.rin _ h; omega⟩
end Go.Proofs.YtiffminhlimajaaGreat
