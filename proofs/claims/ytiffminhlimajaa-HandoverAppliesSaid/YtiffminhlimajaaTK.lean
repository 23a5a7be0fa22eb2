/- handover.Apply: a report is applied. -/
import Derived.Test.YtiffminhlimajaaTJ
namespace Go.Proofs.Ytiffminhlimajaa
open Go.RowKit
set_option linter.unusedVariables false
attribute [local go_sem ↓] Go.wp_at_zero Go.wp_at_succ

theorem fw_pend (a : Int) (b : Bool) (A C : Option Addr) (n c m d : Nat) (w : World) : (Instr.field 26 (.agg #[.int .u32 a, .bool b, .slice A n c, .slice C m d]) 2).run Try.prog w = .ok (.slice A n c) w := by kernel_rfl
/-- what holds in Apply's loop -/
def AI (w wE : World) (g : Nat) (s : TS) (W R : Nat → Prop) (P : List PV) (wr : World) : Prop :=
  ∃ W' R', TxI wr g { s with P := P } W' R' ∧ (∀ j, W' j → W j ∨ wE.heap.size ≤ j) ∧ (∀ j, R' j → R j ∨ wE.heap.size ≤ j) ∧ KeepF W w wr ∧ KeepF W wE wr
theorem AI.below {w wE : World} {g : Nat} {s : TS} {W R : Nat → Prop} {P : List PV} {wr w2 : World} (h : AI w wE g s W R P wr) (hb : Below wr.heap.size wr w2) : AI w wE g s W R P w2 := by
  obtain ⟨W', R', h1, h2, h3, h4, h5⟩ := h
  exact ⟨W', R', h1.below hb, h2, h3, h4.more hb, h5.more hb⟩
theorem AI.step {w wE : World} {g : Nat} {s : TS} {W R : Nat → Prop} {P : List PV} {wr : World} (h : AI w wE g s W R P wr) (hwe : w.heap.size ≤ wE.heap.size) (x : Int) (i : Nat) (e0 : PV) (he : P[i]? = some e0) (hx : e0.ct = x) (hno : ∀ j, j < i → ∀ e, P[j]? = some e → e.ct ≠ x) :
    Calls Try.prog 23 #[.pointer (some ⟨g, 0, none⟩), .int .u32 x] wr fun e w2 => e = .returned (.int .i64 0) ∧ AI w wE g s W R (P.eraseIdx i) w2 := by
  obtain ⟨W', R', h1, h2, h3, h4, h5⟩ := h
  refine (tconfirm_ok g { s with P := P } W' R' wr h1 x i e0 he hx hno).mono ?_
  rintro e w2 ⟨rfl, W2, R2, k1, k2, k3, k4⟩
  have hs := h5.size
  refine ⟨rfl, W2, R2, k1, fun j hj => ?_, fun j hj => ?_, h4.trans k4 (fun b hb hw => ?_), h5.trans k4 (fun b hb hw => ?_)⟩
  · rcases k2 j hj with h | h
    · exact h2 j h
    · exact .inr (by omega)
  · rcases k3 j hj with h | h
    · exact h3 j h
    · exact .inr (by omega)
  · rcases h2 b hw with h | h
    · exact h
    · omega
  · rcases h2 b hw with h | h
    · exact h
    · omega
set_option maxRecDepth 100000 in
set_option maxHeartbeats 3200000 in
theorem apply_stat (g : Nat) (s : TS) (W R : Nat → Prop) (w : World) (h : TxI w g s W R) (hP : s.P.length ≤ 1000000 ∧ s.Q.length ≤ 1000000) (hin : Incr s.P) (m c : Nat) (A : Option Addr) (z : Nat → Int) (hm : m ≤ 140737488355328) (hmc : m ≤ c) (hz : ∀ j, j < m → 0 ≤ z j ∧ z j < 256) (hr : Row w w.heap.size A m (fun j => .int .u8 (z j))) (he : derr m z = 0) (hk : dkind m z = 0) (cf : Int → Bool) (hcf : cf = confB (dfirst m z) (dlen m z) (HM.hb (pay (dz z)))) :
    Calls Try.prog 7 #[.pointer (some ⟨g, 0, none⟩), .slice A m c] w fun e w' => e = .returned (.tuple #[.int .i64 ((s.P.filter (fun e => cf e.ct)).length : Nat), .int .i64 0]) ∧ TxO W R w w' g { s with P := s.P.filter (fun e => !cf e.ct) } := by
  have HR := Lib.hid (tconfig_ok g s W R w h)
  have HT := Lib.hid h
  have HX := Lib.hid (fun (V : World) (hb : Below w.heap.size w V) => texport_ok g s W R V (h.below hb) hP)
  have HS : Hid ((Try.prog.info? 37).map (·.size) = some s.C.arr.size) := Lib.hid (by rw [s.C.arr_size]; exact infoPd)
  have HO : Hid (s.C.arr.all (·.oneCell') = true) := Lib.hid s.C.arr_one
  have HZ : Hid (z39.size = s.C.arr.size) := Lib.hid (by rw [s.C.arr_size]; rfl)
  have HD := Lib.hid (fun (V : World) (hb : Below w.heap.size w V) => decode_fr m c A z V hm hmc hz (hr.next hb))
  unfold DecF ctl at HD
  rw [he, hk] at HD
  obtain ⟨d0, d1⟩ := dfirst_rng m z hz
  have hL := dlen_le m z
  obtain ⟨D, hD⟩ : ∃ D, D = dfirst m z := ⟨_, rfl⟩
  obtain ⟨L, hL2⟩ : ∃ L, L = dlen m z := ⟨_, rfl⟩
  obtain ⟨B, hB⟩ : ∃ B, B = HM.hb (pay (dz z)) := ⟨_, rfl⟩
  obtain ⟨Z, hZ⟩ : ∃ Z, Z = s.C.arr := ⟨_, rfl⟩
  rw [← hZ] at HR HS HO HZ
  rw [← hD, ← hL2, ← hB] at HD
  rw [← hD] at d0 d1
  rw [← hL2] at hL
  have HCF := Lib.hid (show cf = confB D L B by rw [hcf, hD, hL2, hB])
  have HIN := Lib.hid hin
  have HP := Lib.hid hP
  have HWW := Lib.hid (show ∀ j, W j → j < w.heap.size from by
    obtain ⟨qA, qc, lq, pA, pc, lp, ub, cb, h⟩ := h
    exact h.win)
  obtain ⟨n, hn⟩ : ∃ n, n = s.P.length := ⟨_, rfl⟩
  have HN := Lib.hid hn
  have hn6 : n ≤ 1000000 := by omega
  clear hZ h hr hz hD hL2 hB hcf hin hP he hk hn hm hmc
  go_enter Try.func7, Try.ntmps7
  go_upto_region 4 with (first
    | (go_at_call 21; refine (HR.out).mono ?_; rintro e w1 ⟨rfl, hB⟩; have B1 := Lib.hid hB; clear hB)
    | (refine wpList_store_row rfl _ _ _ rfl w1.heap.size Z rfl rfl 37 z39 (Blk.new w1 _ _) HS.out HZ.out HO.out ?_))
  refine wp_let (fun V => Below w.heap.size w V) (B1.out.trans ((belowRow ((Below.refl _ w1).alloc (Nat.le_refl _) _) (Nat.le_refl _) _).mono B1.out.size)) ?_
  intro w2 hX
  have X2 := Lib.hid hX
  clear hX
  go_upto_region 5 with (go_at_call 12; refine (HD.out _ X2.out).mono ?_; rintro e w3 ⟨A1, c1, A2, c2, rfl, hR1, hR2, hb, hfr⟩; have B3 := Lib.hid (X2.out.trans (hb.mono X2.out.size)); have R3 := Lib.hid hR1; have FR3 := Lib.hid (show Fresh w.heap.size A1 from fun a e => Nat.le_trans X2.out.size (hfr a e)); clear hR1 hR2 hb hfr)
  refine wp_let (fun V => Blk V w3.heap.size 43 #[.int .i64 0, .int .u32 D, .slice A1 L c1, .slice A2 (dfeed m z) c2] ∧ Below w3.heap.size w3 V) ⟨Blk.new _ _ _, (Below.refl _ _).alloc (Nat.le_refl _) _⟩ ?_
  rintro w4 ⟨hc4, hb4⟩
  obtain ⟨sb, hsb⟩ : ∃ sb, sb = w3.heap.size := ⟨_, rfl⟩
  have C4 := Lib.hid hc4
  have B4 := Lib.hid (B3.out.trans (hb4.mono B3.out.size))
  have R4 := Lib.hid (R3.out.next hb4)
  have hsw : w.heap.size ≤ sb := by rw [hsb]; exact B3.out.size
  rw [← hsb] at C4 ⊢
  have x0 := C4.out.cell 0
  simp at x0
  clear hc4 hb4 hsb
  have hfp := fw_pend
  go_wp2_with (go_at_call 10; refine (HX.out _ B4.out).mono ?_; rintro e wE ⟨pA, pc, lp, qA, qc, lq, rfl, hFO, hb⟩; have FO := Lib.hid hFO; have BE := Lib.hid (B4.out.trans (hb.mono B4.out.size)); have CE := Lib.hid (C4.out.below hb C4.out.lt); have RE := Lib.hid (R4.out.next hb); clear hb hFO)
  have hlpn : lp.length = n := by rw [HN.out, ← FO.out.pv, List.length_map]
  have HLP := Lib.hid hlpn
  rw [hlpn]
  have hbw : w.heap.size ≤ w4.heap.size := B4.out.size
  have hsE : sb < wE.heap.size := CE.out.lt
  have hwE : w.heap.size ≤ wE.heap.size := BE.out.size
  have HA0 : Hid (AI w wE g s W R (PK cf s.P 0) wE) := Lib.hid (by
    rw [pk_zero]
    exact ⟨W, R, HT.out.below BE.out, fun j h => .inl h, fun j h => .inl h, KeepF.of_below BE.out, KeepF.refl⟩)
  have HNZ := Lib.hid (show ((NK cf s.P 0 : Nat) : Int) = 0 from by rw [nk_zero]; rfl)
  clear hlpn x0 hfp
  go_loopw [10, 43] (fun v u wr => ∃ k : Nat, k ≤ n ∧ u = .int .i64 k ∧ v = .int .i64 (NK cf s.P k : Nat) ∧ AI w wE g s W R (PK cf s.P k) wr) (fun _ u _ => n - (intOf u).toNat)
  case atStart => exact ⟨0, by omega, rfl, by rw [HNZ.out], HA0.out⟩
  case round =>
    clear HA0 HNZ
    obtain ⟨k, hk, rfl, rfl, hA⟩ := hrel
    have HA := Lib.hid hA
    obtain ⟨_, _, _, _, _, KW, KE⟩ := hA
    obtain ⟨N, hN⟩ : ∃ N, N = NK cf s.P k := ⟨_, rfl⟩
    have hNk : N ≤ k := by rw [hN]; unfold NK; exact Nat.le_trans (List.length_filter_le _ _) (by rw [List.length_take]; omega)
    have HNN := Lib.hid hN
    rw [← hN]
    clear hN
    have hsr := KE.size
    by_cases hlt : k < n
    · obtain ⟨e0, he0⟩ : ∃ e0, lp[k]? = some e0 := ⟨lp[k]'(by have := HLP.out; omega), by simp [HLP.out ▸ hlt]⟩
      have hP0 : s.P[k]? = some e0.v := by rw [← FO.out.pv, List.getElem?_map, he0]; rfl
      have hS := FO.out.p.keepF KE (fun a e hw => by have := FO.out.pB a e; have := HWW.out _ hw; omega)
      obtain ⟨b, o, hpA, hbl⟩ := hS.some_ (by have := HLP.out; omega)
      have c0 := hS.cell hpA (j := k * 2 + 0) (by have := HLP.out; omega)
      have c1' := hS.cell hpA (j := k * 2 + 1) (by have := HLP.out; omega)
      rw [flat_at PE.cc 2 PE.cclen lp k _ e0 he0 (by omega)] at c0 c1'
      obtain ⟨qA1, qc1, lq1, pA1, pc1, lp1, ub1, cb1, hT1⟩ := HT.out
      have hpr := hT1.pr e0.v (List.mem_of_getElem? hP0)
      obtain ⟨⟨x, pn, pz, prr⟩, PA, pcc⟩ := e0
      dsimp only at hP0 hpr
      simp only [PE.cc, List.getElem?_cons_zero, List.getElem?_cons_succ, Nat.add_zero] at c0 c1'
      rw [← Nat.add_assoc] at c1'
      obtain ⟨r0, r1⟩ := hpr
      have HP0 := Lib.hid hP0
      have CR := Lib.hid (KE.blk CE.out (fun hw => by have := HWW.out _ hw; omega))
      have RR := Lib.hid ((KE.row RE.out (Nat.le_refl _) (fun a e _ hw => by have := FR3.out a e; have := HWW.out _ hw; omega)).more hsr)
      have k0 : (0 : Int) ≤ (k : Int) := by omega
      have k1 : (k : Int) < (n : Int) := by omega
      subst hpA
      clear hT1 hS he0 hP0 KW KE lq1 lp1
      go_upto_region 13 with (fail)
      refine wp_let (fun V => Blk V wr.heap.size 50 #[.int .u32 x, .slice PA pn pcc] ∧ Below wr.heap.size wr V) ⟨Blk.new _ _ _, (Below.refl _ _).alloc (Nat.le_refl _) _⟩ ?_
      rintro w6 ⟨hb6, hw6⟩
      obtain ⟨xb, hxb⟩ : ∃ xb, xb = wr.heap.size := ⟨_, rfl⟩
      have A6 := Lib.hid (HA.out.below hw6)
      have C6 := CR.out.below hw6 CR.out.lt
      have R6 := Lib.hid (RR.out.next hw6)
      rw [← hxb] at hb6 ⊢
      have y0 := hb6.cell 0
      have z1 := C6.cell 1
      have z2 := C6.cell 2
      simp at y0 z1 z2
      clear hb6 C6 hw6 hxb c0 c1' CR RR
      have HNO := Lib.hid (fun (h : cf x = false) => And.intro (pk_no HP0.out h) (nk_no HP0.out h))
      have HYES := Lib.hid (fun (h : cf x = true) => And.intro (pk_yes HP0.out h HIN.out) (nk_yes HP0.out h))
      have hn9 : (N : Int) + 1 ≤ 1000000 := by omega
      have HCX := Lib.hid (congrFun HCF.out x)
      unfold confB at HCX
      rcases Decidable.em (x < D) with t1 | t1
      · have hy := HYES.out (by rw [HCX.out, if_pos t1])
        obtain ⟨⟨i, i1, i2, i3⟩, i4⟩ := hy
        have HC := Lib.hid (A6.out.step hwE x i _ i1 rfl i2)
        rw [i3] at HC
        have I4 := Lib.hid i4
        clear i1 i2 i3 i4 HCX
        go_wp2_with (go_at_call 23; refine (HC.out).mono ?_; rintro e w7 ⟨rfl, hA7⟩; have A7 := Lib.hid hA7; clear hA7)
        go_roundw
        case rel => exact ⟨k + 1, by omega, by go_num, by rw [I4.out, ← HNN.out]; go_num, A7.out⟩
        case measure => simp [intOf]; omega
      · rcases Decidable.em (x = D) with t2 | t2
        · have hy := HNO.out (by rw [HCX.out, if_neg t1, if_pos t2])
          have g1 : ¬ 0 ≤ x - D - 1 := by omega
          obtain ⟨i3, i4⟩ := hy
          have I3 := Lib.hid i3
          have I4 := Lib.hid i4
          clear i3 i4 HCX
          go_wp2
          go_roundw
          case rel => exact ⟨k + 1, by omega, by go_num, by rw [I4.out, ← HNN.out], by rw [I3.out]; exact A6.out⟩
          case measure => simp [intOf]; omega
        · rcases Decidable.em (x - D - 1 < (L : Int)) with t3 | t3
          · obtain ⟨rb, ro, hA1, hrb, hrc⟩ := R6.out (by omega)
            obtain ⟨I, hI⟩ : ∃ I : Nat, (x - D - 1) = (I : Int) := ⟨(x - D - 1).toNat, by omega⟩
            have hIL : I < L := by omega
            have cb := hrc I hIL
            dsimp only at cb
            obtain ⟨bb, hbb⟩ : ∃ bb, bb = B I := ⟨_, rfl⟩
            have HBB := Lib.hid (show bb = B (x - D - 1).toNat from by rw [hI]; exact hbb)
            rw [← hbb] at cb
            have j0 : (0 : Int) ≤ (I : Int) := by omega
            have j1 : (I : Int) < (L : Int) := by omega
            have T3 := Lib.hid t3
            have T1 := Lib.hid t1
            have T2 := Lib.hid t2
            subst hA1
            clear hrc hbb t3
            cases bb
            · have hy := HNO.out (by rw [HCX.out, if_neg t1, if_neg t2, if_pos T3.out, ← HBB.out])
              obtain ⟨i3, i4⟩ := hy
              have I3 := Lib.hid i3
              have I4 := Lib.hid i4
              clear i3 i4 HCX
              go_wp2
              go_roundw
              case rel => exact ⟨k + 1, by omega, by go_num, by rw [I4.out, ← HNN.out], by rw [I3.out]; exact A6.out⟩
              case measure => simp [intOf]; omega
            · have hy := HYES.out (by rw [HCX.out, if_neg t1, if_neg t2, if_pos T3.out, ← HBB.out])
              obtain ⟨⟨i, i1, i2, i3⟩, i4⟩ := hy
              have HC := Lib.hid (A6.out.step hwE x i _ i1 rfl i2)
              rw [i3] at HC
              have I4 := Lib.hid i4
              clear i1 i2 i3 i4 HCX
              go_wp2_with (go_at_call 23; refine (HC.out).mono ?_; rintro e w7 ⟨rfl, hA7⟩; have A7 := Lib.hid hA7; clear hA7)
              go_roundw
              case rel => exact ⟨k + 1, by omega, by go_num, by rw [I4.out, ← HNN.out]; go_num, A7.out⟩
              case measure => simp [intOf]; omega
          · have hy := HNO.out (by rw [HCX.out, if_neg t1, if_neg t2, if_neg t3])
            obtain ⟨I, hI⟩ : ∃ I : Nat, (x - D - 1) = (I : Int) := ⟨(x - D - 1).toNat, by omega⟩
            have j0 : (0 : Int) ≤ (I : Int) := by omega
            have j1 : ¬ (I : Int) < (L : Int) := by omega
            clear t3
            obtain ⟨i3, i4⟩ := hy
            have I3 := Lib.hid i3
            have I4 := Lib.hid i4
            clear i3 i4 HCX
            go_wp2
            go_roundw
            case rel => exact ⟨k + 1, by omega, by go_num, by rw [I4.out, ← HNN.out], by rw [I3.out]; exact A6.out⟩
            case measure => simp [intOf]; omega
    · obtain rfl : k = n := by omega
      have HF1 := Lib.hid (show N = (s.P.filter (fun e => cf e.ct)).length from by rw [HNN.out, HN.out]; unfold NK; rw [List.take_length])
      have HF2 := Lib.hid (show PK cf s.P k = s.P.filter (fun e => !cf e.ct) from by rw [HN.out]; unfold PK; rw [List.take_length, List.drop_length, List.append_nil])
      go_wp2
      go_ret2
      refine ⟨(by rw [HF1.out]; rfl), ?_⟩
      obtain ⟨W', R', h1, h2, h3, h4, h5⟩ := HA.out
      rw [HF2.out] at h1
      exact ⟨W', R', h1, fun j hj => (h2 j hj).imp id (fun h => by omega), fun j hj => (h3 j hj).imp id (fun h => by omega), h4⟩
end Go.Proofs.Ytiffminhlimajaa
