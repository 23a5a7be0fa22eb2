/- PdcptxEnds: the walk. -/
import Derived.Test.YtiffminhlimajaaGreatZR
namespace Go.Proofs.YtiffminhlimajaaGreat
open Go.RowKit
set_option linter.unusedVariables false
attribute [local go_sem ↓] Go.wp_at_zero Go.wp_at_succ

section
variable {w0 w w' : World} {g : Nat} {s : TS}
/-- Submit of one byte -/
theorem solo_sub1 (h : Solo w0 w g s) (hf : s.Fine) (hcm : s.C.cm = false) (hql : s.Q.length ≤ 1000000) (t : Int) (ht1 : -9223372036854775808 ≤ t) (ht2 : t ≤ 9223372036854775807) (v : Int) (hv : 0 ≤ v ∧ v < 256) :
    Calls Tryz.prog 22 #[.pointer (some ⟨g, 0, none⟩), .int .i64 t, .slice (some ⟨w.heap.size, 0, none⟩) 1 1] (w.alloc (.cells #[.int .u8 v] 5)) fun e w' => e = .returned (.int .i64 (s.submit t 1 (fun _ => v)).1) ∧ Solo w0 w' g (s.submit t 1 (fun _ => v)).2 := by
  obtain ⟨W, R, hI, hW, hc⟩ := h.call
  have hb : Below w.heap.size w (w.alloc (.cells #[.int .u8 v] 5)) := (Below.refl _ _).alloc (Nat.le_refl _) _
  have hB : Blk (w.alloc (.cells #[.int .u8 v] 5)) w.heap.size 5 #[.int .u8 v] := Blk.new _ _ _
  refine (tsubmit_ok g s W R _ (hI.below hb) hf hcm hql t ht1 ht2 (some ⟨w.heap.size, 0, none⟩) 1 1 (fun _ => v) ⟨fun _ => ⟨_, _, rfl, by simp, fun j hj => ?_⟩, fun j hj => hv, fun a ha _ hw => ?_⟩ (by decide)).mono ?_
  · obtain rfl : j = 0 := by omega
    rw [Nat.zero_add, hB.cell]
    rfl
  · cases ha
    have := hI.win _ hw
    exact absurd this (Nat.lt_irrefl _)
  · rintro e w' ⟨he, hO⟩
    exact ⟨he, hc _ _ (TxO.comp (fun _ h => .inl h) (fun _ h => .inl h) (KeepF.of_below hb) hO)⟩
theorem solo_queued (h : Solo w0 w g s) : Calls Tryz.prog 23 #[.pointer (some ⟨g, 0, none⟩)] w fun e w' => e = .returned (.int .i64 (s.Q.length : Nat)) ∧ w = w' := by
  obtain ⟨W, R, ⟨qA, qc, lq, pA, pc, lp, ub, cb, hT⟩, _⟩ := h
  have c1 := hT.cq
  have hl : (s.Q.length : Nat) = lq.length := by rw [← hT.qv, List.length_map]
  rw [hl]
  obtain ⟨n, hn⟩ : ∃ n, n = lq.length := ⟨_, rfl⟩
  rw [← hn] at c1 ⊢
  clear hT hl hn
  go_enter Tryz.func23, Tryz.ntmps23
  go_wp2
  go_ret
  exact ⟨rfl, rfl⟩
theorem solo_export (h : Solo w0 w g s) (hn : s.P.length ≤ 1000000 ∧ s.Q.length ≤ 1000000) :
    Calls Tryz.prog 24 #[.pointer (some ⟨g, 0, none⟩)] w fun e w' => ∃ pA pn pc qA qn qc, e = .returned (.agg #[.int .u32 (s.next % 4294967296), .bool (decide (s.next = 4294967296)), .slice pA pn pc, .slice qA qn qc]) ∧ Solo w0 w' g s ∧ Below w.heap.size w w' := by
  obtain ⟨W, R, hI, hW, hc⟩ := h.call
  refine (texport_ok g s W R w hI hn).mono ?_
  rintro e w' ⟨pA, pc, lp, qA, qc, lq, he, hF, hB⟩
  exact ⟨pA, _, pc, qA, _, qc, he, h.below hB, hB⟩
end
def cfE (ac : Bool) : Cfg := { Cfg.zero with ac := ac }
theorem cfE_lit (ac : Bool) : (cfE ac).arr = #[.int .i64 0, .int .i64 0, .int .u8 0, .int .u8 0, .int .u8 0, .int .u8 0, .int .u8 0, .int .u8 0, .int .u8 0, .int .u8 0, .int .u8 0, .int .u8 0, .int .u8 0, .int .u8 0, .int .u8 0, .int .u8 0, .int .u8 0, .int .u8 0, .int .u8 0, .int .u8 0, .int .u8 0, .int .u8 0, .int .u8 0, .int .u8 0, .int .u8 0, .int .u8 0, .int .u8 0, .int .u8 0, .int .u8 0, .int .u8 0, .int .u8 0, .int .u8 0, .int .u8 0, .int .u8 0, .bool false, .bool false, .bool ac, .int .i64 0, .int .i64 0] := by kernel_rfl
theorem cfE_ok (ac : Bool) : (cfE ac).Ok := ⟨fun _ _ => ⟨Int.le_refl 0, by show (0 : Int) < 256; decide⟩, fun _ _ => ⟨Int.le_refl 0, by show (0 : Int) < 256; decide⟩⟩
theorem cfE_valid (ac : Bool) : (cfE ac).Valid := by
  show (0 : Int) ≤ 0 ∧ (0 : Int) ≤ 31 ∧ ((0 : Int) = 0 ∨ (0 : Int) = 1) ∧ (0 : Int) ≤ 0 ∧ (0 : Int) ≤ 1073741824 ∧ (0 : Int) ≤ 0 ∧ (0 : Int) ≤ 1073741824
  decide
theorem fineE {ac : Bool} {s : TS} (h : s.C = cfE ac) (hq : ∀ q, q ∈ s.Q → q.at_ = 0) (hn : s.now = 0) : s.Fine := ⟨by rw [h]; exact cfE_ok ac, by rw [h]; exact cfE_valid ac, fun q h2 => by rw [hq q h2, hn]; exact ⟨Int.le_refl _, Int.le_refl _⟩⟩
/-- the packets; what is pending -/
def eq1 (k : Nat) : QV := ⟨1, fun _ => (k : Int), 0⟩
def eP (N0 : Int) (j : Nat) : PV := ⟨N0 + j, 1, fun _ => (j : Int), false⟩
def eS (ac : Bool) (N0 : Int) (i : Nat) : TS := ⟨cfE ac, 0, N0, (List.range i).map eq1, [], [kArr (cfE ac).key], cNew⟩
def nS (ac : Bool) (N0 : Int) (m k : Nat) : TS := ⟨cfE ac, 0, N0 + k, ((List.range m).map eq1).drop k, if ac = true then (List.range k).map (eP N0) else [], [kArr (cfE ac).key], cNew⟩
theorem eS_fine (ac : Bool) (N0 : Int) (i : Nat) : (eS ac N0 i).Fine := fineE rfl (fun q hq => by
  obtain ⟨k, _, rfl⟩ := List.mem_map.1 hq
  rfl) rfl
theorem nS_fine (ac : Bool) (N0 : Int) (m k : Nat) : (nS ac N0 m k).Fine := fineE rfl (fun q hq => by
  obtain ⟨k, _, rfl⟩ := List.mem_map.1 (List.mem_of_mem_drop hq)
  rfl) rfl
theorem eS_submit (ac : Bool) (N0 : Int) (i : Nat) : (eS ac N0 i).submit 0 1 (fun _ => (i : Int)) = (0, eS ac N0 (i + 1)) := by
  unfold TS.submit
  rw [if_neg (by decide), if_neg (by decide), if_neg (by decide), tick0 rfl rfl]
  unfold eS
  rw [List.range_succ, List.map_append]
  rfl
theorem eS_nS (ac : Bool) (N0 : Int) (m : Nat) : eS ac N0 m = nS ac N0 m 0 := by
  unfold eS nS
  simp
theorem nS_rep (ac : Bool) (N0 : Int) (m k : Nat) : firstRep (nS ac N0 m k).P = none := firstRep_no (fun e he => by
  unfold nS at he
  dsimp only at he
  split at he
  · obtain ⟨j, _, rfl⟩ := List.mem_map.1 he
    rfl
  · cases he)
theorem nS_Q (ac : Bool) (N0 : Int) (m k : Nat) (hk : k < m) : (nS ac N0 m k).Q = eq1 k :: ((List.range m).map eq1).drop (k + 1) := by
  unfold nS
  dsimp only
  rw [List.drop_eq_getElem_cons (by simpa using hk)]
  simp
theorem nS_full (ac : Bool) (N0 : Int) (m k : Nat) (hk : k ≤ 100) : (nS ac N0 m k).full = false := by
  unfold TS.full nS
  dsimp only
  cases ac
  · rfl
  · rw [if_pos rfl]
    cases k with
    | zero => rfl
    | succ k =>
      rw [List.range_succ_eq_map, List.map_cons]
      show decide (2048 ≤ (N0 + ((k + 1 : Nat) : Int) - (N0 + ((0 : Nat) : Int))) % 18446744073709551616) = false
      exact decide_eq_false (by omega)
theorem nS_next (ac : Bool) (N0 : Int) (m k : Nat) : (nS ac N0 m k).next = N0 + k := rfl
theorem nS_send (ac : Bool) (N0 : Int) (m k : Nat) (hk : k < m) (hk2 : k ≤ 100) (hn : N0 + k ≠ 4294967296) : ((nS ac N0 m k).send 0).e = 0 ∧ ((nS ac N0 m k).send 0).ct = N0 + k ∧ ((nS ac N0 m k).send 0).s = nS ac N0 m (k + 1) := by
  have hs : (nS ac N0 m k).send 0 = ⟨pduN (cfE ac) 1, pduZ (cfE ac) (N0 + k).toNat 1 (nf (eq1 k).z), N0 + k, 0, nS ac N0 m (k + 1)⟩ := by
    unfold TS.send
    rw [if_neg (by decide), nS_rep, tick0 rfl rfl]
    dsimp only
    rw [nS_Q ac N0 m k hk]
    dsimp only
    rw [nS_next, if_neg hn, nS_full ac N0 m k hk2, if_neg (by decide)]
    unfold nS
    dsimp only
    rw [List.range_succ, List.map_append]
    cases ac
    · simp [Int.add_assoc, cfE, eq1]
    · simp [Int.add_assoc, cfE, eq1, eP]
  rw [hs]
  exact ⟨rfl, rfl, rfl⟩
theorem nS_used (ac : Bool) (N0 : Int) (m k : Nat) (hk : k < m) (hn : N0 + k = 4294967296) : (nS ac N0 m k).send 0 = ⟨0, zB, 0, 460, nS ac N0 m k⟩ := by
  unfold TS.send
  rw [if_neg (by decide), nS_rep, tick0 rfl rfl]
  dsimp only
  rw [nS_Q ac N0 m k hk]
  dsimp only
  rw [nS_next, if_pos hn]
set_option maxRecDepth 100000 in
set_option maxHeartbeats 3200000 in
theorem ends_walk (le pk : Int) (ac : Bool) (hle : -9223372036854775808 ≤ le ∧ le ≤ 9223372036854775807) (hpk : -9223372036854775808 ≤ pk ∧ pk ≤ 9223372036854775807) (w : World) : Calls Tryz.prog 8 #[.int .i64 le, .int .i64 pk, .bool ac] w fun e w' => e = .returned (.bool true) ∧ Below w.heap.size w w' := by
  have HKN := Lib.hid (fun V => known45_true V)
  obtain ⟨hl1, hl2⟩ := hle
  obtain ⟨hp1, hp2⟩ := hpk
  by_cases g1 : le < 0
  · go_enter Tryz.func8, Tryz.ntmps8
    go_wp2_with (go_at_call 17; with_reducible refine (HKN.out _).mono ?_; rintro e w9 ⟨rfl, hB⟩; have E9 := Lib.hid hB; clear hB)
    go_ret
    exact ⟨rfl, E9.out⟩
  by_cases g2 : 20 < le
  · go_enter Tryz.func8, Tryz.ntmps8
    go_wp2_with (go_at_call 17; with_reducible refine (HKN.out _).mono ?_; rintro e w9 ⟨rfl, hB⟩; have E9 := Lib.hid hB; clear hB)
    go_ret
    exact ⟨rfl, E9.out⟩
  by_cases g3 : pk < 0
  · go_enter Tryz.func8, Tryz.ntmps8
    go_wp2_with (go_at_call 17; with_reducible refine (HKN.out _).mono ?_; rintro e w9 ⟨rfl, hB⟩; have E9 := Lib.hid hB; clear hB)
    go_ret
    exact ⟨rfl, E9.out⟩
  by_cases g4 : 30 < pk
  · go_enter Tryz.func8, Tryz.ntmps8
    go_wp2_with (go_at_call 17; with_reducible refine (HKN.out _).mono ?_; rintro e w9 ⟨rfl, hB⟩; have E9 := Lib.hid hB; clear hB)
    go_ret
    exact ⟨rfl, E9.out⟩
  obtain ⟨L, rfl⟩ : ∃ L : Nat, le = (L : Int) := ⟨le.toNat, by omega⟩
  obtain ⟨M, rfl⟩ : ∃ M : Nat, pk = (M : Int) := ⟨pk.toNat, by omega⟩
  have HL : Hid (L ≤ 20) := Lib.hid (by omega)
  have HM : Hid (M ≤ 30) := Lib.hid (by omega)
  have hl3 : (L : Int) < 18446744073709551616 := by omega
  have hl4 : (0 : Int) ≤ (L : Int) := by omega
  have hl5 : (0 : Int) ≤ 4294967296 - (L : Int) := by omega
  have hl6 : 4294967296 - (L : Int) < 18446744073709551616 := by omega
  go_enter Tryz.func8, Tryz.ntmps8
  go_upto_region 4 with (fail)
  obtain ⟨nx, hnx⟩ : ∃ nx, nx = -(L : Int) % 4294967296 := ⟨_, rfl⟩
  obtain ⟨us, hus⟩ : ∃ us, us = ((L : Int) == 0) := ⟨_, rfl⟩
  obtain ⟨N0, hN0⟩ : ∃ N0, N0 = 4294967296 - (L : Int) := ⟨_, rfl⟩
  have HN0 := Lib.hid hN0
  have hnx0 : 0 ≤ nx ∧ nx < 4294967296 := by rw [hnx]; omega
  have HNU : Hid (nextOf nx us = N0 ∧ (us = true → nx = 0)) := Lib.hid (by
    rw [hnx, hus, hN0]
    unfold nextOf
    rcases Nat.eq_zero_or_pos L with h0 | h0
    · subst h0
      exact ⟨rfl, fun _ => rfl⟩
    · have hb : ((L : Int) == 0) = false := by simp; omega
      rw [hb, if_neg (by decide)]
      exact ⟨by omega, fun h => by cases h⟩)
  obtain ⟨fb, hfb⟩ : ∃ fb, fb = w.heap.size := ⟨_, rfl⟩
  refine wp_let (fun V => Blk V fb 36 #[.int .u32 nx, .bool us, .slice none 0 0, .slice none 0 0] ∧ Below w.heap.size w V) (by rw [hfb, hnx, hus]; exact ⟨Blk.new _ _ _, (Below.refl _ w).alloc (Nat.le_refl _) _⟩) ?_
  rintro V ⟨v1, v2⟩
  have x0 := v1.cell 0
  have x1 := v1.cell 1
  have x2 := v1.cell 2
  have x3 := v1.cell 3
  simp only [List.getElem?_toArray, List.getElem?_cons_zero, List.getElem?_cons_succ] at x0 x1 x2 x3
  have D1 := Lib.hid v2
  have HR : Hid (Calls Tryz.prog 15 #[.agg (cfE ac).arr, .agg #[.int .u32 nx, .bool us, .slice none 0 0, .slice none 0 0]] V fun e w' => ∃ g, e = .returned (.tuple #[.pointer (some ⟨g, 0, none⟩), .int .i64 0]) ∧ Solo w w' g (eS ac N0 0)) := Lib.hid ((tresume_ok (cfE ac) none none 0 0 0 0 nx us (fun _ => 0) (fun _ => none) (fun _ => 0) (fun _ => 0) (fun _ _ => 0) (fun _ => none) (fun _ => 0) (fun _ => 0) (fun _ _ => 0) V hnx0 (by omega) (by omega) (Cnts.empty V) (BRows.empty V) (cfE_valid ac) ⟨HNU.out.2, fun h => absurd h (by omega), fun k hk => absurd hk (by omega), fun h => absurd h (by omega), fun k hk => absurd hk (by omega)⟩).mono (by
    rintro e w' ⟨g, W, R, rfl, hI, hW, hR, hB⟩
    have hl := D1.out
    refine ⟨g, rfl, W, R, ?_, fun k hk => Nat.le_trans hl.size (hW k hk), hl.trans (hB.mono hl.size)⟩
    rw [HNU.out.1] at hI
    exact hI))
  rw [cfE_lit] at HR
  rw [← hfb, ← hnx, ← hus]
  clear v1 v2 hnx hus hN0 hfb
  go_wp2_with (go_at_call 15; with_reducible refine (HR.out).mono ?_; rintro e w4 ⟨g, rfl, hS⟩; have S4 := Lib.hid hS; clear hS)
  go_loopw [10] (fun v wr => ∃ i : Nat, i ≤ M ∧ v = .int .i64 i ∧ Solo w wr g (eS ac N0 i)) (fun v _ => M - (intOf v).toNat)
  case atStart => exact ⟨0, by omega, rfl, S4.out⟩
  case round =>
    obtain ⟨i, hi, rfl, hS⟩ := hrel
    have SI := Lib.hid hS
    clear hS
    by_cases hlt : i < M
    · have i0 : (0 : Int) ≤ (i : Int) := by omega
      have i1 : (i : Int) < 256 := by have := HM.out; omega
      have i2 : (i : Int) < (M : Int) := by omega
      have HSB := Lib.hid (solo_sub1 SI.out (eS_fine ac N0 i) rfl (by unfold eS; dsimp only; rw [List.length_map, List.length_range]; have := HM.out; omega) 0 (by decide) (by decide) (i : Int) ⟨i0, i1⟩)
      rw [eS_submit] at HSB
      go_wp2_with (go_at_call 22; with_reducible refine (HSB.out).mono ?_; rintro e w5 ⟨rfl, hS⟩; have S5 := Lib.hid hS; clear hS)
      go_roundw
      case rel => first | exact ⟨i + 1, by omega, by go_num, S5.out⟩ | (((repeat apply Exists.intro); refine ⟨?_, rfl⟩); exact ⟨i + 1, by omega, by go_num, S5.out⟩)
      case measure => simp [intOf]; omega
    · obtain rfl : i = M := by omega
      go_wp2
      have SN := Lib.hid (eS_nS ac N0 i ▸ SI.out)
      go_loopw [11] (fun v wq => ∃ k : Nat, k ≤ i ∧ v = .int .i64 k ∧ Solo w wq g (nS ac N0 i (min k L))) (fun v _ => i - (intOf v).toNat)
      case atStart => exact ⟨0, by omega, rfl, by rw [Nat.zero_min]; exact SN.out⟩
      case round =>
        obtain ⟨k, hk, rfl, hS⟩ := hrel
        have SK := Lib.hid hS
        clear hS SI SN
        by_cases hlk : k < i
        · have k0 : (0 : Int) ≤ (k : Int) := by omega
          have k2 : (k : Int) < (i : Int) := by omega
          have HX := Lib.hid (solo_next SK.out (nS_fine ac N0 i (min k L)) rfl rfl (by
            unfold nS
            dsimp only
            split
            · rw [List.length_map, List.length_range]; have := HL.out; omega
            · exact Nat.zero_le _) 0 (by decide) (by decide))
          by_cases hkL : k < L
          · have k3 : (k : Int) < (L : Int) := by omega
            have hmn : min k L = k := by omega
            rw [hmn] at HX
            have hsd := nS_send ac N0 i k hlk (by have := HM.out; omega) (by rw [HN0.out]; omega)
            rw [hsd.1, hsd.2.1, hsd.2.2] at HX
            obtain ⟨x, hx⟩ : ∃ x, x = N0 + (k : Int) := ⟨_, rfl⟩
            rw [← hx] at HX
            have k4 : (0 : Int) ≤ (L : Int) - (k : Int) := by omega
            have k5 : (L : Int) - (k : Int) < 18446744073709551616 := by omega
            have k6 : (0 : Int) ≤ x := by rw [hx, HN0.out]; omega
            have k7 : x < 18446744073709551616 := by rw [hx, HN0.out]; omega
            obtain ⟨d, hd⟩ : ∃ d, d = (L : Int) - (k : Int) := ⟨_, rfl⟩
            have kd : (L : Int) - (k : Int) = d := hd.symm
            have k8 : x = 4294967296 - d := by rw [hd, hx, HN0.out]; omega
            have kc1 : (0 : Int) ≤ 4294967296 - d := by omega
            have kc2 : 4294967296 - d < 18446744073709551616 := by omega
            have k9 : (0 : Int) ≤ d := by omega
            have ka : d < 18446744073709551616 := by omega
            have HKX := Lib.hid hx
            subst k8
            clear hx hd
            clear hsd
            have hkb : (k : Int) < 256 := by have := HM.out; omega
            clear hmn hi hl5 hl6 hl1 hl2 hl3 hl4 hnx0 g1 g2 g3 g4 hk hp1 hp2
            go_wp2_with (go_at_call 18; with_reducible refine (HX.out).mono ?_; rintro e w6 ⟨A, c, he, _, _, hS⟩; subst he; have S6 := Lib.hid hS; clear hS)
            go_roundw
            case rel => first | exact ⟨k + 1, by omega, by go_num, by rw [show min (k + 1) L = k + 1 by omega]; exact S6.out⟩ | (((repeat apply Exists.intro); refine ⟨?_, rfl⟩); exact ⟨k + 1, by omega, by go_num, by rw [show min (k + 1) L = k + 1 by omega]; exact S6.out⟩)
            case measure => simp [intOf]; omega
          · have k3 : ¬ (k : Int) < (L : Int) := by omega
            have hmn : min k L = L := by omega
            rw [hmn, nS_used ac N0 i L (by omega) (by rw [HN0.out]; omega)] at HX
            have k4 : (L : Int) ≤ (k : Int) := by omega
            have hkb : (k : Int) < 256 := by have := HM.out; omega
            clear hmn hi hl5 hl6 hl1 hl2 hl3 hl4 hnx0 g1 g2 g3 g4 hk hp1 hp2
            go_wp2_with (go_at_call 18; with_reducible refine (HX.out).mono ?_; rintro e w6 ⟨A, c, he, _, _, hS⟩; subst he; have S6 := Lib.hid hS; clear hS)
            go_roundw
            case rel => first | exact ⟨k + 1, by omega, by go_num, by rw [show min (k + 1) L = L by omega]; exact S6.out⟩ | (((repeat apply Exists.intro); refine ⟨?_, rfl⟩); exact ⟨k + 1, by omega, by go_num, by rw [show min (k + 1) L = L by omega]; exact S6.out⟩)
            case measure => simp [intOf]; omega
        · obtain rfl : k = i := by omega
          by_cases hLk : L ≤ k
          · rw [show min k L = L by omega] at SK
            have HEX := Lib.hid (solo_export SK.out (by
              constructor
              · unfold nS
                dsimp only
                split
                · rw [List.length_map, List.length_range]; have := HM.out; omega
                · exact Nat.zero_le _
              · unfold nS
                dsimp only
                rw [List.length_drop, List.length_map, List.length_range]; have := HM.out; omega))
            rw [nS_next, show decide (N0 + ((L : Nat) : Int) = 4294967296) = true from decide_eq_true (by rw [HN0.out]; omega)] at HEX
            have HQL : Hid ((nS ac N0 k L).Q.length = k - L) := Lib.hid (by unfold nS; dsimp only; rw [List.length_drop, List.length_map, List.length_range])
            obtain ⟨nx2, hnx2⟩ : ∃ nx2, nx2 = (N0 + ((L : Nat) : Int)) % 4294967296 := ⟨_, rfl⟩
            rw [← hnx2] at HEX
            clear hnx2
            have f1 : (((k - L : Nat) : Nat) : Int) = (k : Int) - (L : Int) := by omega
            have f2 : (0 : Int) ≤ (k : Int) - (L : Int) := by omega
            have f3 : (L : Int) ≤ (k : Int) := by omega
            have f4 : ¬ (k : Int) - (L : Int) < 0 := by omega
            have f5 : (k : Int) - (L : Int) ≤ 9223372036854775807 := by have := HM.out; omega
            have f6 : -9223372036854775808 ≤ (k : Int) - (L : Int) := by omega
            go_wp2_with (first
              | (go_at_call 24; with_reducible refine (HEX.out).mono ?_; rintro e w7 ⟨pA, pn, pc, qA, qn, qc, rfl, hS, hB⟩; have S7 := Lib.hid (hS.below ((Below.refl _ w7).alloc (Nat.le_refl _) (.cells #[.int .u32 nx2, .bool true, .slice pA pn pc, .slice qA qn qc] 36))); have HQ7 := Lib.hid (HQL.out ▸ solo_queued S7.out); clear hS hB)
              | (go_at_call 23; with_reducible refine (HQ7.out).mono ?_; rintro e w8 ⟨rfl, rfl⟩)
              | (go_at_call 17; with_reducible refine (HKN.out _).mono ?_; rintro e w9 ⟨rfl, hB⟩; have E9 := Lib.hid hB; clear hB))
            go_ret
            have h7 := S7.out.low
            exact ⟨rfl, h7.trans (E9.out.mono h7.size)⟩
          · rw [show min k L = k by omega] at SK
            have HEX := Lib.hid (solo_export SK.out (by
              constructor
              · unfold nS
                dsimp only
                split
                · rw [List.length_map, List.length_range]; have := HM.out; omega
                · exact Nat.zero_le _
              · unfold nS
                dsimp only
                rw [List.length_drop, List.length_map, List.length_range]; have := HM.out; omega))
            rw [nS_next, show decide (N0 + ((k : Nat) : Int) = 4294967296) = false from decide_eq_false (by rw [HN0.out]; omega)] at HEX
            have HQL : Hid ((nS ac N0 k k).Q.length = 0) := Lib.hid (by unfold nS; dsimp only; rw [List.length_drop, List.length_map, List.length_range]; omega)
            obtain ⟨nx2, hnx2⟩ : ∃ nx2, nx2 = (N0 + ((k : Nat) : Int)) % 4294967296 := ⟨_, rfl⟩
            rw [← hnx2] at HEX
            clear hnx2
            have f3 : ¬ (L : Int) ≤ (k : Int) := by omega
            have f4 : (k : Int) - (L : Int) < 0 := by omega
            have f5 : (k : Int) - (L : Int) ≤ 9223372036854775807 := by omega
            have f6 : -9223372036854775808 ≤ (k : Int) - (L : Int) := by have := HL.out; omega
            go_wp2_with (first
              | (go_at_call 24; with_reducible refine (HEX.out).mono ?_; rintro e w7 ⟨pA, pn, pc, qA, qn, qc, rfl, hS, hB⟩; have S7 := Lib.hid (hS.below ((Below.refl _ w7).alloc (Nat.le_refl _) (.cells #[.int .u32 nx2, .bool false, .slice pA pn pc, .slice qA qn qc] 36))); have HQ7 := Lib.hid (HQL.out ▸ solo_queued S7.out); clear hS hB)
              | (go_at_call 23; with_reducible refine (HQ7.out).mono ?_; rintro e w8 ⟨rfl, rfl⟩)
              | (go_at_call 17; with_reducible refine (HKN.out _).mono ?_; rintro e w9 ⟨rfl, hB⟩; have E9 := Lib.hid hB; clear hB))
            go_ret
            have h7 := S7.out.low
            exact ⟨rfl, h7.trans (E9.out.mono h7.size)⟩
end Go.Proofs.YtiffminhlimajaaGreat
