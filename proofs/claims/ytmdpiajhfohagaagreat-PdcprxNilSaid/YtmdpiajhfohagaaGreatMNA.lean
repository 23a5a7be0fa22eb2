/- SameForward of the reference is true of states that read alike. PdcprxNil: the walk. Printed by gen/xcn.py. -/
import Derived.Test.YtmdpiajhfohagaaGreatMGI
import Derived.Test.YtmdpiajhfohagaaGreatMDG
namespace Go.Proofs.YtmdpiajhfohagaaGreat
open Go.RowKit
set_option linter.unusedVariables false
attribute [local go_sem ↓] Go.wp_at_zero Go.wp_at_succ

/-- element k of a slice of counted packets; of a slice of packets -/
def CE2 (w : World) (A : Option Addr) (k : Nat) (ct : Int) (n : Nat) (z : Nat → Int) : Prop :=
  ∃ lb lo PA pc, A = some ⟨lb, lo, none⟩ ∧ lb < w.heap.size ∧ w.cell? ⟨lb, lo + k * 2, none⟩ = some (.int .u32 ct) ∧ w.cell? ⟨lb, lo + k * 2 + 1, none⟩ = some (.slice PA n pc) ∧ Row w w.heap.size PA n (fun j => .int .u8 (z j))
def BE2 (w : World) (A : Option Addr) (k : Nat) (n : Nat) (z : Nat → Int) : Prop :=
  ∃ lb lo PA pc, A = some ⟨lb, lo, none⟩ ∧ lb < w.heap.size ∧ w.cell? ⟨lb, lo + k, none⟩ = some (.slice PA n pc) ∧ Row w w.heap.size PA n (fun j => .int .u8 (z j))
theorem CE2.below {w w' : World} {A : Option Addr} {k : Nat} {ct : Int} {n : Nat} {z : Nat → Int} (h : CE2 w A k ct n z) (hb : Below w.heap.size w w') : CE2 w' A k ct n z := by
  obtain ⟨lb, lo, PA, pc, h1, h2, h3, h4, h5⟩ := h
  exact ⟨lb, lo, PA, pc, h1, Nat.lt_of_lt_of_le h2 hb.size, (hb.cell (p := ⟨lb, lo + k * 2, none⟩) h2).trans h3, (hb.cell (p := ⟨lb, lo + k * 2 + 1, none⟩) h2).trans h4, h5.next hb⟩
theorem BE2.below {w w' : World} {A : Option Addr} {k : Nat} {n : Nat} {z : Nat → Int} (h : BE2 w A k n z) (hb : Below w.heap.size w w') : BE2 w' A k n z := by
  obtain ⟨lb, lo, PA, pc, h1, h2, h3, h5⟩ := h
  exact ⟨lb, lo, PA, pc, h1, Nat.lt_of_lt_of_le h2 hb.size, (hb.cell (p := ⟨lb, lo + k, none⟩) h2).trans h3, h5.next hb⟩
def SameC (w : World) (A A' : Option Addr) (m : Nat) : Prop := ∀ k, k < m → ∃ ct n z z', CE2 w A k ct n z ∧ CE2 w A' k ct n z' ∧ ∀ j, j < n → z j = z' j
def SameB (w : World) (A A' : Option Addr) (m : Nat) : Prop := ∀ k, k < m → ∃ n z z', BE2 w A k n z ∧ BE2 w A' k n z' ∧ ∀ j, j < n → z j = z' j
theorem SameC.below {w w' : World} {A A' : Option Addr} {m : Nat} (h : SameC w A A' m) (hb : Below w.heap.size w w') : SameC w' A A' m := fun k hk => by
  obtain ⟨ct, n, z, z', h1, h2, h3⟩ := h k hk
  exact ⟨ct, n, z, z', h1.below hb, h2.below hb, h3⟩
theorem SameB.below {w w' : World} {A A' : Option Addr} {m : Nat} (h : SameB w A A' m) (hb : Below w.heap.size w w') : SameB w' A A' m := fun k hk => by
  obtain ⟨n, z, z', h1, h2, h3⟩ := h k hk
  exact ⟨n, z, z', h1.below hb, h2.below hb, h3⟩
set_option maxRecDepth 100000 in
set_option maxHeartbeats 1600000 in
theorem samec_true (A A' : Option Addr) (m c c' : Nat) (w : World) (hm : m ≤ maxLen) (h : SameC w A A' m) :
    Calls Tryz.prog 51 #[.slice A m c, .slice A' m c'] w fun e w' => e = .returned (.bool true) ∧ Below w.heap.size w w' := by
  unfold maxLen at hm
  have HS := Lib.hid h
  have hm' : (m : Int) ≤ 9223372036854775807 := by omega
  clear h
  go_enter Tryz.func51, Tryz.ntmps51
  go_wp2
  go_loopw [5] (fun v wr => ∃ k : Nat, k ≤ m ∧ v = .int .i64 k ∧ Below w.heap.size w wr) (fun v _ => m - (intOf v).toNat)
  case atStart => exact ⟨0, by omega, rfl, Below.refl _ _⟩
  case round =>
    obtain ⟨k, hk, rfl, hb⟩ := hrel
    by_cases hlt : k < m
    · obtain ⟨ct, n, z, z', ⟨lb, lo, PA, pc, rfl, h2, h3, h4, h5⟩, ⟨lb', lo', PA', pc', rfl, k2, k3, k4, k5⟩, he⟩ := (HS.out.below hb) k hlt
      have s1 := fun q => row_string (P := Tryz.prog) (w := wr.drewN q) 41 9 5 Tryz.underlying41 Tryz.underlying5 Tryz.underlying9 (show Row (wr.drewN q) wr.heap.size PA n (fun j => .int .u8 (z j)) from h5) pc
      have s2 := fun q => row_string (P := Tryz.prog) (w := wr.drewN q) 41 9 5 Tryz.underlying41 Tryz.underlying5 Tryz.underlying9 (show Row (wr.drewN q) wr.heap.size PA' n (fun j => .int .u8 (z' j)) from k5) pc'
      rw [← bytesOf_congr he] at s2
      have BB := Lib.hid hb
      have k0 : (0 : Int) ≤ (k : Int) := by omega
      have k1 : (k : Int) < (m : Int) := by omega
      clear h5 k5 he hb
      go_upto_region 6 with (fail)
      have hg : (ct != ct) = false := by simp
      go_quiet (fail)
      go_wp2
      go_roundw
      case rel => exact ⟨k + 1, by omega, by go_num, below_drewN BB.out _⟩
      case measure => simp [intOf]; omega
    · obtain rfl : k = m := by omega
      have BB := Lib.hid hb
      clear hb
      go_wp2
      go_ret
      exact ⟨rfl, BB.out⟩
set_option maxRecDepth 100000 in
set_option maxHeartbeats 1600000 in
theorem samel_true (A A' : Option Addr) (m c c' : Nat) (w : World) (hm : m ≤ maxLen) (h : SameB w A A' m) :
    Calls Tryz.prog 15 #[.slice A m c, .slice A' m c'] w fun e w' => e = .returned (.bool true) ∧ Below w.heap.size w w' := by
  unfold maxLen at hm
  have HS := Lib.hid h
  have hm' : (m : Int) ≤ 9223372036854775807 := by omega
  clear h
  go_enter Tryz.func15, Tryz.ntmps15
  go_wp2
  go_loopw [5] (fun v wr => ∃ k : Nat, k ≤ m ∧ v = .int .i64 k ∧ Below w.heap.size w wr) (fun v _ => m - (intOf v).toNat)
  case atStart => exact ⟨0, by omega, rfl, Below.refl _ _⟩
  case round =>
    obtain ⟨k, hk, rfl, hb⟩ := hrel
    by_cases hlt : k < m
    · obtain ⟨n, z, z', ⟨lb, lo, PA, pc, rfl, h2, h3, h5⟩, ⟨lb', lo', PA', pc', rfl, k2, k3, k5⟩, he⟩ := (HS.out.below hb) k hlt
      have s1 := fun q => row_string (P := Tryz.prog) (w := wr.drewN q) 41 9 5 Tryz.underlying41 Tryz.underlying5 Tryz.underlying9 (show Row (wr.drewN q) wr.heap.size PA n (fun j => .int .u8 (z j)) from h5) pc
      have s2 := fun q => row_string (P := Tryz.prog) (w := wr.drewN q) 41 9 5 Tryz.underlying41 Tryz.underlying5 Tryz.underlying9 (show Row (wr.drewN q) wr.heap.size PA' n (fun j => .int .u8 (z' j)) from k5) pc'
      rw [← bytesOf_congr he] at s2
      have BB := Lib.hid hb
      have k0 : (0 : Int) ≤ (k : Int) := by omega
      have k1 : (k : Int) < (m : Int) := by omega
      clear h5 k5 he hb
      go_upto_region 6 with (fail)
      go_quiet (fail)
      go_wp2
      go_roundw
      case rel => exact ⟨k + 1, by omega, by go_num, below_drewN BB.out _⟩
      case measure => simp [intOf]; omega
    · obtain rfl : k = m := by omega
      have BB := Lib.hid hb
      clear hb
      go_wp2
      go_ret
      exact ⟨rfl, BB.out⟩
end Go.Proofs.YtmdpiajhfohagaaGreat
namespace Go.Proofs.YtmdpiajhfohagaaGreat
open Go.RowKit
set_option linter.unusedVariables false
attribute [local go_sem ↓] Go.wp_at_zero Go.wp_at_succ

theorem rsame_nil (w : World) : Calls Tryz.prog 23 #[.agg #[.int .u64 0, .int .u64 0, .slice none 0 0], .agg #[.int .u64 0, .int .u64 0, .slice none 0 0]] w fun e w' => e = .returned (.bool true) ∧ Below w.heap.size w w' := by
  have HC := Lib.hid (fun (V : World) => samec_true none none 0 0 0 V (Nat.zero_le _) (fun k hk => absurd hk (Nat.not_lt_zero k)))
  go_enter Tryz.func23, Tryz.ntmps23
  go_upto_region 1 with (fail)
  refine wp_let (fun V => Blk V w.heap.size 37 #[.int .u64 0, .int .u64 0, .slice none 0 0] ∧ Blk V (w.heap.size + 1) 37 #[.int .u64 0, .int .u64 0, .slice none 0 0] ∧ Below w.heap.size w V) ⟨(Blk.new _ _ _).alloc _, blk_atZ _ _ _ _ (by simp), ((Below.refl _ w).alloc (Nat.le_refl _) _).alloc (by simp) _⟩ ?_
  rintro W1 ⟨b1, b2, b3⟩
  have B1 := Lib.hid b1
  have B2 := Lib.hid b2
  have B3 := Lib.hid b3
  have x0 := b1.cell 0
  have x1 := b1.cell 1
  have x2 := b1.cell 2
  have y0 := b2.cell 0
  have y1 := b2.cell 1
  have y2 := b2.cell 2
  simp at x0 x1 x2 y0 y1 y2
  clear b1 b2 b3
  go_wp2_with (go_at_call 51; refine (HC.out _).mono ?_; rintro e w2 ⟨rfl, hb⟩; have B4 := Lib.hid (B3.out.trans (hb.mono B3.out.size)); clear hb)
  go_ret
  exact ⟨rfl, B4.out⟩
theorem held_ns {P : Program} {md : Region.Mode} {ops : Array Oper} {Q : Exit → Act → World → Prop} {S : World → Prop} {fuel : Nat} {listed : Array Bool} {a : Act} {w : World} (h : Region.noSelect ops = true) (k : Region.noSelect ops = true → wpAnyH P md ops Q S fuel listed a w) : wpAnyH P md ops Q S fuel listed a w := k h
theorem take_one {P : Program} {md : Region.Mode} {ops : Array Oper} {Q : Exit → Act → World → Prop} {S : World → Prop} {i : Nat} {oi : Oper} {v : Value} {fuel : Nat} {listed : Array Bool} {a : Act} {w : World} (hi : ops[i]? = some oi) (hr : Region.ready md ops listed = [i]) (hy : YieldsIf P ops S oi v a) (hS : S w)
    (h : wpAnyH P md ops Q S fuel (listed.setIfInBounds i true) (a.put oi.dst v) w) : wpAnyH P md ops Q S (fuel + 1) listed a w :=
  wpAnyH_all hr (by simp) (fun j hj => by
    obtain rfl : j = i := by simpa using hj
    exact hy.wpOp hi hS ⟨hS, h⟩)
theorem list_let {P : Program} {ops : Array Oper} {Q : Exit → Act → World → Prop} {rest : List Oper} {a : Act} {w : World} (R : World → Prop) (h : R w) (k : ∀ w', R w' → wpList P ops Q rest a w') : wpList P ops Q rest a w := k w h
set_option maxRecDepth 100000 in
set_option maxHeartbeats 64000000 in
theorem nil_walk46 (now : Int) (pdu : Value) (KY : Array Value) (hK : KY.size = 16) (w : World) : Calls Tryz.prog 5 #[.int .i64 now, pdu, .agg KY] w fun e w' => e = .returned (.bool true) ∧ Below w.heap.size w w' := by
  have HKN := Lib.hid (fun V => known_true V)
  have HSK : Hid ((Tryz.prog.info? 24).map (·.size) = some KY.size) := Lib.hid (by rw [hK]; kernel_rfl)
  have HUK := Lib.hid Tryz.underlying24
  have HS39 : Hid ((Tryz.prog.info? 26).map (·.size) = some z39.size) := Lib.hid sizePd
  clear hK
  go_enter Tryz.func5, Tryz.ntmps5
  go_upto_region 4 with (fail)
  obtain ⟨kb, hkb⟩ : ∃ kb, kb = w.heap.size := ⟨_, rfl⟩
  refine wp_let (fun V => Blk V kb 24 KY ∧ Blk V (kb + 1) 54 zRx ∧ Blk V (kb + 1 + 1) 30 #[.pointer none, .pointer (some ⟨kb + 1, 0, none⟩)] ∧ Below w.heap.size w V) (by
    rw [hkb]
    exact ⟨((Blk.new _ _ _).alloc _).alloc _, (blk_atZ _ _ _ _ (by simp)).alloc _, blk_atZ _ _ _ _ (by simp), (((Below.refl _ w).alloc (Nat.le_refl _) _).alloc (by simp only [World.size_alloc]; omega) _).alloc (by simp only [World.size_alloc]; omega) _⟩) ?_
  rintro V ⟨v1, v2, v3, v4⟩
  have V1 := Lib.hid v1
  have V2 := Lib.hid v2
  have V3 := Lib.hid v3
  have V4 := Lib.hid v4
  rw [← hkb]
  clear v1 v2 v3 v4 hkb
  go_wp2
  go_loopw [10] (fun v wr => ∃ i : Nat, i ≤ 2 ∧ v = .int .i64 i ∧ Below V.heap.size V wr) (fun v _ => 2 - (intOf v).toNat)
  case atStart => exact ⟨0, by omega, rfl, Below.refl _ _⟩
  case round =>
    obtain ⟨i, hi, rfl, hS⟩ := hrel
    have VB := Lib.hid hS
    clear hS
    by_cases hlt : i < 2
    · have i0 : (0 : Int) ≤ (i : Int) := by omega
      have i1 : (i : Int) < 2 := by omega
      obtain ⟨p, hp, hz⟩ : ∃ p, V.cell? ⟨kb + 1 + 1, i, none⟩ = some p ∧ RZ p V := by
        rcases (by omega : i = 0 ∨ i = 1) with rfl | rfl
        · exact ⟨_, V3.out.cell 0, .inl rfl⟩
        · exact ⟨_, V3.out.cell 1, .inr ⟨_, rfl, V2.out⟩⟩
      have HT := Lib.hid (fun (W' : World) (hb : Below wr.heap.size wr W') => hz.below (VB.out.trans (hb.mono VB.out.size)))
      have HC := Lib.hid (fun (W' : World) (hb : Below wr.heap.size wr W') => ((VB.out.trans (hb.mono VB.out.size)).cell (p := ⟨kb + 1 + 1, i, none⟩) V3.out.lt).trans hp)
      have HKB := Lib.hid (fun (W' : World) (hb : Below wr.heap.size wr W') => V1.out.below (VB.out.trans (hb.mono VB.out.size)) V1.out.lt)
      have E0 := Lib.hid (Below.refl wr.heap.size wr)
      have c0 := HC.out wr E0.out
      clear hp hz
      go_upto_region 11 with (first
        | (go_at_call 11; refine (recv_none p now pdu _ (HT.out _ E0.out).none).mono ?_; rintro e w1 ⟨rfl, hB⟩; have E1 := Lib.hid (E0.out.trans (hB.mono E0.out.size)); have c1 := HC.out _ E1.out; clear hB)
        | (go_at_call 16; refine (rtick_none p now _ (HT.out _ E1.out).none).mono ?_; rintro e w1b ⟨rfl, hB⟩; have E1b := Lib.hid (E1.out.trans (hB.mono E1.out.size)); have c1b := HC.out _ E1b.out; clear hB)
        | (go_at_call 17; refine (rconf_none p _ (HT.out _ E1b.out).none).mono ?_; rintro e w2 ⟨rfl, hB⟩; have E2 := Lib.hid (E1b.out.trans (hB.mono E1b.out.size)); have c2 := HC.out _ E2.out; clear hB)
        | (refine wpList_store_row rfl _ _ _ rfl w2.heap.size z39 rfl rfl 26 _ (Blk.new w2 _ _) HS39.out rfl z39_one ?_; refine list_let (fun X => Below wr.heap.size wr X) (belowRow (E2.out.alloc E2.out.size _) E2.out.size _) ?_; intro w3 hB; have E3 := Lib.hid hB; have c3 := HC.out _ E3.out; clear hB)
        | (go_at_call 18; refine (rstat_none p _ (HT.out _ E3.out).none).mono ?_; rintro e w4 ⟨rfl, hB⟩; have E4 := Lib.hid (E3.out.trans (hB.mono E3.out.size)); clear hB))
      have HSKL : Hid ((Tryz.prog.info? 24).map (·.size) = some KY.toList.length) := Lib.hid (by rw [Array.length_toList]; exact HSK.out)
      have HKR := Lib.hid (fun (W' : World) (hb : Below wr.heap.size wr W') => Blk.range (HKB.out W' hb) KY.toList (by rw [Array.toArray_toList]))
      obtain ⟨db, hdb⟩ : ∃ db, db = w2.heap.size := ⟨_, rfl⟩
      rw [← hdb]
      clear hdb c0 c1 c1b c2 c3
      obtain ⟨w0, hw0⟩ : ∃ w0, w0 = w4.drew := ⟨_, rfl⟩
      refine wp_region_held_drew (S := fun w' => Below wr.heap.size wr w') (by kernel_rfl) (E4.out.drew) (fun hHeld => ?_)
      rw [← hw0]
      rw [← hw0] at hHeld
      clear hw0
      refine held_ns (by kernel_rfl) (fun hns => ?_)
      refine wpAnyH_take (i := 0) (oi := ⟨some 62, _, _, _, _, _⟩) (v := .slice none 0 0) rfl hns (by kernel_rfl) (by kernel_rfl) (fun _ _ _ h => h) (Or.inl ⟨by rfl, fun W hW => (by rfl)⟩) (by assumption) ?_
      try simp only [Act.put, List.setIfInBounds_toArray, List.set_cons_zero, List.set_cons_succ]
      refine wpAnyH_take (i := 1) (oi := ⟨some 63, _, _, _, _, _⟩) (v := .int .i64 0) rfl hns (by kernel_rfl) (by kernel_rfl) (fun _ _ _ h => h) (Or.inl ⟨by rfl, fun W hW => (by go_simp)⟩) (by assumption) ?_
      try simp only [Act.put, List.setIfInBounds_toArray, List.set_cons_zero, List.set_cons_succ]
      refine wpAnyH_take (i := 2) (oi := ⟨some 64, _, _, _, _, _⟩) (v := .slice none 0 0) rfl hns (by kernel_rfl) (by kernel_rfl) (fun _ _ _ h => h) (Or.inl ⟨by rfl, fun W hW => (by rfl)⟩) (by assumption) ?_
      try simp only [Act.put, List.setIfInBounds_toArray, List.set_cons_zero, List.set_cons_succ]
      refine wpAnyH_take (i := 3) (oi := ⟨some 65, _, _, _, _, _⟩) (v := .int .i64 0) rfl hns (by kernel_rfl) (by kernel_rfl) (fun _ _ _ h => h) (Or.inl ⟨by rfl, fun W hW => (by go_simp)⟩) (by assumption) ?_
      try simp only [Act.put, List.setIfInBounds_toArray, List.set_cons_zero, List.set_cons_succ]
      refine wpAnyH_take (i := 4) (oi := ⟨some 66, _, _, _, _, _⟩) (v := .int .i64 0) rfl hns (by kernel_rfl) (by kernel_rfl) (fun _ _ _ h => h) (Or.inl ⟨by rfl, fun W hW => (by go_simp; rfl)⟩) (by assumption) ?_
      try simp only [Act.put, List.setIfInBounds_toArray, List.set_cons_zero, List.set_cons_succ]
      refine take_one (i := 5) (oi := ⟨some 67, _, _, _, _, _⟩) (v := .slice none 0 0) rfl (by kernel_rfl) (Or.inl ⟨by rfl, fun W hW => (by rfl)⟩) (by assumption) ?_
      try simp only [Act.put, List.setIfInBounds_toArray, List.set_cons_zero, List.set_cons_succ]
      refine take_one (i := 6) (oi := ⟨some 68, _, _, _, _, _⟩) (v := .int .i64 0) rfl (by kernel_rfl) (Or.inl ⟨by rfl, fun W hW => (by go_simp)⟩) (by assumption) ?_
      try simp only [Act.put, List.setIfInBounds_toArray, List.set_cons_zero, List.set_cons_succ]
      refine take_one (i := 7) (oi := ⟨some 69, _, _, _, _, _⟩) (v := .int .i64 0) rfl (by kernel_rfl) (Or.inl ⟨by rfl, fun W hW => (by go_simp; rfl)⟩) (by assumption) ?_
      try simp only [Act.put, List.setIfInBounds_toArray, List.set_cons_zero, List.set_cons_succ]
      as_aux_lemma =>
        refine take_one (i := 8) (oi := ⟨some 70, _, _, _, _, _⟩) (v := .bool false) rfl (by kernel_rfl) (Or.inl ⟨by rfl, fun W hW => (by go_simp)⟩) (by assumption) ?_
        try simp only [Act.put, List.setIfInBounds_toArray, List.set_cons_zero, List.set_cons_succ]
        refine take_one (i := 9) (oi := ⟨some 71, _, _, _, _, _⟩) (v := .bool false) rfl (by kernel_rfl) (Or.inl ⟨by rfl, fun W hW => (by rfl)⟩) (by assumption) ?_
        try simp only [Act.put, List.setIfInBounds_toArray, List.set_cons_zero, List.set_cons_succ]
        refine take_one (i := 10) (oi := ⟨some 72, _, _, _, _, _⟩) (v := .int .i64 1) rfl (by kernel_rfl) (Or.inl ⟨by rfl, fun W hW => (by rfl)⟩) (by assumption) ?_
        try simp only [Act.put, List.setIfInBounds_toArray, List.set_cons_zero, List.set_cons_succ]
        refine take_one (i := 11) (oi := ⟨some 73, _, _, _, _, _⟩) (v := .bool false) rfl (by kernel_rfl) (Or.inl ⟨by rfl, fun W hW => (by go_simp)⟩) (by assumption) ?_
        try simp only [Act.put, List.setIfInBounds_toArray, List.set_cons_zero, List.set_cons_succ]
        refine take_one (i := 12) (oi := ⟨some 74, _, _, _, _, _⟩) (v := .bool false) rfl (by kernel_rfl) (Or.inl ⟨by rfl, fun W hW => (by rfl)⟩) (by assumption) ?_
        try simp only [Act.put, List.setIfInBounds_toArray, List.set_cons_zero, List.set_cons_succ]
        refine take_one (i := 13) (oi := ⟨some 75, _, _, _, _, _⟩) (v := .bool false) rfl (by kernel_rfl) (Or.inl ⟨by rfl, fun W hW => (by rfl)⟩) (by assumption) ?_
        try simp only [Act.put, List.setIfInBounds_toArray, List.set_cons_zero, List.set_cons_succ]
        refine take_one (i := 14) (oi := ⟨some 76, _, _, _, _, _⟩) (v := .int .i64 1) rfl (by kernel_rfl) (Or.inl ⟨by rfl, fun W hW => (by rfl)⟩) (by assumption) ?_
        try simp only [Act.put, List.setIfInBounds_toArray, List.set_cons_zero, List.set_cons_succ]
        refine take_one (i := 15) (oi := ⟨some 77, _, _, _, _, _⟩) (v := .bool false) rfl (by kernel_rfl) (Or.inl ⟨by rfl, fun W hW => (by go_simp)⟩) (by assumption) ?_
        try simp only [Act.put, List.setIfInBounds_toArray, List.set_cons_zero, List.set_cons_succ]
        as_aux_lemma =>
          refine take_one (i := 16) (oi := ⟨some 78, _, _, _, _, _⟩) (v := .bool false) rfl (by kernel_rfl) (Or.inl ⟨by rfl, fun W hW => (by rfl)⟩) (by assumption) ?_
          try simp only [Act.put, List.setIfInBounds_toArray, List.set_cons_zero, List.set_cons_succ]
          refine take_one (i := 17) (oi := ⟨some 79, _, _, _, _, _⟩) (v := .bool false) rfl (by kernel_rfl) (Or.inl ⟨by rfl, fun W hW => (by rfl)⟩) (by assumption) ?_
          try simp only [Act.put, List.setIfInBounds_toArray, List.set_cons_zero, List.set_cons_succ]
          refine take_one (i := 18) (oi := ⟨some 80, _, _, _, _, _⟩) (v := .int .i64 1) rfl (by kernel_rfl) (Or.inl ⟨by rfl, fun W hW => (by rfl)⟩) (by assumption) ?_
          try simp only [Act.put, List.setIfInBounds_toArray, List.set_cons_zero, List.set_cons_succ]
          refine take_one (i := 19) (oi := ⟨some 81, _, _, _, _, _⟩) (v := .bool false) rfl (by kernel_rfl) (Or.inl ⟨by rfl, fun W hW => (by go_simp)⟩) (by assumption) ?_
          try simp only [Act.put, List.setIfInBounds_toArray, List.set_cons_zero, List.set_cons_succ]
          refine take_one (i := 20) (oi := ⟨some 82, _, _, _, _, _⟩) (v := .bool false) rfl (by kernel_rfl) (Or.inl ⟨by rfl, fun W hW => (by rfl)⟩) (by assumption) ?_
          try simp only [Act.put, List.setIfInBounds_toArray, List.set_cons_zero, List.set_cons_succ]
          refine take_one (i := 21) (oi := ⟨some 83, _, _, _, _, _⟩) (v := .bool false) rfl (by kernel_rfl) (Or.inl ⟨by rfl, fun W hW => (by rfl)⟩) (by assumption) ?_
          try simp only [Act.put, List.setIfInBounds_toArray, List.set_cons_zero, List.set_cons_succ]
          refine take_one (i := 22) (oi := ⟨some 84, _, _, _, _, _⟩) (v := .int .u64 0) rfl (by kernel_rfl) (Or.inl ⟨by rfl, fun W hW => (by rfl)⟩) (by assumption) ?_
          try simp only [Act.put, List.setIfInBounds_toArray, List.set_cons_zero, List.set_cons_succ]
          refine take_one (i := 23) (oi := ⟨some 85, _, _, _, _, _⟩) (v := .bool false) rfl (by kernel_rfl) (Or.inl ⟨by rfl, fun W hW => (by go_simp)⟩) (by assumption) ?_
          try simp only [Act.put, List.setIfInBounds_toArray, List.set_cons_zero, List.set_cons_succ]
          as_aux_lemma =>
            refine take_one (i := 24) (oi := ⟨some 86, _, _, _, _, _⟩) (v := .bool false) rfl (by kernel_rfl) (Or.inl ⟨by rfl, fun W hW => (by rfl)⟩) (by assumption) ?_
            try simp only [Act.put, List.setIfInBounds_toArray, List.set_cons_zero, List.set_cons_succ]
            refine take_one (i := 25) (oi := ⟨some 87, _, _, _, _, _⟩) (v := .bool false) rfl (by kernel_rfl) (Or.inl ⟨by rfl, fun W hW => (by rfl)⟩) (by assumption) ?_
            try simp only [Act.put, List.setIfInBounds_toArray, List.set_cons_zero, List.set_cons_succ]
            refine' wpAnyH_take (i := 30) (oi := ⟨some 92, _, _, _, _, _⟩) (v := _) rfl hns (by kernel_rfl) (by kernel_rfl) (fun _ _ _ h => h) (yieldsIf_load_mid (by rfl) _ _ rfl kb 0 rfl KY.toList _ (fun w h => HKR.out w h) HUK.out rfl HSKL.out) (by assumption) ?_
            try simp only [Act.put, List.setIfInBounds_toArray, List.set_cons_zero, List.set_cons_succ]
            refine' wpAnyH_take (i := 31) (oi := ⟨some 93, _, _, _, _, _⟩) (v := _) rfl hns (by kernel_rfl) (by kernel_rfl) (fun _ _ _ h => h) (yieldsIf_load_mid (by rfl) _ _ rfl kb 0 rfl KY.toList _ (fun w h => HKR.out w h) HUK.out rfl HSKL.out) (by assumption) ?_
            try simp only [Act.put, List.setIfInBounds_toArray, List.set_cons_zero, List.set_cons_succ]
            refine wpAnyH_take (i := 26) (oi := ⟨some 88, _, _, _, _, _⟩) (v := .slice (some ⟨kb + 1 + 1, 0, none⟩) 2 2) rfl hns (by kernel_rfl) (by kernel_rfl) (fun _ _ _ h => h) (Or.inl ⟨by rfl, fun W hW => (by rfl)⟩) (by assumption) ?_
            try simp only [Act.put, List.setIfInBounds_toArray, List.set_cons_zero, List.set_cons_succ]
            refine take_one (i := 27) (oi := ⟨some 89, _, _, _, _, _⟩) (v := .int .i64 i) rfl (by kernel_rfl) (Or.inl ⟨by rfl, fun W hW => (by rfl)⟩) (by assumption) ?_
            try simp only [Act.put, List.setIfInBounds_toArray, List.set_cons_zero, List.set_cons_succ]
            refine take_one (i := 28) (oi := ⟨some 90, _, _, _, _, _⟩) (v := .pointer (some ⟨kb + 1 + 1, i, none⟩)) rfl (by kernel_rfl) (Or.inl ⟨by rfl, fun W hW => (by go_simp)⟩) (by assumption) ?_
            try simp only [Act.put, List.setIfInBounds_toArray, List.set_cons_zero, List.set_cons_succ]
            refine take_one (i := 29) (oi := ⟨some 91, _, _, _, _, _⟩) (v := p) rfl (by kernel_rfl) (Or.inl ⟨by rfl, fun W hW => (by have := HC.out W hW; go_simp)⟩) (by assumption) ?_
            try simp only [Act.put, List.setIfInBounds_toArray, List.set_cons_zero, List.set_cons_succ]
            as_aux_lemma =>
              refine wpAnyH_ready (rs := [32]) (by kernel_rfl) (by simp) ?_
              refine AllReadyH.cons (o := ⟨some 94, _, _, _, _, _⟩) rfl (fun K hK => ?_) AllReadyH.nil
              rw [if_pos (by rfl)]
              go_simp
              refine (rrekey_none p KY.toList.toArray KY.toList.toArray w0 (HT.out _ hHeld).none).mono ?_
              rintro e u1 ⟨rfl, hB⟩
              dsimp only
              have hE : Below wr.heap.size wr u1 := hHeld.trans (hB.mono hHeld.size)
              refine hK.out _ _ hE (fun hHeld => ?_)
              clear hK K hE hB
              try simp only [Act.put, List.setIfInBounds_toArray, List.set_cons_zero, List.set_cons_succ]
              refine take_one (i := 33) (oi := ⟨some 95, _, _, _, _, _⟩) (v := .bool false) rfl (by kernel_rfl) (Or.inl ⟨by rfl, fun W hW => (by go_simp)⟩) (by assumption) ?_
              try simp only [Act.put, List.setIfInBounds_toArray, List.set_cons_zero, List.set_cons_succ]
              refine take_one (i := 34) (oi := ⟨some 96, _, _, _, _, _⟩) (v := .bool false) rfl (by kernel_rfl) (Or.inl ⟨by rfl, fun W hW => (by rfl)⟩) (by assumption) ?_
              try simp only [Act.put, List.setIfInBounds_toArray, List.set_cons_zero, List.set_cons_succ]
              refine take_one (i := 35) (oi := ⟨some 97, _, _, _, _, _⟩) (v := .bool false) rfl (by kernel_rfl) (Or.inl ⟨by rfl, fun W hW => (by rfl)⟩) (by assumption) ?_
              try simp only [Act.put, List.setIfInBounds_toArray, List.set_cons_zero, List.set_cons_succ]
              refine' wpAnyH_take (i := 40) (oi := ⟨some 102, _, _, _, _, _⟩) (v := _) rfl hns (by kernel_rfl) (by kernel_rfl) (fun _ _ _ h => h) (yieldsIf_load_mid (by rfl) _ _ rfl kb 0 rfl KY.toList _ (fun w h => HKR.out w h) HUK.out rfl HSKL.out) (by assumption) ?_
              try simp only [Act.put, List.setIfInBounds_toArray, List.set_cons_zero, List.set_cons_succ]
              refine wpAnyH_take (i := 36) (oi := ⟨some 98, _, _, _, _, _⟩) (v := .slice (some ⟨kb + 1 + 1, 0, none⟩) 2 2) rfl hns (by kernel_rfl) (by kernel_rfl) (fun _ _ _ h => h) (Or.inl ⟨by rfl, fun W hW => (by rfl)⟩) (by assumption) ?_
              try simp only [Act.put, List.setIfInBounds_toArray, List.set_cons_zero, List.set_cons_succ]
              refine take_one (i := 37) (oi := ⟨some 99, _, _, _, _, _⟩) (v := .int .i64 i) rfl (by kernel_rfl) (Or.inl ⟨by rfl, fun W hW => (by rfl)⟩) (by assumption) ?_
              try simp only [Act.put, List.setIfInBounds_toArray, List.set_cons_zero, List.set_cons_succ]
              refine take_one (i := 38) (oi := ⟨some 100, _, _, _, _, _⟩) (v := .pointer (some ⟨kb + 1 + 1, i, none⟩)) rfl (by kernel_rfl) (Or.inl ⟨by rfl, fun W hW => (by go_simp)⟩) (by assumption) ?_
              try simp only [Act.put, List.setIfInBounds_toArray, List.set_cons_zero, List.set_cons_succ]
              as_aux_lemma =>
                refine take_one (i := 39) (oi := ⟨some 101, _, _, _, _, _⟩) (v := p) rfl (by kernel_rfl) (Or.inl ⟨by rfl, fun W hW => (by have := HC.out W hW; go_simp)⟩) (by assumption) ?_
                try simp only [Act.put, List.setIfInBounds_toArray, List.set_cons_zero, List.set_cons_succ]
                refine wpAnyH_ready (rs := [41]) (by kernel_rfl) (by simp) ?_
                refine AllReadyH.cons (o := ⟨some 103, _, _, _, _, _⟩) rfl (fun K hK => ?_) AllReadyH.nil
                rw [if_pos (by rfl)]
                go_simp
                refine (rfresh_none p KY.toList.toArray u1 (HT.out _ hHeld).none).mono ?_
                rintro e u2 ⟨rfl, hB⟩
                dsimp only
                have hE : Below wr.heap.size wr u2 := hHeld.trans (hB.mono hHeld.size)
                refine hK.out _ _ hE (fun hHeld => ?_)
                clear hK K hE hB
                try simp only [Act.put, List.setIfInBounds_toArray, List.set_cons_zero, List.set_cons_succ]
                refine take_one (i := 42) (oi := ⟨some 104, _, _, _, _, _⟩) (v := .bool false) rfl (by kernel_rfl) (Or.inl ⟨by rfl, fun W hW => (by rfl)⟩) (by assumption) ?_
                try simp only [Act.put, List.setIfInBounds_toArray, List.set_cons_zero, List.set_cons_succ]
                refine take_one (i := 43) (oi := ⟨some 105, _, _, _, _, _⟩) (v := .bool false) rfl (by kernel_rfl) (Or.inl ⟨by rfl, fun W hW => (by rfl)⟩) (by assumption) ?_
                try simp only [Act.put, List.setIfInBounds_toArray, List.set_cons_zero, List.set_cons_succ]
                refine wpAnyH_take (i := 44) (oi := ⟨some 106, _, _, _, _, _⟩) (v := .slice (some ⟨kb + 1 + 1, 0, none⟩) 2 2) rfl hns (by kernel_rfl) (by kernel_rfl) (fun _ _ _ h => h) (Or.inl ⟨by rfl, fun W hW => (by rfl)⟩) (by assumption) ?_
                try simp only [Act.put, List.setIfInBounds_toArray, List.set_cons_zero, List.set_cons_succ]
                refine take_one (i := 45) (oi := ⟨some 107, _, _, _, _, _⟩) (v := .int .i64 i) rfl (by kernel_rfl) (Or.inl ⟨by rfl, fun W hW => (by rfl)⟩) (by assumption) ?_
                try simp only [Act.put, List.setIfInBounds_toArray, List.set_cons_zero, List.set_cons_succ]
                refine take_one (i := 46) (oi := ⟨some 108, _, _, _, _, _⟩) (v := .pointer (some ⟨kb + 1 + 1, i, none⟩)) rfl (by kernel_rfl) (Or.inl ⟨by rfl, fun W hW => (by go_simp)⟩) (by assumption) ?_
                try simp only [Act.put, List.setIfInBounds_toArray, List.set_cons_zero, List.set_cons_succ]
                refine take_one (i := 47) (oi := ⟨some 109, _, _, _, _, _⟩) (v := p) rfl (by kernel_rfl) (Or.inl ⟨by rfl, fun W hW => (by have := HC.out W hW; go_simp)⟩) (by assumption) ?_
                try simp only [Act.put, List.setIfInBounds_toArray, List.set_cons_zero, List.set_cons_succ]
                as_aux_lemma =>
                  refine wpAnyH_ready (rs := [48]) (by kernel_rfl) (by simp) ?_
                  refine AllReadyH.cons (o := ⟨some 110, _, _, _, _, _⟩) rfl (fun K hK => ?_) AllReadyH.nil
                  rw [if_pos (by rfl)]
                  go_simp
                  refine (rcopy_none p u2 (HT.out _ hHeld).none).mono ?_
                  rintro e u3 ⟨rfl, hB⟩
                  dsimp only
                  have hE : Below wr.heap.size wr u3 := hHeld.trans (hB.mono hHeld.size)
                  refine hK.out _ _ hE (fun hHeld => ?_)
                  clear hK K hE hB
                  try simp only [Act.put, List.setIfInBounds_toArray, List.set_cons_zero, List.set_cons_succ]
                  refine take_one (i := 49) (oi := ⟨some 111, _, _, _, _, _⟩) (v := .bool false) rfl (by kernel_rfl) (Or.inl ⟨by rfl, fun W hW => (by go_simp)⟩) (by assumption) ?_
                  try simp only [Act.put, List.setIfInBounds_toArray, List.set_cons_zero, List.set_cons_succ]
                  refine take_one (i := 50) (oi := ⟨some 112, _, _, _, _, _⟩) (v := .bool false) rfl (by kernel_rfl) (Or.inl ⟨by rfl, fun W hW => (by rfl)⟩) (by assumption) ?_
                  try simp only [Act.put, List.setIfInBounds_toArray, List.set_cons_zero, List.set_cons_succ]
                  refine take_one (i := 51) (oi := ⟨some 113, _, _, _, _, _⟩) (v := .bool false) rfl (by kernel_rfl) (Or.inl ⟨by rfl, fun W hW => (by rfl)⟩) (by assumption) ?_
                  try simp only [Act.put, List.setIfInBounds_toArray, List.set_cons_zero, List.set_cons_succ]
                  refine wpAnyH_take (i := 52) (oi := ⟨some 114, _, _, _, _, _⟩) (v := .slice (some ⟨kb + 1 + 1, 0, none⟩) 2 2) rfl hns (by kernel_rfl) (by kernel_rfl) (fun _ _ _ h => h) (Or.inl ⟨by rfl, fun W hW => (by rfl)⟩) (by assumption) ?_
                  try simp only [Act.put, List.setIfInBounds_toArray, List.set_cons_zero, List.set_cons_succ]
                  refine take_one (i := 53) (oi := ⟨some 115, _, _, _, _, _⟩) (v := .int .i64 i) rfl (by kernel_rfl) (Or.inl ⟨by rfl, fun W hW => (by rfl)⟩) (by assumption) ?_
                  try simp only [Act.put, List.setIfInBounds_toArray, List.set_cons_zero, List.set_cons_succ]
                  refine take_one (i := 54) (oi := ⟨some 116, _, _, _, _, _⟩) (v := .pointer (some ⟨kb + 1 + 1, i, none⟩)) rfl (by kernel_rfl) (Or.inl ⟨by rfl, fun W hW => (by go_simp)⟩) (by assumption) ?_
                  try simp only [Act.put, List.setIfInBounds_toArray, List.set_cons_zero, List.set_cons_succ]
                  refine take_one (i := 55) (oi := ⟨some 117, _, _, _, _, _⟩) (v := p) rfl (by kernel_rfl) (Or.inl ⟨by rfl, fun W hW => (by have := HC.out W hW; go_simp)⟩) (by assumption) ?_
                  try simp only [Act.put, List.setIfInBounds_toArray, List.set_cons_zero, List.set_cons_succ]
                  as_aux_lemma =>
                    refine wpAnyH_ready (rs := [56]) (by kernel_rfl) (by simp) ?_
                    refine AllReadyH.cons (o := ⟨some 118, _, _, _, _, _⟩) rfl (fun K hK => ?_) AllReadyH.nil
                    rw [if_pos (by rfl)]
                    go_simp
                    refine (rfeed_none p u3 (HT.out _ hHeld).none).mono ?_
                    rintro e u4 ⟨rfl, hB⟩
                    dsimp only
                    have hE : Below wr.heap.size wr u4 := hHeld.trans (hB.mono hHeld.size)
                    refine hK.out _ _ hE (fun hHeld => ?_)
                    clear hK K hE hB
                    try simp only [Act.put, List.setIfInBounds_toArray, List.set_cons_zero, List.set_cons_succ]
                    refine take_one (i := 57) (oi := ⟨some 119, _, _, _, _, _⟩) (v := .int .i64 0) rfl (by kernel_rfl) (Or.inl ⟨by rfl, fun W hW => (by go_simp)⟩) (by assumption) ?_
                    try simp only [Act.put, List.setIfInBounds_toArray, List.set_cons_zero, List.set_cons_succ]
                    refine take_one (i := 58) (oi := ⟨some 120, _, _, _, _, _⟩) (v := .bool false) rfl (by kernel_rfl) (Or.inl ⟨by rfl, fun W hW => (by go_simp)⟩) (by assumption) ?_
                    try simp only [Act.put, List.setIfInBounds_toArray, List.set_cons_zero, List.set_cons_succ]
                    refine take_one (i := 59) (oi := ⟨some 121, _, _, _, _, _⟩) (v := .bool false) rfl (by kernel_rfl) (Or.inl ⟨by rfl, fun W hW => (by rfl)⟩) (by assumption) ?_
                    try simp only [Act.put, List.setIfInBounds_toArray, List.set_cons_zero, List.set_cons_succ]
                    refine take_one (i := 60) (oi := ⟨some 122, _, _, _, _, _⟩) (v := .bool false) rfl (by kernel_rfl) (Or.inl ⟨by rfl, fun W hW => (by rfl)⟩) (by assumption) ?_
                    try simp only [Act.put, List.setIfInBounds_toArray, List.set_cons_zero, List.set_cons_succ]
                    refine wpAnyH_take (i := 61) (oi := ⟨some 123, _, _, _, _, _⟩) (v := .slice (some ⟨kb + 1 + 1, 0, none⟩) 2 2) rfl hns (by kernel_rfl) (by kernel_rfl) (fun _ _ _ h => h) (Or.inl ⟨by rfl, fun W hW => (by rfl)⟩) (by assumption) ?_
                    try simp only [Act.put, List.setIfInBounds_toArray, List.set_cons_zero, List.set_cons_succ]
                    refine take_one (i := 62) (oi := ⟨some 124, _, _, _, _, _⟩) (v := .int .i64 i) rfl (by kernel_rfl) (Or.inl ⟨by rfl, fun W hW => (by rfl)⟩) (by assumption) ?_
                    try simp only [Act.put, List.setIfInBounds_toArray, List.set_cons_zero, List.set_cons_succ]
                    refine take_one (i := 63) (oi := ⟨some 125, _, _, _, _, _⟩) (v := .pointer (some ⟨kb + 1 + 1, i, none⟩)) rfl (by kernel_rfl) (Or.inl ⟨by rfl, fun W hW => (by go_simp)⟩) (by assumption) ?_
                    try simp only [Act.put, List.setIfInBounds_toArray, List.set_cons_zero, List.set_cons_succ]
                    as_aux_lemma =>
                      refine take_one (i := 64) (oi := ⟨some 126, _, _, _, _, _⟩) (v := p) rfl (by kernel_rfl) (Or.inl ⟨by rfl, fun W hW => (by have := HC.out W hW; go_simp)⟩) (by assumption) ?_
                      try simp only [Act.put, List.setIfInBounds_toArray, List.set_cons_zero, List.set_cons_succ]
                      refine wpAnyH_ready (rs := [65]) (by kernel_rfl) (by simp) ?_
                      refine AllReadyH.cons (o := ⟨some 127, _, _, _, _, _⟩) rfl (fun K hK => ?_) AllReadyH.nil
                      rw [if_pos (by rfl)]
                      go_simp
                      refine (rdups_zero p u4 (HT.out _ hHeld)).mono ?_
                      rintro e _ ⟨rfl, rfl⟩
                      dsimp only
                      refine hK.out _ _ hHeld (fun hHeld => ?_)
                      clear hK K
                      try simp only [Act.put, List.setIfInBounds_toArray, List.set_cons_zero, List.set_cons_succ]
                      refine take_one (i := 66) (oi := ⟨some 128, _, _, _, _, _⟩) (v := .bool false) rfl (by kernel_rfl) (Or.inl ⟨by rfl, fun W hW => (by go_simp)⟩) (by assumption) ?_
                      try simp only [Act.put, List.setIfInBounds_toArray, List.set_cons_zero, List.set_cons_succ]
                      refine take_one (i := 67) (oi := ⟨some 129, _, _, _, _, _⟩) (v := .bool false) rfl (by kernel_rfl) (Or.inl ⟨by rfl, fun W hW => (by rfl)⟩) (by assumption) ?_
                      try simp only [Act.put, List.setIfInBounds_toArray, List.set_cons_zero, List.set_cons_succ]
                      refine take_one (i := 68) (oi := ⟨some 130, _, _, _, _, _⟩) (v := .bool false) rfl (by kernel_rfl) (Or.inl ⟨by rfl, fun W hW => (by rfl)⟩) (by assumption) ?_
                      try simp only [Act.put, List.setIfInBounds_toArray, List.set_cons_zero, List.set_cons_succ]
                      refine wpAnyH_take (i := 74) (oi := ⟨some 136, _, _, _, _, _⟩) (v := .agg #[.int .u64 0, .int .u64 0, .slice none 0 0]) rfl hns (by kernel_rfl) (by kernel_rfl) (fun _ _ _ h => h) (Or.inl ⟨by rfl, fun W hW => (by go_simp)⟩) (by assumption) ?_
                      try simp only [Act.put, List.setIfInBounds_toArray, List.set_cons_zero, List.set_cons_succ]
                      refine wpAnyH_take (i := 69) (oi := ⟨some 131, _, _, _, _, _⟩) (v := .slice (some ⟨kb + 1 + 1, 0, none⟩) 2 2) rfl hns (by kernel_rfl) (by kernel_rfl) (fun _ _ _ h => h) (Or.inl ⟨by rfl, fun W hW => (by rfl)⟩) (by assumption) ?_
                      try simp only [Act.put, List.setIfInBounds_toArray, List.set_cons_zero, List.set_cons_succ]
                      refine take_one (i := 70) (oi := ⟨some 132, _, _, _, _, _⟩) (v := .int .i64 i) rfl (by kernel_rfl) (Or.inl ⟨by rfl, fun W hW => (by rfl)⟩) (by assumption) ?_
                      try simp only [Act.put, List.setIfInBounds_toArray, List.set_cons_zero, List.set_cons_succ]
                      as_aux_lemma =>
                        refine take_one (i := 71) (oi := ⟨some 133, _, _, _, _, _⟩) (v := .pointer (some ⟨kb + 1 + 1, i, none⟩)) rfl (by kernel_rfl) (Or.inl ⟨by rfl, fun W hW => (by go_simp)⟩) (by assumption) ?_
                        try simp only [Act.put, List.setIfInBounds_toArray, List.set_cons_zero, List.set_cons_succ]
                        refine take_one (i := 72) (oi := ⟨some 134, _, _, _, _, _⟩) (v := p) rfl (by kernel_rfl) (Or.inl ⟨by rfl, fun W hW => (by have := HC.out W hW; go_simp)⟩) (by assumption) ?_
                        try simp only [Act.put, List.setIfInBounds_toArray, List.set_cons_zero, List.set_cons_succ]
                        refine wpAnyH_ready (rs := [73]) (by kernel_rfl) (by simp) ?_
                        refine AllReadyH.cons (o := ⟨some 135, _, _, _, _, _⟩) rfl (fun K hK => ?_) AllReadyH.nil
                        rw [if_pos (by rfl)]
                        go_simp
                        refine (rexport_none p u4 (HT.out _ hHeld).none).mono ?_
                        rintro e u5 ⟨rfl, hB⟩
                        dsimp only
                        have hE : Below wr.heap.size wr u5 := hHeld.trans (hB.mono hHeld.size)
                        refine hK.out _ _ hE (fun hHeld => ?_)
                        clear hK K hE hB
                        try simp only [Act.put, List.setIfInBounds_toArray, List.set_cons_zero, List.set_cons_succ]
                        refine wpAnyH_ready (rs := [75]) (by kernel_rfl) (by simp) ?_
                        refine AllReadyH.cons (o := ⟨some 137, _, _, _, _, _⟩) rfl (fun K hK => ?_) AllReadyH.nil
                        rw [if_pos (by rfl)]
                        go_simp
                        refine (rsame_nil u5).mono ?_
                        rintro e u6 ⟨rfl, hB⟩
                        dsimp only
                        have hE : Below wr.heap.size wr u6 := hHeld.trans (hB.mono hHeld.size)
                        refine hK.out _ _ hE (fun hHeld => ?_)
                        clear hK K hE hB
                        try simp only [Act.put, List.setIfInBounds_toArray, List.set_cons_zero, List.set_cons_succ]
                        refine take_one (i := 76) (oi := ⟨some 138, _, _, _, _, _⟩) (v := .bool false) rfl (by kernel_rfl) (Or.inl ⟨by rfl, fun W hW => (by go_simp)⟩) (by assumption) ?_
                        try simp only [Act.put, List.setIfInBounds_toArray, List.set_cons_zero, List.set_cons_succ]
                        refine take_one (i := 77) (oi := ⟨some 139, _, _, _, _, _⟩) (v := .bool false) rfl (by kernel_rfl) (Or.inl ⟨by rfl, fun W hW => (by rfl)⟩) (by assumption) ?_
                        try simp only [Act.put, List.setIfInBounds_toArray, List.set_cons_zero, List.set_cons_succ]
                        refine wpAnyH_done (by kernel_rfl) ?_ _
                        have E13 := Lib.hid hHeld
                        clear hHeld
                        go_wp2
                        go_roundw
                        case rel => first | exact ⟨i + 1, by omega, by go_num, VB.out.trans (E13.out.mono VB.out.size)⟩ | (((repeat apply Exists.intro); refine ⟨?_, rfl⟩); exact ⟨i + 1, by omega, by go_num, VB.out.trans (E13.out.mono VB.out.size)⟩)
                        case measure => simp [intOf]; omega
    · obtain rfl : i = 2 := by omega
      have HD := Lib.hid (V4.out.trans (VB.out.mono V4.out.size))
      go_wp2_with (go_at_call 9; with_reducible refine (HKN.out _).mono ?_; rintro e w19 ⟨rfl, hB⟩; have E19 := Lib.hid hB; clear hB)
      go_ret
      exact ⟨rfl, HD.out.trans (E19.out.mono HD.out.size)⟩
end Go.Proofs.YtmdpiajhfohagaaGreat
