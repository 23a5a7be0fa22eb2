/- Counter mode: copy of bytes into a block of bytes; Block. Printed by gen/xvt.py. -/
import Derived.Test.YtiffminhlimajaaGreatVO
import Derived.Laws.CopyRow
namespace Go.Proofs.YtiffminhlimajaaGreat
open Go.RowKit
set_option linter.unusedVariables false
attribute [local go_sem ↓] Go.wp_at_zero Go.wp_at_succ

/-- m values put in at o -/
def putF (f : Nat → Nat) (o m : Nat) (h : Nat → Nat) : Nat → Nat := fun j => if o ≤ j ∧ j < o + m then h (j - o) else f j
theorem run_copy_bA {P : Program} (w : World) (dT sT ty elem : TypeId) (g o m dCap sb so sLen sCap N : Nat) (dLen : Nat) (t : TypeId) (f h : Nat → Nat)
    (hu : P.underlying dT = some (.slice elem)) (hs : (P.info? elem).map (·.size) = some 1) (hg : Blk w g t (bA N f)) (hm : Nat.min sLen dLen = m)
    (hsrc : ∀ j, j < m → w.cell? ⟨sb, so + j, none⟩ = some (.int .u8 ((h j : Nat) : Int))) (hfit : o + m ≤ N) :
    (Builtin.copy_ #[dT, sT] ty #[.slice (some ⟨g, o, none⟩) dLen dCap, .slice (some ⟨sb, so, none⟩) sLen sCap]).run P w = .ok (.int .i64 m) (w.setRow g (bA N (putF f o m h))) := by
  have hl : ((List.range m).map fun j => Value.int .u8 ((h j : Nat) : Int)).length = m := by simp
  have := run_copy_row (P := P) w dT sT ty elem g o dLen dCap ⟨sb, so, none⟩ sLen sCap (bA N f) t ((List.range m).map fun j => .int .u8 ((h j : Nat) : Int)) hu hs hg (by rw [hl, hm])
    (fun j v hv => by
      have hj : j < m := by
        have := (List.getElem?_eq_some_iff.1 hv).1
        rwa [hl] at this
      rw [Addr.add_mid, hsrc j hj]
      simpa [hj] using hv) (by rw [hl, bA_size]; exact hfit) (fun v hv => by obtain ⟨j, _, rfl⟩ := List.mem_map.1 hv; rfl)
  rw [this, hl]
  congr 1
  congr 1
  refine bA_ext ?_ (fun j hj => ?_)
  · simp [bA_size]
    omega
  · rw [List.getElem?_toArray]
    have ht : ((bA N f).toList.take o).length = o := by rw [List.length_take, Array.length_toList, bA_size]; omega
    rw [List.append_assoc]
    unfold putF
    by_cases h1 : j < o
    · rw [List.getElem?_append_left (by omega), List.getElem?_take, if_pos h1, Array.getElem?_toList, bA_at _ _ hj, if_neg (by omega)]
    · rw [List.getElem?_append_right (by omega), ht]
      by_cases h2 : j < o + m
      · rw [List.getElem?_append_left (by rw [hl]; omega), if_pos ⟨by omega, h2⟩]
        simp [show j - o < m by omega]
      · rw [List.getElem?_append_right (by rw [hl]; omega), hl, List.getElem?_drop, show o + m + (j - o - m) = j by omega, Array.getElem?_toList, bA_at _ _ hj, if_neg (by omega)]
theorem wpList_copy_bA {P : Program} {ops : Array Oper} {rest : List Oper} {op : Oper} {a : Act} {w : World} {Q : Exit → Act → World → Prop} (hgd : op.guard = none) (d s : Operand) (dT sT : TypeId)
    (ho : op.op = .call { callee := .builtin .copy, args := #[d, s], argTypes := #[dT, sT] }) (elem : TypeId) (g o m dCap sb so sLen sCap N dLen : Nat) (t : TypeId) (f h : Nat → Nat)
    (hd : a.eval d = .slice (some ⟨g, o, none⟩) dLen dCap) (hsv : a.eval s = .slice (some ⟨sb, so, none⟩) sLen sCap)
    (hu : P.underlying dT = some (.slice elem)) (hs : (P.info? elem).map (·.size) = some 1) (hg : Blk w g t (bA N f)) (hm : Nat.min sLen dLen = m)
    (hsrc : ∀ j, j < m → w.cell? ⟨sb, so + j, none⟩ = some (.int .u8 ((h j : Nat) : Int))) (hfit : o + m ≤ N)
    (hK : wpList P ops Q rest (a.put op.dst (.int .i64 m)) (w.setRow g (bA N (putF f o m h)))) : wpList P ops Q (op :: rest) a w :=
  wpList_plain hgd fun _ hK' => by
    have hrun := run_copy_bA (P := P) w dT sT op.type elem g o m dCap sb so sLen sCap N dLen t f h hu hs hg hm hsrc hfit
    unfold Oper.wp execOp
    simp only [ho, resolve, invoke, builtin, Sem.run_bind, Sem.run_pure, Result.andThen_ok, List.map_toArray, List.map_cons, List.map_nil, hd, hsv, hrun]
    exact hK' _ _ hK
theorem infoU8s : (Tryz.prog.info? 5).map (·.size) = some 1 := by kernel_rfl
theorem ctrB_put (ct b d i : Nat) : bA 16 (putF (putF (fun _ => 0) 0 8 (halfB (pfx ct b d))) 8 8 (halfB i)) = b16 (ctrB ct b d i) := by
  rw [b16_bA]
  refine bA_congr fun j hj => ?_
  unfold putF ctrB
  by_cases h : j < 8
  · rw [if_neg (by omega), if_pos (by omega), if_pos h, Nat.sub_zero]
  · rw [if_pos (by omega), if_neg h]
set_option maxRecDepth 100000 in
set_option maxHeartbeats 1600000 in
theorem block_ok (ct b d i : Nat) (hc : ct < 4294967296) (hb : b < 32) (hd : d < 2) (hi : i < 18446744073709551616) (w : World) : Calls Tryz.prog 93 #[.int .u32 ct, .int .i64 b, .int .i64 d, .int .u64 i] w fun e w' => e = .returned (.tuple #[.agg (b16 (ctrB ct b d i)), .int .i64 0]) ∧ Below w.heap.size w w' := by
  have HP := Lib.hid (fun V => prefix_ok ct b d hc hb hd V)
  have HH := Lib.hid (fun V => half_ok i hi V)
  have HPUT := Lib.hid (ctrB_put ct b d i)
  obtain ⟨ZB, hZB⟩ : ∃ ZB : Array Value, ZB = #[.int .u8 0, .int .u8 0, .int .u8 0, .int .u8 0, .int .u8 0, .int .u8 0, .int .u8 0, .int .u8 0] := ⟨_, rfl⟩
  have HZB := Lib.hid hZB
  obtain ⟨ZC, hZC⟩ : ∃ ZC : Array Value, ZC = #[.int .u8 0, .int .u8 0, .int .u8 0, .int .u8 0, .int .u8 0, .int .u8 0, .int .u8 0, .int .u8 0, .int .u8 0, .int .u8 0, .int .u8 0, .int .u8 0, .int .u8 0, .int .u8 0, .int .u8 0, .int .u8 0] := ⟨_, rfl⟩
  have HZC := Lib.hid (show ZC = bA 16 (fun _ => 0) from hZC)
  have HZC' := Lib.hid hZC
  obtain ⟨hp, hhp⟩ : ∃ hp, hp = halfB (pfx ct b d) := ⟨_, rfl⟩
  obtain ⟨hi', hhi⟩ : ∃ hi', hi' = halfB i := ⟨_, rfl⟩
  rw [← hhp] at HP HPUT
  rw [← hhi] at HH HPUT
  obtain ⟨X, hX⟩ : ∃ X, X = bA 8 hp := ⟨_, rfl⟩
  obtain ⟨Y, hY⟩ : ∃ Y, Y = bA 8 hi' := ⟨_, rfl⟩
  have HX : Hid ((Tryz.prog.info? 109).map (·.size) = some X.size) := Lib.hid (by rw [hX]; exact size8 _)
  have HOX : Hid (X.all (·.oneCell') = true) := Lib.hid (by rw [hX]; exact bA_one _ _)
  have HZX : Hid (ZB.size = X.size) := Lib.hid (by rw [hX, hZB, bA_size]; rfl)
  have HY : Hid ((Tryz.prog.info? 109).map (·.size) = some Y.size) := Lib.hid (by rw [hY]; exact size8 _)
  have HOY : Hid (Y.all (·.oneCell') = true) := Lib.hid (by rw [hY]; exact bA_one _ _)
  have HZY : Hid (ZB.size = Y.size) := Lib.hid (by rw [hY, hZB, bA_size]; rfl)
  have HXX := Lib.hid hX
  have HYY := Lib.hid hY
  obtain ⟨R, hR⟩ : ∃ R, R = b16 (ctrB ct b d i) := ⟨_, rfl⟩
  have HR : Hid ((Tryz.prog.info? 23).map (·.size) = some R.size) := Lib.hid (by rw [hR, b16_size]; kernel_rfl)
  have HRO : Hid (R.all (·.oneCell') = true) := Lib.hid (by rw [hR]; exact b16_one _)
  rw [← hX] at HP
  rw [← hY] at HH
  rw [← hR] at HPUT ⊢
  clear hX hY hR hhp hhi hZB hZC
  go_enter Tryz.func93, Tryz.ntmps93
  go_upto_region 1 with (fail)
  obtain ⟨g, hg⟩ : ∃ g, g = w.heap.size := ⟨_, rfl⟩
  refine wp_let (fun V => Blk V g 23 ZC ∧ Below w.heap.size w V) ⟨by rw [hg, HZC'.out]; exact Blk.new _ _ _, (Below.refl _ _).alloc (Nat.le_refl _) _⟩ ?_
  rintro W1 ⟨B1, B2⟩
  have C1 := Lib.hid B1
  have C2 := Lib.hid B2
  have HG := Lib.hid hg
  rw [← hg]
  clear B1 B2 hg
  go_upto_region 2 with (first
    | (go_at_call 52; refine (HP.out _).mono ?_; rintro e w4 ⟨rfl, hb4⟩; have D1 := Lib.hid (C1.out.below hb4 C1.out.lt); have D2 := Lib.hid (C2.out.trans (hb4.mono C2.out.size)); clear hb4)
    | (refine wpList_store_row rfl _ _ _ rfl w4.heap.size X rfl rfl 109 ZB (by rw [HZB.out]; exact Blk.new _ _ _) HX.out HZX.out HOX.out ?_))
  obtain ⟨pb, hpb⟩ : ∃ pb, pb = w4.heap.size := ⟨_, rfl⟩
  refine wp_let (fun V => Blk V g 23 ZC ∧ Blk V pb 109 X ∧ Below w.heap.size w V) ⟨(setRow_other _ _ _ _ (by have := D1.out.lt; omega)).trans (D1.out.alloc _), by rw [hpb]; exact setRow_heap _ _ ZB X 109 (0, 0) (by rw [HZB.out]; exact Blk.new _ _ _), belowRow (D2.out.alloc D2.out.size _) D2.out.size _⟩ ?_
  rintro W2 ⟨B1, B2, B3⟩
  have E1 := Lib.hid B1
  have E2 := Lib.hid B2
  have E3 := Lib.hid B3
  have HPB := Lib.hid (show g < pb by have := D1.out.lt; omega)
  rw [← hpb]
  clear B1 B2 B3 hpb C1 C2 D1 D2
  go_upto_region 5 with (first
    | (go_at_call 90; refine (HH.out _).mono ?_; rintro e w5 ⟨rfl, hb4⟩; have F1 := Lib.hid (E1.out.below hb4 E1.out.lt); have F2 := Lib.hid (E2.out.below hb4 E2.out.lt); have F3 := Lib.hid (E3.out.trans (hb4.mono E3.out.size)); clear hb4)
    | (refine wpList_store_row rfl _ _ _ rfl w5.heap.size Y rfl rfl 109 ZB (by rw [HZB.out]; exact Blk.new _ _ _) HY.out HZY.out HOY.out ?_))
  obtain ⟨qb, hqb⟩ : ∃ qb, qb = w5.heap.size := ⟨_, rfl⟩
  refine wp_let (fun V => Blk V g 23 (bA 16 (fun _ => 0)) ∧ Blk V pb 109 (bA 8 hp) ∧ Blk V qb 109 (bA 8 hi') ∧ Below w.heap.size w V) ⟨by rw [← HZC.out]; exact (setRow_other _ _ _ _ (by have := F1.out.lt; omega)).trans (F1.out.alloc _), by rw [← HXX.out]; exact (setRow_other _ _ _ _ (by have := F2.out.lt; omega)).trans (F2.out.alloc _), by rw [hqb, ← HYY.out]; exact setRow_heap _ _ ZB Y 109 (0, 0) (by rw [HZB.out]; exact Blk.new _ _ _), belowRow (F3.out.alloc F3.out.size _) F3.out.size _⟩ ?_
  rintro W3 ⟨B1, B2, B3, B4⟩
  have G1 := Lib.hid B1
  have G2 := Lib.hid B2
  have G3 := Lib.hid B3
  have G4 := Lib.hid B4
  have HQB := Lib.hid (show g < qb by have := F1.out.lt; omega)
  rw [← hqb]
  clear B1 B2 B3 B4 hqb E1 E2 E3 F1 F2 F3
  go_still_tail 2, (by kernel_rfl)
  refine wpList_copy_bA rfl _ _ 27 27 rfl 5 g 0 8 16 pb 0 8 8 16 8 23 (fun _ => 0) hp rfl rfl Tryz.underlying27 infoU8s G1.out rfl (fun j hj => by rw [Nat.zero_add]; exact (G2.out.cell j).trans (bA_at 8 hp hj)) (by omega) ?_
  refine then_let (fun V => Blk V g 23 (bA 16 (putF (fun _ => 0) 0 8 hp)) ∧ Blk V qb 109 (bA 8 hi') ∧ Below w.heap.size w V) ⟨setRow_heap _ g (bA 16 (fun _ => 0)) _ 23 (0, 0) G1.out, (setRow_other _ _ _ _ (by have := HQB.out; omega)).trans G3.out, belowRow G4.out.drew (by rw [HG.out]; exact Nat.le_refl _) _⟩ ?_
  rintro W4 ⟨B1, B2, B3⟩
  have I1 := Lib.hid B1
  have I2 := Lib.hid B2
  have I3 := Lib.hid B3
  clear B1 B2 B3 G1 G2 G3 G4
  go_wp2
  go_still_tail 2, (by kernel_rfl)
  refine wpList_copy_bA rfl _ _ 27 27 rfl 5 g 8 8 8 qb 0 8 8 16 8 23 _ hi' rfl rfl Tryz.underlying27 infoU8s I1.out rfl (fun j hj => by rw [Nat.zero_add]; exact (I2.out.cell j).trans (bA_at 8 hi' hj)) (by omega) ?_
  refine then_let (fun V => Blk V g 23 R ∧ Below w.heap.size w V) ⟨by rw [HPUT.out]; exact setRow_heap _ g _ R 23 (0, 0) I1.out, belowRow I3.out.drew (by rw [HG.out]; exact Nat.le_refl _) _⟩ ?_
  rintro W5 ⟨B1, B2⟩
  have J1 := Lib.hid B1
  have J2 := Lib.hid B2
  clear B1 B2 I1 I2 I3
  go_wp2_with (first
    | (refine wpList_load_row rfl _ _ rfl g rfl 23 R (0, 0) _ J1.out Tryz.underlying23 rfl HR.out ?_)
    | (refine wpList_store_row rfl _ _ _ rfl g R rfl rfl 23 R J1.out HR.out rfl HRO.out ?_))
  refine bodyPost_ret (v := .tuple #[.agg R, .int .i64 0]) (results_cell_one (g := g) (t := 23) (fr := (0, 0)) Tryz.results93 _ _ R _ rfl (Blk.setRow J1.out) Tryz.underlying23 rfl HR.out _ rfl) rfl ⟨rfl, belowRow J2.out (by rw [HG.out]; exact Nat.le_refl _) _⟩
end Go.Proofs.YtiffminhlimajaaGreat
