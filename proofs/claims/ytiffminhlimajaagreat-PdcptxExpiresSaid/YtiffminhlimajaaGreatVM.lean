/- AES-128: New and own. Printed by gen/xvm.py. -/
import Derived.Test.YtiffminhlimajaaGreatVL
import Derived.OrdersHeld
namespace Go.Proofs.YtiffminhlimajaaGreat
open Go.RowKit
set_option linter.unusedVariables false
attribute [local go_sem ↓] Go.wp_at_zero Go.wp_at_succ

theorem fill_fold (off : Nat) : ∀ (l : List Value) (k : Nat) (cs : Array Value), (l.zipIdx k).foldl (fun cs (x : Value × Nat) => cs.setIfInBounds (off + x.2) x.1) cs = tsAll cs (off + k) l
  | [], _, _ => rfl
  | v :: r, k, cs => by
    rw [List.zipIdx_cons, List.foldl_cons, fill_fold off r (k + 1), tsAll]
    rfl
/-- a struct of two rows -/
theorem fill_two (z A B : Array Value) (n m : Nat) (hz : z.size = n + m) (hA : A.size = n) (hB : B.size = m) (place : Nat → Option (Nat × Nat)) (h0 : place 0 = some (0, n)) (h1 : place 1 = some (n, m)) :
    Instr.fill place z [(0, .agg A), (1, .agg B)] = some (A ++ B) := by
  have hf : ∀ (off : Nat) (C cs : Array Value), C.zipIdx.foldl (fun cs (x : Value × Nat) => cs.setIfInBounds (off + x.2) x.1) cs = tsAll cs off C.toList := fun off C cs => by
    rw [← Array.foldl_toList, Array.toList_zipIdx, fill_fold off C.toList 0 cs, Nat.add_zero]
  have e1 : (Value.agg A).cells = A := rfl
  have e2 : (Value.agg B).cells = B := rfl
  simp only [Instr.fill, h0, h1, e1, e2]
  rw [if_neg (by simp [hA, hz]), if_neg]
  · congr 1
    have g1 := hf 0 A z
    have g2 := hf n B (tsAll z 0 A.toList)
    rw [show (A.zipIdx.foldl (fun cs (x : Value × Nat) => cs.setIfInBounds (0 + x.2) x.1) z) = tsAll z 0 A.toList from g1]
    refine g2.trans ?_
    apply Array.ext_getElem?
    intro j
    rcases Nat.lt_or_ge j n with h | h
    · rw [tsAll_out _ _ _ _ (.inl h), Array.getElem?_append_left (by omega)]
      have := tsAll_in A.toList 0 z j (by rw [Array.length_toList]; omega) (by omega)
      rw [Nat.zero_add] at this
      rw [this, Array.getElem?_toList]
    · rcases Nat.lt_or_ge j (n + m) with h2 | h2
      · have := tsAll_in B.toList n (tsAll z 0 A.toList) (j - n) (by rw [Array.length_toList]; omega) (by rw [tsAll_size]; omega)
        rw [show n + (j - n) = j by omega] at this
        rw [this, Array.getElem?_toList, Array.getElem?_append_right (by omega), hA]
      · rw [Array.getElem?_eq_none (by rw [tsAll_size, tsAll_size]; omega), Array.getElem?_eq_none (by rw [Array.size_append]; omega)]
  · have := hf 0 A z
    rw [show (A.zipIdx.foldl (fun cs (x : Value × Nat) => cs.setIfInBounds (0 + x.2) x.1) z) = tsAll z 0 A.toList from this, tsAll_size]
    simp [hB, hz]
theorem cipBuild (A B : Array Value) (hA : A.size = 512) (hB : B.size = 176) (w : World) : (Instr.build 217 #[(0, .agg A), (1, .agg B)]).run Tryz.prog w = .ok (.agg (A ++ B)) w := by
  refine run_build w _ _ _ ?_
  have hz : (Tryz.prog.info? 217).bind (fun i => i.zero.map (·.cells.size)) = some 688 := by kernel_rfl
  have hp : ∀ d, Tryz.prog.underlying 217 = some d → ∃ fs, d = .struct fs ∧ fs.toList.mapM (fun f => (Tryz.prog.info? f.type).map fun i => (f.offset, i.size)) = some [(0, 512), (512, 176)] := by
    rw [Tryz.underlying217]
    intro d hd
    cases hd
    exact ⟨_, rfl, by kernel_rfl⟩
  cases hi : Tryz.prog.info? 217 with
  | none => rw [hi] at hz; cases hz
  | some it =>
    rw [hi] at hz
    cases hu : Tryz.prog.underlying 217 with
    | none => rw [Tryz.underlying217] at hu; cases hu
    | some d =>
      obtain ⟨fs, rfl, hm⟩ := hp d hu
      cases hzz : it.zero with
      | none => simp [hzz] at hz
      | some z =>
        simp only [Option.bind_some, hzz, Option.map_some, Option.some.injEq] at hz
        unfold Program.built
        simp only [hi, hu, hzz, hm]
        exact fill_two _ A B 512 176 hz hA hB _ rfl rfl
/-- what New answers -/
def NewC (key : Nat → Nat) (w : World) (e : Ending) (w' : World) : Prop := ∃ g, e = .returned (.pointer (some ⟨g, 0, none⟩)) ∧ CipM w' g key ∧ w.heap.size ≤ g ∧ Below w.heap.size w w'
set_option maxRecDepth 100000 in
set_option maxHeartbeats 1600000 in
theorem anew_ok (key : Nat → Nat) (hk : B16 key) (w : World) : Calls Tryz.prog 92 #[.agg (b16 key)] w (NewC key w) := by
  have HSU := Lib.hid (fun V => substitution_ok V)
  have HSC := Lib.hid (fun V => schedule_ok sbx isb key (boxK_lt 255) hk V)
  have HZ := zeroBoxes
  obtain ⟨BX, hBX⟩ : ∃ BX, BX = boxArr sbx isb := ⟨_, rfl⟩
  obtain ⟨ZX, hZX⟩ : ∃ ZX, ZX = boxArr (fun _ => 0) (fun _ => 0) := ⟨_, rfl⟩
  obtain ⟨KY, hKY⟩ : ∃ KY, KY = b16 key := ⟨_, rfl⟩
  obtain ⟨KS, hKS⟩ : ∃ KS, KS = keyArr (sched sbx key) 176 := ⟨_, rfl⟩
  have hBS : BX.size = 512 := by rw [hBX]; exact boxArr_size _ _
  have hKSS : KS.size = 176 := by rw [hKS]; exact keyArr_size _ _
  have HSB : Hid ((Tryz.prog.info? 211).map (·.size) = some BX.size) := Lib.hid (by rw [hBS]; kernel_rfl)
  have HSBL : Hid ((Tryz.prog.info? 211).map (·.size) = some BX.toList.length) := Lib.hid (by rw [Array.length_toList]; exact HSB.out)
  have HZB : Hid (ZX.size = BX.size) := Lib.hid (by rw [hZX, hBX, boxArr_size, boxArr_size])
  have HOB : Hid (BX.all (·.oneCell') = true) := Lib.hid (by rw [hBX]; exact boxArr_one _ _)
  have HSKL : Hid ((Tryz.prog.info? 23).map (·.size) = some KY.toList.length) := Lib.hid (by rw [Array.length_toList, hKY, b16_size]; kernel_rfl)
  have HCB := Lib.hid (fun V => cipBuild BX KS hBS hKSS V)
  have HCI : Hid (∀ V g, Blk V g 217 (BX ++ KS) → CipM V g key) := Lib.hid (fun V g h => by rw [hBX, hKS] at h; exact h)
  rw [← hBX] at HSU HSC
  rw [← hZX] at HZ
  rw [← hKY] at HSC
  rw [← hKS] at HSC
  rw [← hKY]
  clear hBX hZX hKY hKS hBS hKSS hk
  go_enter Tryz.func92, Tryz.ntmps92
  obtain ⟨kb, hkb⟩ : ∃ kb, kb = w.heap.size := ⟨_, rfl⟩
  go_upto_region 1 with (fail)
  refine wp_let (fun V => Blk V kb 23 KY ∧ Below w.heap.size w V ∧ V.heap.size = kb + 1) ⟨by rw [hkb]; exact Blk.new _ _ _, (Below.refl _ _).alloc (Nat.le_refl _) _, by rw [hkb]; simp⟩ ?_
  rintro W1 ⟨b1, b2, b3⟩
  have B1 := Lib.hid b1
  have B2 := Lib.hid b2
  have HKB := Lib.hid (show w.heap.size ≤ kb ∧ kb < W1.heap.size by omega)
  rw [← hkb]
  clear b1 b2 b3 hkb
  go_upto_region 2 with (first
    | (go_at_call 121; refine (HSU.out _).mono ?_; rintro e w2 ⟨rfl, hb2⟩; have C1 := Lib.hid (B1.out.below hb2 B1.out.lt); have C2 := Lib.hid (B2.out.trans (hb2.mono B2.out.size)); have C3 := Lib.hid (show kb < w2.heap.size by have := C1.out.lt; omega); clear hb2)
    | (refine wpList_store_row rfl _ _ _ rfl w2.heap.size BX rfl rfl 211 ZX (Blk.new w2 _ _) HSB.out HZB.out HOB.out ?_))
  obtain ⟨sb, hsb⟩ : ∃ sb, sb = w2.heap.size := ⟨_, rfl⟩
  refine wp_let (fun V => Blk V kb 23 KY ∧ Blk V sb 211 BX ∧ Below w.heap.size w V) ⟨(setRow_other _ _ _ _ (by have := C3.out; omega)).trans (C1.out.alloc _), by rw [hsb]; exact setRow_heap _ _ ZX BX 211 (0, 0) (Blk.new _ _ _), belowRow (C2.out.alloc C2.out.size _) C2.out.size _⟩ ?_
  rintro W3 ⟨b1, b2, b3⟩
  have D1 := Lib.hid b1
  have D2 := Lib.hid b2
  have D3 := Lib.hid b3
  rw [← hsb]
  clear b1 b2 b3 hsb B1 B2 C1 C2 C3 HZ
  have hu := Tryz.underlying211
  have huk := Tryz.underlying23
  have hi1 := HSBL.out
  have hi2 := HSKL.out
  have rS : ∀ V, Below W3.heap.size W3 V → V.rangeAt sb 0 BX.toList := fun V hV j v hv => by
    rw [(D2.out.below hV D2.out.lt).cell, Nat.zero_add, ← Array.getElem?_toList]; exact hv
  have rK : ∀ V, Below W3.heap.size W3 V → V.rangeAt kb 0 KY.toList := fun V hV j v hv => by
    rw [(D1.out.below hV D1.out.lt).cell, Nat.zero_add, ← Array.getElem?_toList]; exact hv
  refine wp_region_held_drew (S := fun w' => Below W3.heap.size W3 w') (by kernel_rfl) (Below.refl _ _).drew (fun hHeld => ?_)
  refine' wpAnyH_take (i := 0) (oi := ⟨some 5, _, _, _, _, _⟩) (v := _) rfl (by kernel_rfl) (by kernel_rfl) (by kernel_rfl) (fun _ _ _ h => h) (yieldsIf_load_mid (by rfl) _ _ rfl sb 0 rfl BX.toList _ (fun w h => (fun w h => rS w h) w h) hu rfl hi1) (by assumption) ?_
  try simp only [Act.put, List.setIfInBounds_toArray, List.set_cons_zero, List.set_cons_succ]
  refine' wpAnyH_take (i := 1) (oi := ⟨some 6, _, _, _, _, _⟩) (v := _) rfl (by kernel_rfl) (by kernel_rfl) (by kernel_rfl) (fun _ _ _ h => h) (yieldsIf_load_mid (by rfl) _ _ rfl sb 0 rfl BX.toList _ (fun w h => (fun w h => rS w h) w h) hu rfl hi1) (by assumption) ?_
  try simp only [Act.put, List.setIfInBounds_toArray, List.set_cons_zero, List.set_cons_succ]
  refine' wpAnyH_take (i := 2) (oi := ⟨some 7, _, _, _, _, _⟩) (v := _) rfl (by kernel_rfl) (by kernel_rfl) (by kernel_rfl) (fun _ _ _ h => h) (yieldsIf_load_mid (by rfl) _ _ rfl kb 0 rfl KY.toList _ (fun w h => (fun w h => rK w h) w h) huk rfl hi2) (by assumption) ?_
  try simp only [Act.put, List.setIfInBounds_toArray, List.set_cons_zero, List.set_cons_succ]
  refine wpAnyH_ready (rs := [3]) (by kernel_rfl) (by simp) ?_
  refine AllReadyH.cons (o := ⟨some 8, _, _, _, _, _⟩) rfl (fun K hK => ?_) AllReadyH.nil
  rw [if_pos (by rfl)]
  go_simp
  go_at_call 122
  refine (HSC.out _).mono ?_
  rintro e w4 ⟨rfl, hb4⟩
  have E4 := Lib.hid (show Below W3.heap.size W3 w4 from (Below.refl _ W3).drew.trans (hb4.mono (by simp)))
  clear hb4
  refine hK.out _ _ E4.out (fun hHeld => ?_)
  clear hK K
  try simp only [Act.put, List.setIfInBounds_toArray, List.set_cons_zero, List.set_cons_succ]
  refine wpAnyH_take (i := 4) (oi := ⟨some 9, _, _, _, _, _⟩) (v := .agg (BX ++ KS)) rfl (by kernel_rfl) (by kernel_rfl) (by kernel_rfl) (fun _ _ _ h => h) (Or.inl ⟨by rfl, fun W hW => (by have hcb := HCB.out W; simp [execOp, Act.eval, hcb])⟩) (by assumption) ?_
  try simp only [Act.put, List.setIfInBounds_toArray, List.set_cons_zero, List.set_cons_succ]
  refine wpAnyH_ready (rs := [5]) (by kernel_rfl) (by simp) ?_
  refine AllReadyH.cons (o := ⟨some 10, _, _, _, _, _⟩) rfl (fun K hK => ?_) AllReadyH.nil
  rw [if_pos (by rfl)]
  go_simp
  refine hK.out _ _ (E4.out.alloc E4.out.size _) (fun hHeld => ?_)
  clear hK K
  try simp only [Act.put, List.setIfInBounds_toArray, List.set_cons_zero, List.set_cons_succ]
  refine wpAnyH_take (i := 6) (oi := ⟨some 2, _, _, _, _, _⟩) (v := .pointer (some ⟨w4.heap.size, 0, none⟩)) rfl (by kernel_rfl) (by kernel_rfl) (by kernel_rfl) (fun _ _ _ h => h) (Or.inl ⟨by rfl, fun W hW => (by rfl)⟩) (by assumption) ?_
  try simp only [Act.put, List.setIfInBounds_toArray, List.set_cons_zero, List.set_cons_succ]
  refine wpAnyH_done (by kernel_rfl) ?_ _
  go_wp2
  go_ret
  exact ⟨_, rfl, HCI.out _ _ (Blk.new _ _ _), Nat.le_trans D3.out.size E4.out.size, (D3.out.trans (E4.out.mono D3.out.size)).alloc (Nat.le_trans D3.out.size E4.out.size) _⟩
theorem aown_ok (g : Nat) (key : Nat → Nat) (w : World) (h : CipM w g key) : Calls Tryz.prog 123 #[.pointer (some ⟨g, 0, none⟩)] w fun e w' => e = .returned (.pointer (some ⟨g, 0, none⟩)) ∧ w = w' := by
  have c0 : w.cell? ⟨g, 0, none⟩ = some (.int .u8 99) := (h.box (x := 0) (by decide)).trans (by rw [sbx_zero]; rfl)
  clear h
  go_enter Tryz.func123, Tryz.ntmps123
  go_wp2
  go_ret
  exact ⟨rfl, rfl⟩
end Go.Proofs.YtiffminhlimajaaGreat
