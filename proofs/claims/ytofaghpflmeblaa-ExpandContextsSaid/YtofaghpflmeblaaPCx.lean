/- ExpandContexts: the walk. Printed by gen/xpc.py. -/
import Derived.Test.YtofaghpflmeblaaPT
namespace Go.Proofs.Ytofaghpflmeblaa
open Go.RowKit Go.Shelf Go.WideShapes

attribute [local go_sem] Oper.semAt_some

theorem seq44_nn (fb : Nat) (w : World) : (binOp .eql 50 (.func (.func 39) #[] #[.pointer (some ⟨fb, 0, none⟩)]) .nilFunc).run Try.prog w = .ok (.bool false) w := by kernel_rfl
theorem rflow_ok (h0 h1 h2 h3 h4 h5 h6 h7 h8 : Int) (w : World) :
    Calls Try.prog 23 #[.agg #[.int .i64 h0, .int .i64 h1, .int .i64 h2, .int .i64 h3, .int .i64 h4, .int .i64 h5, .int .i64 h6, .int .i64 h7, .int .i64 h8]] w fun e w' => e = .returned (.agg #[.int .i64 h0, .int .i64 h1, .int .i64 h2, .int .i64 h3, .int .i64 h4]) ∧ Below w.heap.size w w' := by
  go_enter Try.func23, Try.ntmps23
  go_wp2
  exact bodyPost_ret (v := .agg #[.int .i64 h0, .int .i64 h1, .int .i64 h2, .int .i64 h3, .int .i64 h4]) (by simp [results, Try.results23, go_sem]) rfl ⟨rfl, ((Below.refl _ w).alloc (Nat.le_refl _) _).alloc (by simp) _⟩

theorem validL_mem (S : Nat → Ec) : ∀ k x, x ∈ validL S k → x < k ∧ (S x).valid = true
  | 0, x, h => by cases h
  | k + 1, x, h => by
    unfold validL at h
    split at h
    · rename_i hu
      rcases List.mem_append.1 h with h | h
      · exact ⟨by have := (validL_mem S k x h).1; omega, (validL_mem S k x h).2⟩
      · obtain rfl : x = k := by simpa using h
        exact ⟨by omega, hu⟩
    · exact ⟨by have := (validL_mem S k x h).1; omega, (validL_mem S k x h).2⟩
theorem validL_pre (S : Nat → Ec) (k : Nat) : ∀ d, ∃ t, validL S (k + d) = validL S k ++ t
  | 0 => ⟨[], by simp⟩
  | d + 1 => by
    obtain ⟨t, ht⟩ := validL_pre S k d
    show ∃ t, validL S (k + d + 1) = validL S k ++ t
    rw [validL]
    split
    · exact ⟨t ++ [k + d], by rw [ht, List.append_assoc]⟩
    · exact ⟨t, ht⟩
theorem validL_take (S : Nat → Ec) (k : Nat) (hk : k ≤ 16) : validL S k = (validL S 16).take (validL S k).length := by
  obtain ⟨t, ht⟩ := validL_pre S k (16 - k)
  rw [show k + (16 - k) = 16 by omega] at ht
  rw [ht, List.take_left]
/-- the list of the contexts in use -/
def vL (S : Nat → Ec) : List Nat := validL S 16
def vAt (S : Nat → Ec) (j : Nat) : Nat := (vL S).getD j 0
theorem vAt_mem (S : Nat → Ec) (j : Nat) (hj : j < (vL S).length) : vAt S j < 16 ∧ (S (vAt S j)).valid = true := by
  unfold vAt
  rw [List.getD, List.getElem?_eq_getElem hj]
  exact validL_mem S 16 _ (List.getElem_mem hj)
theorem take_snoc_at (S : Nat → Ec) (pre : List Nat) (h : pre = (vL S).take pre.length) (hj : pre.length < (vL S).length) : pre ++ [vAt S pre.length] = (vL S).take (pre ++ [vAt S pre.length]).length := by
  rw [List.length_append, List.length_singleton, List.take_succ_eq_append_getElem hj, ← h]
  unfold vAt
  rw [List.getD, List.getElem?_eq_getElem hj]; rfl
theorem not_take_snoc (S : Nat → Ec) (pre : List Nat) (x : Nat) (_h : pre = (vL S).take pre.length) (hj : pre.length < (vL S).length) (hx : x ≠ vAt S pre.length) : pre ++ [x] ≠ (vL S).take (pre ++ [x]).length := by
  intro e
  rw [List.length_append, List.length_singleton, List.take_succ_eq_append_getElem hj] at e
  have e2 := List.append_inj_right' e rfl
  have e3 : x = (vL S)[pre.length] := by simpa using e2
  apply hx
  rw [e3]
  unfold vAt
  rw [List.getD, List.getElem?_eq_getElem hj]; rfl
theorem vL_len (S : Nat → Ec) : (vL S).length ≤ 16 := validL_len S 16
/-- the law's own variables -/
structure QC (many : Int) (S : Nat → Ec) (b0 wb ab : Nat) (A : Option Addr) (cp : Nat) (B : Nat) (W : World) : Prop where
  many : Blk W b0 3 #[.int .i64 many]
  out : Blk W (b0 + 1) 4 #[.bool false]
  ref : XB W wb S
  box : Blk W ab 48 #[.slice A (vL S).length cp]
  row : Row W B A (vL S).length (fun j => .int .i64 (vAt S j : Nat))
  lt : b0 + 1 < B ∧ wb < B ∧ ab < B
theorem QC.next {many : Int} {S : Nat → Ec} {b0 wb ab : Nat} {A : Option Addr} {cp B D : Nat} {W U : World} (h : QC many S b0 wb ab A cp B W) (hb : Below D W U) (hD : B ≤ D) : QC many S b0 wb ab A cp B U :=
  ⟨h.many.below hb (by have := h.lt; omega), h.out.below hb (by have := h.lt; omega), Blk.below h.ref hb (by have := h.lt; omega), h.box.below hb (by have := h.lt; omega), h.row.below (hb.mono hD), h.lt⟩

theorem QC.keep {many : Int} {S : Nat → Ec} {b0 wb ab : Nat} {A : Option Addr} {cp B g : Nat} {W U : World} (h : QC many S b0 wb ab A cp B W) (k : Keep1 g W U) (hB : B ≤ W.heap.size) (hg : b0 ≠ g ∧ b0 + 1 ≠ g ∧ wb ≠ g ∧ ab ≠ g) (hA : ∀ a, A = some a → a.block ≠ g) : QC many S b0 wb ab A cp B U :=
  ⟨k.blk h.many hg.1, k.blk h.out hg.2.1, Keep1.blk k h.ref hg.2.2.1, k.blk h.box hg.2.2.2, k.row h.row hB hA, h.lt⟩
theorem QC.more {many : Int} {S : Nat → Ec} {b0 wb ab : Nat} {A : Option Addr} {cp B B' : Nat} {W : World} (h : QC many S b0 wb ab A cp B W) (hB : B ≤ B') : QC many S b0 wb ab A cp B' W :=
  ⟨h.many, h.out, h.ref, h.box, h.row.more hB, by have := h.lt; omega⟩
theorem QC.plain {many : Int} {S : Nat → Ec} {b0 wb ab : Nat} {A : Option Addr} {cp B : Nat} {W : World} (h : QC many S b0 wb ab A cp B W) : W.cell? ⟨b0, 0, none⟩ = some (.int .i64 many) ∧ W.cell? ⟨b0 + 1, 0, none⟩ = some (.bool false) ∧ W.frozen? ⟨b0 + 1, 0, none⟩ = false ∧ W.cell? ⟨ab, 0, none⟩ = some (.slice A (vL S).length cp) :=
  ⟨h.many.cell 0, h.out.cell 0, h.out.frozen 0, h.box.cell 0⟩
theorem len_snoc' (pre : List Nat) (x : Nat) : (((pre ++ [x]).length : Nat) : Int) = (pre.length : Int) + 1 := by simp
set_option linter.unusedVariables false in
set_option maxRecDepth 100000 in
set_option maxHeartbeats 12800000 in
theorem contexts44_walk (A : Option Addr) (m c : Nat) (PA : Nat → Option Addr) (pn pc : Nat → Nat) (z : Nat → Nat → Int) (many : Int) (w : World) (hA : Rows2 w A m PA pn pc z) (hmx : m ≤ maxLen) :
    Calls Try.prog 6 #[.slice A m c, .int .i64 many] w fun e w' => e = .returned (.bool true) ∧ Below w.heap.size w w' := by
  obtain ⟨wB, hwB⟩ : ∃ wB, wB = (w.alloc (.cells #[.int .i64 many] 3)).alloc (.cells #[.bool false] 4) := ⟨_, rfl⟩
  obtain ⟨b0, hb0⟩ : ∃ b0, b0 = w.heap.size := ⟨_, rfl⟩
  have M0 := Lib.hid (show Blk wB b0 3 #[.int .i64 many] from by rw [hwB, hb0]; exact (Blk.new _ _ _).alloc _)
  have O0 := Lib.hid (show Blk wB (b0 + 1) 4 #[.bool false] from by rw [hwB, hb0]; exact blk_at _ _ _ _ (by simp))
  have B0 := Lib.hid (show Below w.heap.size w wB from by rw [hwB]; exact ((Below.refl _ w).alloc (Nat.le_refl _) _).alloc (by simp) _)
  have hzB : wB.heap.size = w.heap.size + 2 := by rw [hwB]; simp
  have HB0 := Lib.hid hb0
  have AB := Lib.hid (hA.below B0.out)
  have HWB := Lib.hid hwB
  have HSB := Lib.hid hzB
  have hbl : b0 + 1 < wB.heap.size := by omega
  clear hA hwB hzB hb0
  refine (callsIn_wide (n := 8)).1 ?_
  refine callsIn_of_wp_marks Try.func6 rfl trivial ?_ rfl
  simp only [Try.ntmps6, List.size_toArray, List.length_cons, List.length_nil, Nat.reduceAdd, Nat.reduceSub, Array.replicate_succ, Array.replicate_zero, List.push_toArray, List.append_toArray, List.nil_append, List.cons_append]
  refine wpIn_wide.2 ?_
  by_cases hfew : ((m : Int) ≤ 40 ∧ ∀ k, k < m → pn k ≤ 100)
  rotate_left
  · have HF := Lib.hid (few44_no A m c 40 PA pn pc z wB AB.out hfew hmx)
    clear hfew hmx
    go_upto_region 1 with (fail)
    rw [← HWB.out, ← HB0.out]
    go_wp2_with (first
    | (go_at_call 16; refine (HF.out).mono ?_; rintro e w1 ⟨rfl, rfl⟩)
      | (go_at_call 13; refine (works44_true _).mono ?_; rintro e w1 ⟨rfl, hB1⟩; have q9 := (O0.out.below hB1 hbl).cell 0; have q9f := (O0.out.below hB1 hbl).frozen 0))
    have h5 : (w1.setCell ⟨b0 + 1, 0, none⟩ (.bool true)).cell? ⟨b0 + 1, 0, none⟩ = some (.bool true) := World.cell?_setCell_same' w1 ⟨b0 + 1, 0, none⟩ (.bool true) (by rw [q9]; rfl)
    refine ⟨.bool true, ?_, rfl, ?_⟩
    · simp [results, go_sem, h5]
    · have hb := HB0.out
      exact (below_step B0.out hB1).setCell (p := ⟨b0 + 1, 0, none⟩) (by show w.heap.size ≤ b0 + 1; omega) _
  have HF := Lib.hid (few44_yes A m c 40 PA pn pc z wB AB.out hfew.1 hfew.2 hmx)
  have HNW := Lib.hid (fun W => ernew_ok W)
  have hz' := zeroXp
  obtain ⟨S, hS1⟩ : ∃ S, S = xrun pn z (fun _ => Ec.zero) m := ⟨_, rfl⟩
  have HS0 := Lib.hid (fun (g : Nat) (W : World) (hb : Below wB.heap.size wB W) (hg : wB.heap.size ≤ g) (h : EB W g true (fun _ => Ec.zero)) => steps44_ok g (fun _ => Ec.zero) A m c PA pn pc z wB W AB.out hb hg hfew.2 (by have := hfew.1; omega) zero_all h)
  rw [← hS1] at HS0
  obtain ⟨Z, hZ⟩ : ∃ Z, Z = rxArr (fun _ => Ec.zero) := ⟨_, rfl⟩
  obtain ⟨L1, hL1⟩ : ∃ L, L = rxArr S := ⟨_, rfl⟩
  have HLL := Lib.hid hL1
  have HIL1 : Hid ((Try.prog.info? 41).map (·.size) = some L1.size) := Lib.hid (by rw [hL1, rxArr_size]; exact sizeXp)
  have HZL1 : Hid (Z.size = L1.size) := Lib.hid (by rw [hL1, hZ, rxArr_size, rxArr_size])
  have HOL1 : Hid (L1.all (·.oneCell') = true) := Lib.hid (by rw [hL1]; exact rxp_one _)
  rw [← hZ] at hz' HNW HS0
  rw [← hL1] at HS0
  clear hfew hmx hS1 hZ hL1
  go_upto_region 1 with (fail)
  rw [← HWB.out, ← HB0.out]
  go_upto_region 5 with (first
    | (go_at_call 16; refine (HF.out).mono ?_; rintro e w1 ⟨rfl, rfl⟩)
    | (go_at_call 10; refine (enew_ok2 _).mono ?_; rintro e w1 ⟨rfl, hK1, hB1⟩; have K1 := Lib.hid hK1; have B1 := Lib.hid hB1; clear hK1 hB1)
    | (go_at_call 18; refine (HNW.out _).mono ?_; rintro e w2 ⟨rfl, hB2⟩; have K2 := Lib.hid (K1.out.below hB2 K1.out.lt); have B2 := Lib.hid (below_step B1.out hB2); clear hB2)
    | (go_at_call 17; refine (HS0.out _ _ B2.out (Nat.le_refl _) K2.out).mono ?_; rintro e w3 ⟨rfl, hE3, hK3⟩; have E3 := Lib.hid hE3; have B3 := Lib.hid (below_keep B2.out hK3 (Nat.le_refl _) B2.out.size); clear hK3 hE3)
    | (refine wpList_store_row rfl _ _ _ rfl w3.heap.size L1 rfl rfl 41 Z (Blk.new w3 _ _) HIL1.out HZL1.out HOL1.out ?_))
  obtain ⟨gc, hgc0⟩ : ∃ g, g = wB.heap.size := ⟨_, rfl⟩
  have hgc : wB.heap.size ≤ gc := Nat.le_of_eq hgc0.symm
  obtain ⟨wb, hwb0⟩ : ∃ p, p = w3.heap.size := ⟨_, rfl⟩
  have hgw : gc < wb := by rw [hgc0, hwb0]; exact E3.out.lt
  rw [← hgc0, ← hwb0]
  refine wp_world (fun W => EB W gc true S ∧ XB W wb S ∧ Below wB.heap.size wB W) ⟨by rw [hgc0]; exact (E3.out.alloc _).rowFar (by omega) _, by rw [hwb0]; unfold XB; rw [← HLL.out]; exact Blk.setRow (Blk.new w3 _ _), belowRow (below_new B3.out _) (by rw [hwb0]; exact B3.out.size) _⟩ ?_
  rintro w7 ⟨hKc, hWb, hBr⟩
  clear hgc0 hwb0
  obtain ⟨i0, hi0, hz1, hz2, hz3⟩ := info_parts Try.infoInt
  have hgcl := hKc.lt
  have hwbl := hWb.lt
  have hbrs := hBr.size
  obtain ⟨ab, hab⟩ : ∃ ab, ab = w7.heap.size := ⟨_, rfl⟩
  obtain ⟨W8, hW8⟩ : ∃ W8, W8 = w7.alloc (.cells #[.slice none 0 0] 48) := ⟨_, rfl⟩
  have b8 : Below ab w7 W8 := by rw [hW8, hab]; exact (Below.refl _ w7).alloc (Nat.le_refl _) _
  have X8 : Boxed W8 ab 48 (.slice none 0 0) := by rw [hW8, hab]; exact Boxed.new w7 _ _
  have hgca : gc < ab := by omega
  have hwba : wb < ab := by omega
  have hba : b0 + 1 < ab := by omega
  have KC := Lib.hid hKc
  have WB := Lib.hid (show XB w7 wb S from hWb)
  have BR := Lib.hid hBr
  have MR := Lib.hid (M0.out.below hBr (by omega))
  have OR := Lib.hid (O0.out.below hBr (by omega))
  have HW8 := Lib.hid hW8
  have HAB := Lib.hid hab
  have hz8 : ab ≤ W8.heap.size := by rw [hW8, World.size_alloc]; omega
  clear hKc hWb hBr hW8
  go_upto_region 6 with (fail)
  rw [← HW8.out, ← HAB.out]
  clear hab
  go_wp2
  go_loopw [9] (fun v wq => ∃ i : Nat, i ≤ 16 ∧ v = .int .i64 i ∧ (∃ sv, Boxed wq ab 48 sv ∧ wq.ownsRow ab 3 1 sv (validL S i).length ((validL S i).map fun k => Value.int .i64 (k : Nat))) ∧ Below ab w7 wq ∧ ab ≤ wq.heap.size) (fun v _ => 16 - (intOf v).toNat)
  case atStart => exact ⟨0, by omega, rfl, ⟨_, X8, World.ownsRow_nil _ _ _ _⟩, b8, hz8⟩
  case round =>
    obtain ⟨i, hi, rfl, ⟨sv, hsv, hown⟩, hBq, hsq⟩ := hrel
    have hul := validL_len S i
    by_cases hlt2 : i < 16
    · have i0' : (0 : Int) ≤ (i : Int) := by omega
      have i1' : (i : Int) < 16 := by omega
      have cu : wr.cell? ⟨wb, i * 12, none⟩ = some (.bool (S i).valid) := ((show XB wr wb S from Blk.below WB.out hBq hwba).cells hlt2).1
      have hc := hsv.cell
      have HUL := Lib.hid (show validL S (i + 1) = if (S i).valid then validL S i ++ [i] else validL S i from rfl)
      obtain ⟨u, hu⟩ : ∃ u, u = (S i).valid := ⟨_, rfl⟩
      rw [← hu] at cu HUL
      clear hu
      cases u
      · go_wp2
        go_roundw
        case rel => first | exact ⟨i + 1, by omega, by go_num, ⟨sv, hsv, by rw [HUL.out]; exact hown⟩, hBq, hsq⟩ | ((repeat apply Exists.intro); exact ⟨⟨i + 1, by omega, by go_num, ⟨sv, hsv, by rw [HUL.out]; exact hown⟩, hBq, hsq⟩, rfl⟩)
        case measure => simp [intOf]; omega
      · go_wp2_with (at_builtin; refine wpList_append_own _ rfl _ _ 48 rfl ab 3 i0 (.int .i64 0) 1 8 Try.underlying48 hi0 hz1 hz2 hz3 rfl (by decide) _ _ _ rfl (hown.alloc _) ⟨wr.heap.size, 0, none⟩ 1 1 [.int .i64 (i : Nat)] rfl rfl (cell_one_new _ _ _) (by simp [Value.oneCell']) (by unfold maxLen; omega) (by omega) (by simp; omega) ?_; intro v' w1 hown' hgrow _; obtain ⟨g', cap', rfl⟩ := ownsRow_succ hown'; obtain ⟨hv1, hv2, hr2, hk2, hb2⟩ := hsv.appended (by decide) hown hsq (Nat.le_refl _) hown' hgrow; have hc1 := hv1.cell; have hf1 := hv1.frozen; have hs1 : ab ≤ w1.heap.size := Nat.le_trans hsq (by have := hb2.size; simpa using this))
        go_roundw
        case rel => first | exact ⟨i + 1, by omega, by go_num, ⟨_, hv2, by rw [HUL.out]; simpa using hr2⟩, hBq.trans hb2, by simpa using hs1⟩ | ((repeat apply Exists.intro); exact ⟨⟨i + 1, by omega, by go_num, ⟨_, hv2, by rw [HUL.out]; simpa using hr2⟩, hBq.trans hb2, by simpa using hs1⟩, rfl⟩)
        case measure => simp [intOf]; omega
    · obtain rfl : i = 16 := by omega
      obtain ⟨A9, cp, rfl, hcp, hcpm, hfr, hrow⟩ := own_any (f := fun j => .int .i64 (vAt S j : Nat)) hown (fun j hj => by
        have hj' : j < (vL S).length := hj
        rw [List.getElem?_map, List.getElem?_eq_getElem hj]
        unfold vAt vL
        rw [List.getD, List.getElem?_eq_getElem hj]; rfl)
      have K9 := Lib.hid (KC.out.below hBq hgca)
      have Q9 := Lib.hid (show QC many S b0 wb ab A9 cp wr.heap.size wr from ⟨MR.out.below hBq (by omega), OR.out.below hBq (by omega), Blk.below WB.out hBq hwba, hsv, hrow, by omega, by omega, hsv.lt⟩)
      have BB9 := Lib.hid (BR.out.trans (hBq.mono (by omega)))
      have HFR := Lib.hid hfr
      have hnn := seq44_nn wr.heap.size
      clear hown hfr hrow hsv
      go_upto_region 15 with (first
        | (go_at_call 21; refine (econtexts_made gc S _ K9.out).mono ?_; rintro e w10 ⟨rfl, hF10, hB10⟩; have F10 := Lib.hid hF10; have K10 := Lib.hid (K9.out.below hB10 K9.out.lt); have E10 := Lib.hid hB10; clear hF10 hB10)
        | (go_at_call 22; refine (ereset_ok gc S w10 K10.out).mono ?_; rintro e w12 ⟨rfl, hK12, hE12⟩; have F12 := Lib.hid (hE12.blk F10.out (by omega)); have E12 := Lib.hid hE12; clear hK12 hE12))
      obtain ⟨w2, rfl⟩ : ∃ w2 : World, w2 = w12 := ⟨_, rfl⟩
      obtain ⟨w9, rfl⟩ : ∃ w9 : World, w9 = wr := ⟨_, rfl⟩
      have hsz11 : w9.heap.size ≤ w10.heap.size := E10.out.size
      have hsz12 : w10.heap.size ≤ w2.heap.size := E12.out.size
      have hab9 : ab < w9.heap.size := Q9.out.lt.2.2
      have Q2 := Lib.hid (((Q9.out.next E10.out (Nat.le_refl _)).keep E12.out hsz11 (by omega) (fun a e => by have := HFR.out a e; omega)).more (show w9.heap.size ≤ w2.heap.size by omega))
      have BB2 := Lib.hid (show Below w.heap.size w w2 from below_step B0.out (below_keep (BB9.out.trans (E10.out.mono BB9.out.size)) E12.out hgc (by have := BB9.out.size; omega)))
      obtain ⟨fb, hfb⟩ : ∃ fb, fb = w9.heap.size := ⟨_, rfl⟩
      rw [← hfb] at F12 hnn ⊢
      have hwz : w.heap.size < w2.heap.size := by have := BB9.out.size; have := B0.out.size; have := HB0.out; omega
      have hb0w : w.heap.size = b0 := HB0.out.symm
      have HFB := Lib.hid hfb
      clear hfb
      go_wp2
      refine (wpIn_wide (n := 8)).1 ?_
      refine wpIn_loop_rounds 3 ?_
      rw [roundsIn_succ]
      gi_wp2
      obtain ⟨W0, hW0⟩ : ∃ W0, W0 = (w2.alloc (.cells #[.int .i64 0] 3)).alloc (.cells #[.int .i64 0] 3) := ⟨_, rfl⟩
      have b0' : Below w2.heap.size w2 W0 := by rw [hW0]; exact ((Below.refl w2.heap.size w2).alloc (Nat.le_refl _) _).alloc (by simp) _
      have z0 : W0.heap.size = w2.heap.size + 2 := by rw [hW0]; simp
      have t0 : Blk W0 w2.heap.size 3 #[.int .i64 0] := by rw [hW0]; exact (Blk.new _ _ _).alloc _
      have n0 : Blk W0 (w2.heap.size + 1) 3 #[.int .i64 0] := by rw [hW0]; exact blk_at _ _ _ _ (by simp)
      rw [← hW0]
      have HW0 := Lib.hid hW0
      clear hW0
      have z0' : w2.heap.size + 2 ≤ W0.heap.size := by omega
      have hc0 : ∀ (W : World), Below (w2.heap.size + 1) W0 W → QC many S b0 wb ab A9 cp w2.heap.size W ∧ Blk W w2.heap.size 3 #[.int .i64 0] := by
        intro W hb
        exact ⟨Q2.out.next (b0'.trans (hb.mono (by omega))) (Nat.le_refl _), t0.below hb (by omega)⟩
      have HC0 := Lib.hid hc0
      clear hc0
      have hN := vL_len S
      have HNL := Lib.hid (show (validL S 16).length = (vL S).length from rfl)
      refine wpIn_rangeFunc_box rfl (by decide) (gf := 39) (lb := #[.pointer (some ⟨fb, 0, none⟩)]) rfl trivial (enters_of Try.func39 (by kernel_rfl) rfl)
        (ectx_stops S fb 7 W0 (F12.out.below b0' F12.out.lt) (by decide)) (fun _ _ => trivial) (fun _ _ _ _ _ _ _ _ => trivial) (Below.refl _ _) (fun _ => rfl)
        (fun pre W => (W.cell? ⟨w2.heap.size + 1, 0, none⟩ = some (.int .i64 (pre.length : Nat)) ∧ W.frozen? ⟨w2.heap.size + 1, 0, none⟩ = false ∧ pre = (vL S).take pre.length ∧ (pre.length = 0 ∨ ((pre.length : Nat) : Int) < many)) ∧ Below (w2.heap.size + 1) W0 W)
        (fun c pre W => ((c = .ret ∧ pre ≠ (vL S).take pre.length) ∨ (c = .exit 4 ∧ W.cell? ⟨w2.heap.size + 1, 0, none⟩ = some (.int .i64 (pre.length : Nat)) ∧ many ≤ ((pre.length : Nat) : Int) ∧ 1 ≤ pre.length ∧ (pre.length = 1 ∨ ((pre.length : Nat) : Int) ≤ many) ∧ Below (w2.heap.size + 1) W0 W)))
        (OwnFrom.and (Own.from (fun s A B row hs hg hr => ⟨cell_kept hs.1 hg hr, (frozen_kept hs.1 hg hr).trans hs.2.1, hs.2.2⟩) _) (ownFrom_below (by omega) (by omega)))
        (fun c s A B row hs hg hr => ?ixown)
        ⟨⟨n0.cell 0, n0.frozen 0, rfl, .inl rfl⟩, Below.refl _ _⟩
        (fun x q W => Blk W q 54 #[.int .i64 (S x).f0, .int .i64 (S x).f1, .int .i64 (S x).f2, .int .i64 (S x).f3, .int .i64 (S x).f4]) (fun _ _ => blk_own)
        ?a1 ?assign ?body ?done ?stop
      case ixown =>
        rcases hs with hs | ⟨h1, h2, h3, h4, h5, h6⟩
        · exact .inl hs
        · exact .inr ⟨h1, cell_kept h2 hg (fun r e => (hr r e).2), h3, h4, h5, ownFrom_below (β := List Nat) (n₀ := w2.heap.size + 1) (w₀ := W0) (B := W0.heap.size) (by omega) (by omega) s A B row h6 hg hr⟩
      case assign =>
        rintro l pre x W K ⟨⟨hc, hf, hpre, hm⟩, hBW⟩ hK
        have hszW := hBW.size
        have HC := Lib.hid hc
        have HPR := Lib.hid hpre
        clear hc hpre
        gi_wp2
        obtain ⟨q, hq⟩ : ∃ q, q = W.heap.size := ⟨_, rfl⟩
        rw [← hq]
        exact hK q _ ((KeepsOthers.alloc W _).from _) trivial ⟨⟨(World.cell?_alloc_lt W _ ⟨w2.heap.size + 1, 0, none⟩ (by show w2.heap.size + 1 < W.heap.size; omega)).trans HC.out, (frozen?_alloc_cells _ _ _ _).trans hf, HPR.out, hm⟩, hBW.alloc (by omega) _⟩ (by rw [hq]; exact Blk.new _ _ _)
      case body =>
        rintro l pre x q W ⟨⟨hc, hf, hpre, hm⟩, hBW⟩ hq hlen
        have hlen2 : pre.length < (vL S).length := hlen
        obtain ⟨QX, TB⟩ := HC0.out W hBW
        obtain ⟨e1, e2, e2f, e3⟩ := QX.plain
        have e5 := TB.cell 0
        obtain ⟨rb, ro, rfl, hrb, hrc⟩ := QX.row (by omega)
        have hrc1 := hrc pre.length hlen2
        have HP := Lib.hid hpre
        have HM := Lib.hid hm
        have HBW := Lib.hid hBW
        have hszW := hBW.size
        have hql := hq.lt
        have ql := QX.lt
        have hn0 : (0 : Int) ≤ (pre.length : Int) := by omega
        have hn1 : (pre.length : Int) < ((vL S).length : Int) := by omega
        have hn2 : ¬ (((vL S).length : Int) ≤ (pre.length : Int)) := by omega
        have hn3 : (pre.length : Int) ≤ 16 := by omega
        have z1 : ∀ e : ExtW W, e.v.cell? ⟨w2.heap.size + 1, 0, none⟩ = some (.int .i64 (pre.length : Nat)) := fun e => e.cell hc (by show w2.heap.size + 1 < W.heap.size; omega)
        have z2 : ∀ e : ExtW W, e.v.cell? ⟨ab, 0, none⟩ = some (.slice (some ⟨rb, ro, none⟩) (vL S).length cp) := fun e => e.cell e3 (by show ab < W.heap.size; omega)
        have z3 : ∀ e : ExtW W, e.v.cell? ⟨rb, ro + pre.length, none⟩ = some (.int .i64 (vAt S pre.length : Nat)) := fun e => e.cell hrc1 (by show rb < W.heap.size; omega)
        have z40 : ∀ e : ExtW W, e.v.cell? ⟨q, 0, none⟩ = some (.int .i64 (S x).f0) := fun e => e.cell (hq.cell 0) hql
        have z41 : ∀ e : ExtW W, e.v.cell? ⟨q, 1, none⟩ = some (.int .i64 (S x).f1) := fun e => e.cell (hq.cell 1) hql
        have z42 : ∀ e : ExtW W, e.v.cell? ⟨q, 2, none⟩ = some (.int .i64 (S x).f2) := fun e => e.cell (hq.cell 2) hql
        have z43 : ∀ e : ExtW W, e.v.cell? ⟨q, 3, none⟩ = some (.int .i64 (S x).f3) := fun e => e.cell (hq.cell 3) hql
        have z44 : ∀ e : ExtW W, e.v.cell? ⟨q, 4, none⟩ = some (.int .i64 (S x).f4) := fun e => e.cell (hq.cell 4) hql
        have HRC := Lib.hid hrc
        have HQX := Lib.hid QX
        have HCE := Lib.hid (fun e : ExtW W => (⟨e.cell hc (by show w2.heap.size + 1 < W.heap.size; omega), (e.h.frozen (p := ⟨w2.heap.size + 1, 0, none⟩) (by show w2.heap.size + 1 < W.heap.size; omega)).trans hf, e.cell e1 (by show b0 < W.heap.size; omega), e.cell e2 (by show b0 + 1 < W.heap.size; omega), (e.h.frozen (p := ⟨b0 + 1, 0, none⟩) (by show b0 + 1 < W.heap.size; omega)).trans e2f, e.cell e5 (by show w2.heap.size < W.heap.size; omega)⟩ : e.v.cell? ⟨w2.heap.size + 1, 0, none⟩ = some (.int .i64 (pre.length : Nat)) ∧ e.v.frozen? ⟨w2.heap.size + 1, 0, none⟩ = false ∧ e.v.cell? ⟨b0, 0, none⟩ = some (.int .i64 many) ∧ e.v.cell? ⟨b0 + 1, 0, none⟩ = some (.bool false) ∧ e.v.frozen? ⟨b0 + 1, 0, none⟩ = false ∧ e.v.cell? ⟨w2.heap.size, 0, none⟩ = some (.int .i64 0)))
        have HUM := Lib.hid (vAt_mem S pre.length hlen2)
        have HTK := Lib.hid (take_snoc_at S pre hpre hlen2)
        have HNT := Lib.hid (fun h => not_take_snoc S pre x hpre hlen2 h)
        have HLT := Lib.hid hlen2
        obtain ⟨nl, hnl⟩ : ∃ nl, nl = pre.length := ⟨_, rfl⟩
        obtain ⟨NL, hNL⟩ : ∃ NL, NL = (vL S).length := ⟨_, rfl⟩
        obtain ⟨ux, hux⟩ : ∃ ux, ux = vAt S nl := ⟨_, rfl⟩
        rw [← hnl] at z1 z3 HCE hn0 hn1 hn2 hn3 HTK HUM HNT HM
        rw [← hNL] at hn1 hn2 z2
        rw [← hux] at z3 HUM HTK HNT
        have HNL2 := Lib.hid hnl
        clear hpre hm hrc hrc1 QX TB hBW hc hf e1 e2 e2f e3 e5 hlen hlen2 hnl hNL hux hq
        have hd1 : decide ((NL : Int) ≤ (nl : Int)) = false := by simpa using hn2
        have hd2 : decide (NL ≤ nl) = false := by simp; omega
        by_cases hx : x = ux
        · subst hx
          obtain ⟨hx16, hxu⟩ := HUM.out
          have hx0 : (0 : Int) ≤ (x : Int) := by omega
          have hx1 : (x : Int) < 16 := by omega
          obtain ⟨_, r0, r1, r2, r3, r4, r5, r6, r7, r8, _, _⟩ := HQX.out.ref.cells hx16
          have hwbW : wb < W.heap.size := by omega
          have y1 : ∀ e : ExtW W, e.v.cell? ⟨wb, x * 12 + 1, none⟩ = some (.int .i64 (S x).f0) := fun e => e.cell r0 hwbW
          have y2 : ∀ e : ExtW W, e.v.cell? ⟨wb, x * 12 + 2, none⟩ = some (.int .i64 (S x).f1) := fun e => e.cell r1 hwbW
          have y3 : ∀ e : ExtW W, e.v.cell? ⟨wb, x * 12 + 3, none⟩ = some (.int .i64 (S x).f2) := fun e => e.cell r2 hwbW
          have y4 : ∀ e : ExtW W, e.v.cell? ⟨wb, x * 12 + 4, none⟩ = some (.int .i64 (S x).f3) := fun e => e.cell r3 hwbW
          have y5 : ∀ e : ExtW W, e.v.cell? ⟨wb, x * 12 + 5, none⟩ = some (.int .i64 (S x).f4) := fun e => e.cell r4 hwbW
          have y6 : ∀ e : ExtW W, e.v.cell? ⟨wb, x * 12 + 6, none⟩ = some (.int .i64 (S x).hops) := fun e => e.cell r5 hwbW
          have y7 : ∀ e : ExtW W, e.v.cell? ⟨wb, x * 12 + 7, none⟩ = some (.int .i64 (S x).ident) := fun e => e.cell r6 hwbW
          have y8 : ∀ e : ExtW W, e.v.cell? ⟨wb, x * 12 + 8, none⟩ = some (.int .i64 (S x).time) := fun e => e.cell r7 hwbW
          have y9 : ∀ e : ExtW W, e.v.cell? ⟨wb, x * 12 + 9, none⟩ = some (.int .i64 0) := fun e => e.cell r8 hwbW
          clear r0 r1 r2 r3 r4 r5 r6 r7 r8
          obtain ⟨g0, hg0⟩ : ∃ g, g = (S x).f0 := ⟨_, rfl⟩
          obtain ⟨g1, hg1⟩ : ∃ g, g = (S x).f1 := ⟨_, rfl⟩
          obtain ⟨g2, hg2⟩ : ∃ g, g = (S x).f2 := ⟨_, rfl⟩
          obtain ⟨g3, hg3⟩ : ∃ g, g = (S x).f3 := ⟨_, rfl⟩
          obtain ⟨g4, hg4⟩ : ∃ g, g = (S x).f4 := ⟨_, rfl⟩
          rw [← hg0] at y1 z40
          rw [← hg1] at y2 z41
          rw [← hg2] at y3 z42
          rw [← hg3] at y4 z43
          rw [← hg4] at y5 z44
          clear hg0 hg1 hg2 hg3 hg4
          have hfn : ∀ V : World, (binOp .neq 54 (.agg #[.int .i64 g0, .int .i64 g1, .int .i64 g2, .int .i64 g3, .int .i64 g4]) (.agg #[.int .i64 g0, .int .i64 g1, .int .i64 g2, .int .i64 g3, .int .i64 g4])).run Try.prog V = .ok (.bool false) V := fun V => by
            rw [flow_neq]; unfold sameFlow; simp
          gi_wp2
          refine wpIn_round_ext (by kernel_rfl) (by kernel_rfl) (by kernel_rfl) ?_
          repeat (go_big_quiet_step (exact Calls.ext_of (rflow_ok _ _ _ _ _ _ _ _ _ _)))
          refine wpQuiet_nil ?_
          rintro _ ⟨ex, rfl⟩
          obtain ⟨ec, ef, ec1, ec2, ef2, ec5⟩ := HCE.out ex
          have hBX := HBW.out.trans (ex.h.mono (by omega))
          have hkx := keepsOthers_below ex.h
          clear z1 z2 z3 z40 z41 z42 z43 z44 y1 y2 y3 y4 y5 y6 y7 y8 y9 hfn
          by_cases hmany : many ≤ ((nl + 1 : Nat) : Int)
          · gi_wp2
            exact ⟨(hkx.trans (KeepsOthers.setCell _ _ _)).from _, .inr ⟨rfl, by rw [len_snoc', ← HNL2.out]; exact World.cell?_setCell_same' _ _ _ (by rw [ec]; rfl), by rw [len_snoc', ← HNL2.out]; exact hmany, by simp,
              by rw [len_snoc', List.length_append, List.length_singleton, ← HNL2.out]; rcases HM.out with h | h <;> omega,
              hBX.setCell (p := ⟨w2.heap.size + 1, 0, none⟩) (Nat.le_refl _) _⟩⟩
          · gi_wp2
            exact ⟨(hkx.trans (KeepsOthers.setCell _ _ _)).from _, trivial, ⟨by rw [len_snoc', ← HNL2.out]; exact World.cell?_setCell_same' _ _ _ (by rw [ec]; rfl),
              by rw [World.frozen?_setCell]; exact ef, HTK.out, .inr (by rw [len_snoc', ← HNL2.out]; omega)⟩,
              hBX.setCell (p := ⟨w2.heap.size + 1, 0, none⟩) (Nat.le_refl _) _⟩
        · have hb1 : (x == ux) = false := by simpa using hx
          have hb2 : (x != ux) = true := by simpa using hx
          have hb3 : ((x : Int) == (ux : Int)) = false := by simp; omega
          have hb4 : ((x : Int) != (ux : Int)) = true := by simp; omega
          gi_wp2
          refine wpIn_round_ext (by kernel_rfl) (by kernel_rfl) (by kernel_rfl) ?_
          repeat (go_big_quiet_step (exact Calls.ext_of (rflow_ok _ _ _ _ _ _ _ _ _ _)))
          refine wpQuiet_nil ?_
          rintro _ ⟨ex, rfl⟩
          obtain ⟨ec, ef, ec1, ec2, ef2, ec5⟩ := HCE.out ex
          have hkx := keepsOthers_below ex.h
          gi_wp2
          exact ⟨(hkx.trans (KeepsOthers.setCell _ _ _)).from _, .inl ⟨rfl, HNT.out hx⟩⟩
      case' done =>
        rintro D xs W hD rfl ⟨⟨hc, hf, hpre, hm⟩, hBW⟩ hK
        obtain ⟨QX, TB⟩ := HC0.out W hBW
        obtain ⟨e1, e2, e2f, e3⟩ := QX.plain
        have e5 := TB.cell 0
        have e5f := TB.frozen 0
        have HQX := Lib.hid QX
        rw [HNL.out] at hc hm
        obtain ⟨NL, hNL⟩ : ∃ NL, NL = (vL S).length := ⟨_, rfl⟩
        rw [← hNL] at hc hm e3
        have HNL3 := Lib.hid hNL
        clear hpre QX TB hNL
        gi_wp2
        all_goals (rw [roundsIn_succ]; gi_wp2)
      case' stop =>
        rintro D c pre W hD ⟨m, hmN, rfl⟩ (⟨rfl, h⟩ | ⟨rfl, hc, hm1, hm2, hm3, hBW⟩) hK
        · exact absurd (validL_take S m hmN) h
        obtain ⟨QX, TB⟩ := HC0.out W hBW
        obtain ⟨e1, e2, e2f, e3⟩ := QX.plain
        have e5 := TB.cell 0
        have e5f := TB.frozen 0
        have HQX := Lib.hid QX
        have hql2 : (validL S m).length ≤ (vL S).length := by
          have := validL_mono S m (16 - m)
          rw [show m + (16 - m) = 16 by omega] at this
          exact this
        obtain ⟨NL, hNL⟩ : ∃ NL, NL = (vL S).length := ⟨_, rfl⟩
        obtain ⟨nl, hnl⟩ : ∃ nl, nl = (validL S m).length := ⟨_, rfl⟩
        rw [← hNL] at hql2 e3
        rw [← hnl] at hql2 hc hm1 hm2 hm3
        have HNL3 := Lib.hid hNL
        clear QX TB hNL hnl
        gi_wp2
        all_goals (rw [roundsIn_succ]; gi_wp2)
      all_goals
        have HBW := Lib.hid hBW
        clear hBW hc
        have hDW : D < W.heap.size := (Array.getElem?_eq_some_iff.1 hK).1
        have hszW := HBW.out.size
        have hw2W : w2.heap.size + 2 ≤ W.heap.size := by omega
        obtain ⟨V, hV⟩ : ∃ V, V = (W.alloc (.cells #[.int .i64 1] 3)).alloc (.cells #[.int .i64 0] 3) := ⟨_, rfl⟩
        have bV : Below W.heap.size W V := by rw [hV]; exact ((Below.refl W.heap.size W).alloc (Nat.le_refl _) _).alloc (by simp) _
        have zV : V.heap.size = W.heap.size + 2 := by rw [hV]; simp
        have tV : Blk V W.heap.size 3 #[.int .i64 1] := by rw [hV]; exact (Blk.new _ _ _).alloc _
        have nV : Blk V (W.heap.size + 1) 3 #[.int .i64 0] := by rw [hV]; exact blk_at _ _ _ _ (by simp)
        rw [← hV]
        have HV := Lib.hid hV
        clear hV
        have zV' : W.heap.size + 2 ≤ V.heap.size := by omega
        have hc1 : ∀ (U : World), Below (W.heap.size + 1) V U → QC many S b0 wb ab A9 cp w2.heap.size U ∧ Blk U W.heap.size 3 #[.int .i64 1] ∧ U.heap[D]? = some (.deferred (some [])) := by
          intro U hb
          have hb2 : Below W.heap.size W U := bV.trans (hb.mono (by omega))
          exact ⟨HQX.out.next hb2 (by omega), tV.below hb (by omega), (hb.block D (by omega)).trans ((bV.block D hDW).trans hK)⟩
        have HC1 := Lib.hid hc1
        have FV := Lib.hid (((F12.out.below b0' F12.out.lt).below HBW.out (by have := F12.out.lt; omega)).below bV (by have := F12.out.lt; omega))
        clear hc1
        clear e1 e2 e2f e3 e5 e5f
        refine wpIn_rangeFunc_box rfl (by decide) (gf := 39) (lb := #[.pointer (some ⟨fb, 0, none⟩)]) rfl trivial (enters_of Try.func39 (by kernel_rfl) rfl)
          (ectx_stops S fb 7 V FV.out (by decide)) (fun _ _ => trivial) (fun _ _ _ _ _ _ _ _ => trivial) (Below.refl _ _) (fun _ => rfl)
          (fun pre U => (U.cell? ⟨W.heap.size + 1, 0, none⟩ = some (.int .i64 (pre.length : Nat)) ∧ U.frozen? ⟨W.heap.size + 1, 0, none⟩ = false ∧ pre = (vL S).take pre.length) ∧ Below (W.heap.size + 1) V U)
          (fun c pre U => c = .ret ∧ pre ≠ (vL S).take pre.length)
          (OwnFrom.and (Own.from (fun s A B row hs hg hr => ⟨cell_kept hs.1 hg hr, (frozen_kept hs.1 hg hr).trans hs.2.1, hs.2.2⟩) _) (ownFrom_below (by omega) (by omega)))
          (fun c s A B row hs hg hr => hs)
          ⟨⟨nV.cell 0, nV.frozen 0, rfl⟩, Below.refl _ _⟩
          (fun x q W => Blk W q 54 #[.int .i64 (S x).f0, .int .i64 (S x).f1, .int .i64 (S x).f2, .int .i64 (S x).f3, .int .i64 (S x).f4]) (fun _ _ => blk_own)
          ?_ ?_ ?_ ?_ ?_
        rotate_left
        · rintro l pre x U K ⟨⟨hc, hf, hpre⟩, hBU⟩ hK'
          have hszU := hBU.size
          have HC := Lib.hid hc
          have HPR := Lib.hid hpre
          clear hc hpre
          gi_wp2
          obtain ⟨q, hq⟩ : ∃ q, q = U.heap.size := ⟨_, rfl⟩
          rw [← hq]
          exact hK' q _ ((KeepsOthers.alloc U _).from _) trivial ⟨⟨(World.cell?_alloc_lt U _ ⟨W.heap.size + 1, 0, none⟩ (by show W.heap.size + 1 < U.heap.size; omega)).trans HC.out, (frozen?_alloc_cells _ _ _ _).trans hf, HPR.out⟩, hBU.alloc (by omega) _⟩ (by rw [hq]; exact Blk.new _ _ _)
        · rintro l pre x q U ⟨⟨hc, hf, hpre⟩, hBW⟩ hq hlen
          have hlen2 : pre.length < (vL S).length := hlen
          obtain ⟨QX, TB, hKU⟩ := HC1.out U hBW
          obtain ⟨e1, e2, e2f, e3⟩ := QX.plain
          have e5 := TB.cell 0
          obtain ⟨rb, ro, rfl, hrb, hrc⟩ := QX.row (by omega)
          have hrc1 := hrc pre.length hlen2
          have HP := Lib.hid hpre
          have HBW := Lib.hid hBW
          have hszW := hBW.size
          have hql := hq.lt
          have ql := QX.lt
          have hn0 : (0 : Int) ≤ (pre.length : Int) := by omega
          have hn1 : (pre.length : Int) < ((vL S).length : Int) := by omega
          have hn2 : ¬ (((vL S).length : Int) ≤ (pre.length : Int)) := by omega
          have hn3 : (pre.length : Int) ≤ 16 := by omega
          have z1 : ∀ e : ExtW U, e.v.cell? ⟨W.heap.size + 1, 0, none⟩ = some (.int .i64 (pre.length : Nat)) := fun e => e.cell hc (by show W.heap.size + 1 < U.heap.size; omega)
          have z2 : ∀ e : ExtW U, e.v.cell? ⟨ab, 0, none⟩ = some (.slice (some ⟨rb, ro, none⟩) (vL S).length cp) := fun e => e.cell e3 (by show ab < U.heap.size; omega)
          have z3 : ∀ e : ExtW U, e.v.cell? ⟨rb, ro + pre.length, none⟩ = some (.int .i64 (vAt S pre.length : Nat)) := fun e => e.cell hrc1 (by show rb < U.heap.size; omega)
          have z40 : ∀ e : ExtW U, e.v.cell? ⟨q, 0, none⟩ = some (.int .i64 (S x).f0) := fun e => e.cell (hq.cell 0) hql
          have z41 : ∀ e : ExtW U, e.v.cell? ⟨q, 1, none⟩ = some (.int .i64 (S x).f1) := fun e => e.cell (hq.cell 1) hql
          have z42 : ∀ e : ExtW U, e.v.cell? ⟨q, 2, none⟩ = some (.int .i64 (S x).f2) := fun e => e.cell (hq.cell 2) hql
          have z43 : ∀ e : ExtW U, e.v.cell? ⟨q, 3, none⟩ = some (.int .i64 (S x).f3) := fun e => e.cell (hq.cell 3) hql
          have z44 : ∀ e : ExtW U, e.v.cell? ⟨q, 4, none⟩ = some (.int .i64 (S x).f4) := fun e => e.cell (hq.cell 4) hql
          have HRC := Lib.hid hrc
          have HQX := Lib.hid QX
          have HCE := Lib.hid (fun e : ExtW U => (⟨e.cell hc (by show W.heap.size + 1 < U.heap.size; omega), (e.h.frozen (p := ⟨W.heap.size + 1, 0, none⟩) (by show W.heap.size + 1 < U.heap.size; omega)).trans hf, e.cell e1 (by show b0 < U.heap.size; omega), e.cell e2 (by show b0 + 1 < U.heap.size; omega), (e.h.frozen (p := ⟨b0 + 1, 0, none⟩) (by show b0 + 1 < U.heap.size; omega)).trans e2f, e.cell e5 (by show W.heap.size < U.heap.size; omega)⟩ : e.v.cell? ⟨W.heap.size + 1, 0, none⟩ = some (.int .i64 (pre.length : Nat)) ∧ e.v.frozen? ⟨W.heap.size + 1, 0, none⟩ = false ∧ e.v.cell? ⟨b0, 0, none⟩ = some (.int .i64 many) ∧ e.v.cell? ⟨b0 + 1, 0, none⟩ = some (.bool false) ∧ e.v.frozen? ⟨b0 + 1, 0, none⟩ = false ∧ e.v.cell? ⟨W.heap.size, 0, none⟩ = some (.int .i64 1)))
          have HUM := Lib.hid (vAt_mem S pre.length hlen2)
          have HTK := Lib.hid (take_snoc_at S pre hpre hlen2)
          have HNT := Lib.hid (fun h => not_take_snoc S pre x hpre hlen2 h)
          have HLT := Lib.hid hlen2
          obtain ⟨nl, hnl⟩ : ∃ nl, nl = pre.length := ⟨_, rfl⟩
          obtain ⟨NL, hNL⟩ : ∃ NL, NL = (vL S).length := ⟨_, rfl⟩
          obtain ⟨ux, hux⟩ : ∃ ux, ux = vAt S nl := ⟨_, rfl⟩
          rw [← hnl] at z1 z3 HCE hn0 hn1 hn2 hn3 HTK HUM HNT
          rw [← hNL] at hn1 hn2 z2
          rw [← hux] at z3 HUM HTK HNT
          have HNL2 := Lib.hid hnl
          clear hpre hrc hrc1 QX TB hKU hBW hc hf e1 e2 e2f e3 e5 hlen hlen2 hnl hNL hux hq
          have hd1 : decide ((NL : Int) ≤ (nl : Int)) = false := by simpa using hn2
          have hd2 : decide (NL ≤ nl) = false := by simp; omega
          by_cases hx : x = ux
          · subst hx
            obtain ⟨hx16, hxu⟩ := HUM.out
            have hx0 : (0 : Int) ≤ (x : Int) := by omega
            have hx1 : (x : Int) < 16 := by omega
            obtain ⟨_, r0, r1, r2, r3, r4, r5, r6, r7, r8, _, _⟩ := HQX.out.ref.cells hx16
            have hwbW : wb < U.heap.size := by omega
            have y1 : ∀ e : ExtW U, e.v.cell? ⟨wb, x * 12 + 1, none⟩ = some (.int .i64 (S x).f0) := fun e => e.cell r0 hwbW
            have y2 : ∀ e : ExtW U, e.v.cell? ⟨wb, x * 12 + 2, none⟩ = some (.int .i64 (S x).f1) := fun e => e.cell r1 hwbW
            have y3 : ∀ e : ExtW U, e.v.cell? ⟨wb, x * 12 + 3, none⟩ = some (.int .i64 (S x).f2) := fun e => e.cell r2 hwbW
            have y4 : ∀ e : ExtW U, e.v.cell? ⟨wb, x * 12 + 4, none⟩ = some (.int .i64 (S x).f3) := fun e => e.cell r3 hwbW
            have y5 : ∀ e : ExtW U, e.v.cell? ⟨wb, x * 12 + 5, none⟩ = some (.int .i64 (S x).f4) := fun e => e.cell r4 hwbW
            have y6 : ∀ e : ExtW U, e.v.cell? ⟨wb, x * 12 + 6, none⟩ = some (.int .i64 (S x).hops) := fun e => e.cell r5 hwbW
            have y7 : ∀ e : ExtW U, e.v.cell? ⟨wb, x * 12 + 7, none⟩ = some (.int .i64 (S x).ident) := fun e => e.cell r6 hwbW
            have y8 : ∀ e : ExtW U, e.v.cell? ⟨wb, x * 12 + 8, none⟩ = some (.int .i64 (S x).time) := fun e => e.cell r7 hwbW
            have y9 : ∀ e : ExtW U, e.v.cell? ⟨wb, x * 12 + 9, none⟩ = some (.int .i64 0) := fun e => e.cell r8 hwbW
            clear r0 r1 r2 r3 r4 r5 r6 r7 r8
            obtain ⟨g0, hg0⟩ : ∃ g, g = (S x).f0 := ⟨_, rfl⟩
            obtain ⟨g1, hg1⟩ : ∃ g, g = (S x).f1 := ⟨_, rfl⟩
            obtain ⟨g2, hg2⟩ : ∃ g, g = (S x).f2 := ⟨_, rfl⟩
            obtain ⟨g3, hg3⟩ : ∃ g, g = (S x).f3 := ⟨_, rfl⟩
            obtain ⟨g4, hg4⟩ : ∃ g, g = (S x).f4 := ⟨_, rfl⟩
            rw [← hg0] at y1 z40
            rw [← hg1] at y2 z41
            rw [← hg2] at y3 z42
            rw [← hg3] at y4 z43
            rw [← hg4] at y5 z44
            clear hg0 hg1 hg2 hg3 hg4
            have hfn : ∀ V : World, (binOp .neq 54 (.agg #[.int .i64 g0, .int .i64 g1, .int .i64 g2, .int .i64 g3, .int .i64 g4]) (.agg #[.int .i64 g0, .int .i64 g1, .int .i64 g2, .int .i64 g3, .int .i64 g4])).run Try.prog V = .ok (.bool false) V := fun V => by
              rw [flow_neq]; unfold sameFlow; simp
            gi_wp2
            refine wpIn_round_ext (by kernel_rfl) (by kernel_rfl) (by kernel_rfl) ?_
            repeat (go_big_quiet_step (exact Calls.ext_of (rflow_ok _ _ _ _ _ _ _ _ _ _)))
            refine wpQuiet_nil ?_
            rintro _ ⟨ex, rfl⟩
            obtain ⟨ec, ef, ec1, ec2, ef2, ec5⟩ := HCE.out ex
            have hBX := HBW.out.trans (ex.h.mono (by omega))
            have hkx := keepsOthers_below ex.h
            clear z1 z2 z3 z40 z41 z42 z43 z44 y1 y2 y3 y4 y5 y6 y7 y8 y9 hfn
            gi_wp2
            exact ⟨(hkx.trans (KeepsOthers.setCell _ _ _)).from _, trivial, ⟨by rw [len_snoc', ← HNL2.out]; exact World.cell?_setCell_same' _ _ _ (by rw [ec]; rfl),
              by rw [World.frozen?_setCell]; exact ef, HTK.out⟩,
              hBX.setCell (p := ⟨W.heap.size + 1, 0, none⟩) (Nat.le_refl _) _⟩
          · have hb1 : (x == ux) = false := by simpa using hx
            have hb2 : (x != ux) = true := by simpa using hx
            have hb3 : ((x : Int) == (ux : Int)) = false := by simp; omega
            have hb4 : ((x : Int) != (ux : Int)) = true := by simp; omega
            gi_wp2
            refine wpIn_round_ext (by kernel_rfl) (by kernel_rfl) (by kernel_rfl) ?_
            repeat (go_big_quiet_step (exact Calls.ext_of (rflow_ok _ _ _ _ _ _ _ _ _ _)))
            refine wpQuiet_nil ?_
            rintro _ ⟨ex, rfl⟩
            obtain ⟨ec, ef, ec1, ec2, ef2, ec5⟩ := HCE.out ex
            have hkx := keepsOthers_below ex.h
            gi_wp2
            exact ⟨(hkx.trans (KeepsOthers.setCell _ _ _)).from _, rfl, HNT.out hx⟩
        · rintro D2 xs U hD2 rfl ⟨⟨hc, hf, hpre⟩, hBU⟩ hK2
          obtain ⟨QX, TB, hKU⟩ := HC1.out U hBU
          obtain ⟨e1, e2, e2f, e3⟩ := QX.plain
          have e5 := TB.cell 0
          have e5f := TB.frozen 0
          have qlt := QX.lt
          rw [HNL.out] at hc
          obtain ⟨NM, hNM⟩ : ∃ NM, NM = (vL S).length := ⟨_, rfl⟩
          rw [← hNM] at hc e3
          clear hpre QX TB hNM
          have hU := hBU.size
          gi_wp2
          all_goals (rw [roundsIn_succ]; gi_wp2; go_wp2_with (go_at_call 13; refine (works44_true _).mono ?_; rintro e w9 ⟨rfl, h9⟩; have q9 := (h9.cell (p := ⟨b0 + 1, 0, none⟩) (by simp; omega)).trans ((World.cell?_alloc_lt U _ ⟨b0 + 1, 0, none⟩ (by simp; omega)).trans e2); have q9f := (h9.frozen (p := ⟨b0 + 1, 0, none⟩) (by simp; omega)).trans ((frozen?_alloc_cells _ _ _ _).trans e2f)))
          all_goals
            have hD9 : w9.heap[D]? = some (.deferred (some [])) := (h9.block D (by simp; omega)).trans ((Below.heap_alloc U _ D (by omega)).trans hKU)
            have hD29 : w9.heap[D2]? = some (.deferred (some [])) := (h9.block D2 (by have := (Array.getElem?_eq_some_iff.1 hK2).1; simp; omega)).trans ((Below.heap_alloc U _ D2 ((Array.getElem?_eq_some_iff.1 hK2).1)).trans hK2)
            have k9 := KeepsOthers.setCell w9 ⟨b0 + 1, 0, none⟩ (.bool true)
            have hD9' := k9.same D _ hD9 rfl
            have hD29' := k9.same D2 _ hD29 rfl
            have hne : D ≠ D2 := by omega
            refine ⟨by simp, .inl ⟨_, _, rfl, run_takeDeferred hD29', ?_⟩⟩
            refine ⟨by simp, .inl ⟨_, _, rfl, run_takeDeferred ((World.putObj_heap_other hne).trans hD9'), ?_⟩⟩
            have h5 : (((w9.setCell ⟨b0 + 1, 0, none⟩ (.bool true)).putObj D2 (.deferred none)).putObj D (.deferred none)).cell? ⟨b0 + 1, 0, none⟩ = some (.bool true) :=
              cell_kept (cell_kept (World.cell?_setCell_same' w9 ⟨b0 + 1, 0, none⟩ (.bool true) (by rw [q9]; rfl)) (grownBy_putObj' _ D2 (.deferred none)) (fun r e => by cases e; exact ⟨_, hD29', rfl⟩))
                (grownBy_putObj' _ D (.deferred none)) (fun r e => by cases e; exact ⟨_, (World.putObj_heap_other hne).trans hD9', rfl⟩)
            refine ⟨.bool true, ?_, rfl, ?_⟩
            · simp [results, go_sem, h5]
            · have hbW : Below w.heap.size w W := BB2.out.trans ((b0'.trans (HBW.out.mono (by omega))).mono (by omega))
              have hbU : Below w.heap.size w U := (hbW.trans (bV.mono (by omega))).trans (hBU.mono (by omega))
              have hb : Below w.heap.size w ((w9.setCell ⟨b0 + 1, 0, none⟩ (.bool true))) := ((hbU.alloc (by omega) _).trans (h9.mono (by simp; omega))).setCell (p := ⟨b0 + 1, 0, none⟩) (by show w.heap.size ≤ b0 + 1; omega) _
              have hz9 := hb.size
              exact (hb.grown (grownBy_putObj' _ D2 (.deferred none)) hz9 (fun k e => by cases e; omega)).grown (grownBy_putObj' _ D (.deferred none)) (by rw [World.putObj_size]; exact hz9) (fun k e => by cases e; omega)
        · rintro D2 c pre U hD2 ⟨m2, hmN2, rfl⟩ ⟨rfl, h⟩ hK2
          exact absurd (validL_take S m2 hmN2) h
end Go.Proofs.Ytofaghpflmeblaa
