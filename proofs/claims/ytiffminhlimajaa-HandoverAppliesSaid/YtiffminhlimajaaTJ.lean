/- handover.Apply. -/
import Derived.Test.YtiffminhlimajaaTI
import Derived.Test.YtiffminhlimajaaTM
import Derived.Test.YtiffminhlimajaaNB
namespace Go.Proofs.Ytiffminhlimajaa
open Go.RowKit
set_option linter.unusedVariables false
attribute [local go_sem ↓] Go.wp_at_zero Go.wp_at_succ

/-- count x is confirmed by a report (first D, bits B of length L) -/
def confB (D : Int) (L : Nat) (B : Nat → Bool) (x : Int) : Bool := if x < D then true else if x = D then false else if x - D - 1 < L then B (x - D - 1).toNat else false
def PK (cf : Int → Bool) (P : List PV) (k : Nat) : List PV := (P.take k).filter (fun e => !cf e.ct) ++ P.drop k
def NK (cf : Int → Bool) (P : List PV) (k : Nat) : Nat := ((P.take k).filter (fun e => cf e.ct)).length
/-- counts rise -/
def Incr (P : List PV) : Prop := ∀ (i j : Nat) (a b : PV), i < j → P[i]? = some a → P[j]? = some b → a.ct < b.ct
section
variable {cf : Int → Bool} {P : List PV} {k : Nat} {e : PV}
theorem pk_zero : PK cf P 0 = P := by simp [PK]
theorem nk_zero : NK cf P 0 = 0 := by simp [NK]
theorem drop_at (he : P[k]? = some e) : P.drop k = e :: P.drop (k + 1) := by
  obtain ⟨h1, h2⟩ := List.getElem?_eq_some_iff.1 he
  rw [List.drop_eq_getElem_cons h1, h2]
theorem take_at (he : P[k]? = some e) : P.take (k + 1) = P.take k ++ [e] := by rw [List.take_add_one, he]; rfl
theorem pk_no (he : P[k]? = some e) (h : cf e.ct = false) : PK cf P (k + 1) = PK cf P k := by
  unfold PK
  rw [take_at he, List.filter_append, drop_at he]
  simp [h]
theorem nk_no (he : P[k]? = some e) (h : cf e.ct = false) : NK cf P (k + 1) = NK cf P k := by
  unfold NK
  rw [take_at he, List.filter_append]
  simp [h]
theorem nk_yes (he : P[k]? = some e) (h : cf e.ct = true) : NK cf P (k + 1) = NK cf P k + 1 := by
  unfold NK
  rw [take_at he, List.filter_append]
  simp [h]
theorem pk_yes (he : P[k]? = some e) (h : cf e.ct = true) (hi : Incr P) : ∃ i, (PK cf P k)[i]? = some e ∧ (∀ j, j < i → ∀ x, (PK cf P k)[j]? = some x → x.ct ≠ e.ct) ∧ (PK cf P k).eraseIdx i = PK cf P (k + 1) := by
  refine ⟨((P.take k).filter (fun e => !cf e.ct)).length, ?_, fun j hj x hx => ?_, ?_⟩
  · unfold PK
    rw [List.getElem?_append_right (Nat.le_refl _), Nat.sub_self, drop_at he]
    rfl
  · unfold PK at hx
    rw [List.getElem?_append_left hj] at hx
    have hm := (List.mem_filter.1 (List.mem_of_getElem? hx)).1
    obtain ⟨i, hi2⟩ := List.getElem?_of_mem hm
    have hik : i < k := by
      have := (List.getElem?_eq_some_iff.1 hi2).1
      simp at this
      omega
    rw [List.getElem?_take, if_pos hik] at hi2
    have := hi i k x e hik hi2 he
    omega
  · unfold PK
    rw [take_at he, List.filter_append, drop_at he]
    simp [h, List.eraseIdx_append_of_length_le]
end
theorem tfeed_ok (g : Nat) (s : TS) (W R : Nat → Prop) (w : World) (h : TxI w g s W R) (hc : s.C.cm = false) (x : Value) : Calls Try.prog 22 #[.pointer (some ⟨g, 0, none⟩), x] w fun e w' => e = .returned (.int .i64 8) ∧ w = w' := by
  have HM := Lib.hid (tmade_ok g s W R w h)
  obtain ⟨qA, qc, lq, pA, pc, lp, ub, cb, h⟩ := h
  have c35 : w.cell? ⟨g, 35, none⟩ = some (.bool false) := by rw [h.cC (by omega)]; show some (Value.bool s.C.cm) = _; rw [hc]
  have hglt := h.blk.lt
  clear h
  go_enter Try.func22, Try.ntmps22
  go_wp2_with (go_at_call 27; refine (HM.out).mono ?_; rintro e w2 ⟨rfl, rfl⟩)
  go_ret
  exact ⟨rfl, rfl⟩
set_option maxRecDepth 100000 in
set_option maxHeartbeats 1600000 in
/-- a packet that does not parse changes nothing; nor does feedback where nothing is compressed -/
theorem apply_err (g : Nat) (s : TS) (W R : Nat → Prop) (w : World) (h : TxI w g s W R) (hcm : s.C.cm = false) (m c : Nat) (A : Option Addr) (z : Nat → Int) (hm : m ≤ 140737488355328) (hmc : m ≤ c) (hz : ∀ j, j < m → 0 ≤ z j ∧ z j < 256) (hr : Row w w.heap.size A m (fun j => .int .u8 (z j))) (he : derr m z ≠ 0 ∨ dkind m z = 1) :
    Calls Try.prog 7 #[.pointer (some ⟨g, 0, none⟩), .slice A m c] w fun e w' => e = .returned (.tuple #[.int .i64 0, .int .i64 (if derr m z = 0 then 8 else derr m z)]) ∧ Below w.heap.size w w' := by
  have HR := Lib.hid (tconfig_ok g s W R w h)
  have HF := Lib.hid (fun (V : World) (hb : Below w.heap.size w V) (x : Value) => tfeed_ok g s W R V (h.below hb) hcm x)
  have HS : Hid ((Try.prog.info? 37).map (·.size) = some s.C.arr.size) := Lib.hid (by rw [s.C.arr_size]; exact infoPd)
  have HO : Hid (s.C.arr.all (·.oneCell') = true) := Lib.hid s.C.arr_one
  have HZ : Hid (z39.size = s.C.arr.size) := Lib.hid (by rw [s.C.arr_size]; rfl)
  have HD := Lib.hid (fun (V : World) (hb : Below w.heap.size w V) => decode_fr m c A z V hm hmc hz (hr.next hb))
  unfold DecF ctl at HD
  obtain ⟨Z, hZ⟩ : ∃ Z, Z = s.C.arr := ⟨_, rfl⟩
  rw [← hZ] at HR HS HO HZ
  obtain ⟨E, hE⟩ : ∃ E, E = derr m z := ⟨_, rfl⟩
  obtain ⟨kd, hkd⟩ : ∃ kd, kd = dkind m z := ⟨_, rfl⟩
  rw [← hE, ← hkd] at HD
  rw [← hE] at he ⊢
  rw [← hkd] at he
  clear hZ hE hkd h hr hz
  rcases Decidable.em (E = 0) with h0 | h0
  · subst h0
    obtain rfl : kd = 1 := by rcases he with h | h; exact absurd rfl h; exact h
    clear he
    go_enter Try.func7, Try.ntmps7
    go_upto_region 4 with (first
      | (go_at_call 21; refine (HR.out).mono ?_; rintro e w1 ⟨rfl, hB⟩; have B := Lib.hid hB; clear hB)
      | (refine wpList_store_row rfl _ _ _ rfl w1.heap.size Z rfl rfl 37 z39 (Blk.new w1 _ _) HS.out HZ.out HO.out ?_))
    refine wp_let (fun V => Below w.heap.size w V) (B.out.trans ((belowRow ((Below.refl _ w1).alloc (Nat.le_refl _) _) (Nat.le_refl _) _).mono B.out.size)) ?_
    intro w2 hX
    have X2 := Lib.hid hX
    clear hX
    go_wp2_with (first
      | (go_at_call 12; refine (HD.out _ X2.out).mono ?_; rintro e w3 ⟨A1, c1, A2, c2, rfl, hR1, hR2, hb, hfr⟩; have B3 := Lib.hid (X2.out.trans (hb.mono X2.out.size)); have C3 := Lib.hid (Blk.new w3 43 #[.int .i64 1, .int .u32 (dfirst m z), .slice A1 (dlen m z) c1, .slice A2 (dfeed m z) c2]); clear hR1 hR2 hb hfr)
      | (go_at_call 22; refine (HF.out _ (B3.out.trans ((Below.refl _ w3).alloc (Nat.le_refl _) _ |>.mono B3.out.size)) _).mono ?_; rintro e w4 ⟨rfl, rfl⟩))
    go_ret2
    exact ⟨rfl, B3.out.trans ((Below.refl _ w3).alloc (Nat.le_refl _) _ |>.mono B3.out.size)⟩
  · have hE : (E == 0) = false := by simpa using h0
    rw [if_neg h0]
    clear he
    go_enter Try.func7, Try.ntmps7
    go_upto_region 4 with (first
      | (go_at_call 21; refine (HR.out).mono ?_; rintro e w1 ⟨rfl, hB⟩; have B := Lib.hid hB; clear hB)
      | (refine wpList_store_row rfl _ _ _ rfl w1.heap.size Z rfl rfl 37 z39 (Blk.new w1 _ _) HS.out HZ.out HO.out ?_))
    refine wp_let (fun V => Below w.heap.size w V) (B.out.trans ((belowRow ((Below.refl _ w1).alloc (Nat.le_refl _) _) (Nat.le_refl _) _).mono B.out.size)) ?_
    intro w2 hX
    have X2 := Lib.hid hX
    clear hX
    go_wp2_with (first
      | (go_at_call 12; refine (HD.out _ X2.out).mono ?_; rintro e w3 ⟨A1, c1, A2, c2, rfl, hR1, hR2, hb, hfr⟩; have B3 := Lib.hid (X2.out.trans (hb.mono X2.out.size)); clear hR1 hR2 hb hfr))
    go_ret2
    exact ⟨rfl, B3.out.trans ((Below.refl _ w3).alloc (Nat.le_refl _) _ |>.mono B3.out.size)⟩
theorem dfirst_rng (m : Nat) (z : Nat → Int) (hz : ∀ j, j < m → 0 ≤ z j ∧ z j < 256) : 0 ≤ dfirst m z ∧ dfirst m z < 4294967296 := by
  unfold dfirst
  split
  · rename_i h
    unfold sfirst
    split
    · rename_i h2
      have h4 : ¬ m - 1 < 4 := fun h4 => by unfold serr at h2; rw [if_pos h4] at h2; cases h2
      have := fu_bounds (dz z) (m - 1) (fun j hj => hz (1 + j) (by omega)) 4 (by omega)
      omega
    · omega
  · omega
theorem dlen_le (m : Nat) (z : Nat → Int) : dlen m z ≤ 2047 := by
  unfold dlen
  split
  · unfold slen
    split
    · rename_i h2
      unfold serr at h2
      split at h2
      · cases h2
      · split at h2
        · cases h2
        · split at h2
          · cases h2
          · omega
    · omega
  · omega
end Go.Proofs.Ytiffminhlimajaa
