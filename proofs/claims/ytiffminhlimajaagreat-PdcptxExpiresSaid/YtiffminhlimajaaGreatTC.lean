/- pdcptx: the small functions. -/
import Derived.Test.YtiffminhlimajaaGreatTB
import Derived.Test.YtiffminhlimajaaGreatNA
namespace Go.Proofs.YtiffminhlimajaaGreat
open Go.RowKit
set_option linter.unusedVariables false
attribute [local go_sem ↓] Go.wp_at_zero Go.wp_at_succ

theorem infoPd : (Tryz.prog.info? 25).map (·.size) = some 39 := by kernel_rfl
theorem tmade_ok (g : Nat) (s : TS) (W R : Nat → Prop) (w : World) (h : TxI w g s W R) : Calls Tryz.prog 54 #[.pointer (some ⟨g, 0, none⟩)] w fun e w' => e = .returned (.bool false) ∧ w = w' := by
  obtain ⟨qA, qc, lq, pA, pc, lp, ub, cb, h⟩ := h
  have h2 := h.made
  clear h
  go_enter Tryz.func54, Tryz.ntmps54
  go_wp2
  go_ret
  exact ⟨rfl, rfl⟩
set_option maxRecDepth 100000 in
set_option maxHeartbeats 1600000 in
theorem tvalid_ok (c : Cfg) (w : World) : Calls Tryz.prog 26 #[.agg c.arr] w fun e w' => e = .returned (.bool (decide c.Valid)) ∧ Below w.heap.size w w' := by
  have h0 : c.arr[0]? = some (.int .i64 c.b) := c.arr_at (by decide)
  have h1 : c.arr[1]? = some (.int .i64 c.d) := c.arr_at (by decide)
  have h2 : c.arr[37]? = some (.int .i64 c.ds) := c.arr_at (by decide)
  have h3 : c.arr[38]? = some (.int .i64 c.ro) := c.arr_at (by decide)
  have HV := Lib.hid (show c.Valid ↔ (0 ≤ c.b ∧ c.b ≤ 31 ∧ (c.d = 0 ∨ c.d = 1) ∧ 0 ≤ c.ds ∧ c.ds ≤ 1073741824 ∧ 0 ≤ c.ro ∧ c.ro ≤ 1073741824) from Iff.rfl)
  obtain ⟨V, hV⟩ : ∃ V, V = decide c.Valid := ⟨_, rfl⟩
  have HD := Lib.hid (show V = true ↔ c.Valid from by rw [hV]; exact decide_eq_true_iff)
  obtain ⟨Z, hZ⟩ : ∃ Z, Z = c.arr := ⟨_, rfl⟩
  rw [← hV]
  rw [← hZ] at h0 h1 h2 h3 ⊢
  obtain ⟨b, hb⟩ : ∃ b, b = c.b := ⟨_, rfl⟩
  obtain ⟨d, hd⟩ : ∃ d, d = c.d := ⟨_, rfl⟩
  obtain ⟨ds, hds⟩ : ∃ ds, ds = c.ds := ⟨_, rfl⟩
  obtain ⟨ro, hro⟩ : ∃ ro, ro = c.ro := ⟨_, rfl⟩
  rw [← hb] at h0 HV
  rw [← hd] at h1 HV
  rw [← hds] at h2 HV
  rw [← hro] at h3 HV
  clear hZ hV hb hd hds hro
  go_enter Tryz.func26, Tryz.ntmps26
  go_upto_region 1 with (fail)
  refine wp_let (fun W => Blk W w.heap.size 25 Z ∧ Below w.heap.size w W) ⟨Blk.new _ _ _, (Below.refl _ w).alloc (Nat.le_refl _) _⟩ ?_
  rintro W1 ⟨b1, b2⟩
  have x0 := (b1.cell 0).trans h0
  have x1 := (b1.cell 1).trans h1
  have x2 := (b1.cell 37).trans h2
  have x3 := (b1.cell 38).trans h3
  have HB := Lib.hid b2
  clear b1 b2 h0 h1 h2 h3
  have hout : ∀ r : Bool, (r = true ↔ (0 ≤ b ∧ b ≤ 31 ∧ (d = 0 ∨ d = 1) ∧ 0 ≤ ds ∧ ds ≤ 1073741824 ∧ 0 ≤ ro ∧ ro ≤ 1073741824)) → r = V := fun r hr => by
    rw [Bool.eq_iff_iff, hr, HD.out, HV.out]
  have HO := Lib.hid hout
  clear hout
  by_cases c0 : b < 0
  · go_wp2
    go_ret
    exact ⟨ret_bool (HO.out _ ⟨fun h => (by cases h), fun h => (by omega)⟩), HB.out⟩
  by_cases c1 : 31 < b
  · go_wp2
    go_ret
    exact ⟨ret_bool (HO.out _ ⟨fun h => (by cases h), fun h => (by omega)⟩), HB.out⟩
  by_cases c2 : d = 0 ∨ d = 1
  rotate_left
  · have d0 : (d != 0) = true := by simp; omega
    have d1 : (d != 1) = true := by simp; omega
    go_wp2
    go_ret
    exact ⟨ret_bool (HO.out _ ⟨fun h => (by cases h), fun h => (by omega)⟩), HB.out⟩
  have hdd : (d != 0 && d != 1) = false := by rcases c2 with rfl | rfl <;> rfl
  by_cases c3 : 0 ≤ ds
  rotate_left
  · rcases c2 with rfl | rfl <;>
    · go_wp2
      go_ret
      exact ⟨ret_bool (HO.out _ ⟨fun h => (by cases h), fun h => (by omega)⟩), HB.out⟩
  by_cases c4 : ds ≤ 1073741824
  rotate_left
  · rcases c2 with rfl | rfl <;>
    · go_wp2
      go_ret
      exact ⟨ret_bool (HO.out _ ⟨fun h => (by cases h), fun h => (by omega)⟩), HB.out⟩
  by_cases c5 : 0 ≤ ro
  rotate_left
  · rcases c2 with rfl | rfl <;>
    · go_wp2
      go_ret
      exact ⟨ret_bool (HO.out _ ⟨fun h => (by cases h), fun h => (by omega)⟩), HB.out⟩
  by_cases c6 : ro ≤ 1073741824
  rotate_left
  · rcases c2 with rfl | rfl <;>
    · go_wp2
      go_ret
      exact ⟨ret_bool (HO.out _ ⟨fun h => (by cases h), fun h => (by omega)⟩), HB.out⟩
  rcases c2 with rfl | rfl <;>
  · go_wp2
    go_ret
    exact ⟨ret_bool (HO.out _ ⟨fun h => ⟨by omega, by omega, by simp, by omega, by omega, by omega, by omega⟩, fun h => rfl⟩), HB.out⟩
/-- the next COUNT of a state -/
def nextOf (nx : Int) (us : Bool) : Int := if us then 4294967296 else nx
theorem tnext_ok (nx : Int) (us : Bool) (a b : Value) (w : World) (h : 0 ≤ nx ∧ nx < 4294967296) : Calls Tryz.prog 45 #[.agg #[.int .u32 nx, .bool us, a, b]] w fun e w' => e = .returned (.int .u64 (nextOf nx us)) ∧ Below w.heap.size w w' := by
  have tw : IntKind.u64.wrap nx = nx := by simp [IntKind.wrap_u64]; omega
  have b0 := Lib.hid (fun o : Obj => (Below.refl _ w).alloc (Nat.le_refl _) o)
  cases us
  · go_enter Tryz.func45, Tryz.ntmps45
    go_wp2
    go_ret
    exact ⟨rfl, b0.out _⟩
  · go_enter Tryz.func45, Tryz.ntmps45
    go_wp2
    go_ret
    exact ⟨rfl, b0.out _⟩
def fitsB (n : Nat) : Bool := decide (1 ≤ n ∧ n ≤ 9000)
theorem fits_ok (A : Option Addr) (n c : Nat) (w : World) : Calls Tryz.prog 82 #[.slice A n c] w fun e w' => e = .returned (.bool (fitsB n)) ∧ w = w' := by
  unfold fitsB
  by_cases h1 : (1 : Int) ≤ (n : Int)
  · by_cases h2 : (n : Int) ≤ 9000
    · go_enter Tryz.func82, Tryz.ntmps82
      go_wp2
      go_ret
      exact ⟨ret_bool (by simp; omega), rfl⟩
    · go_enter Tryz.func82, Tryz.ntmps82
      go_wp2
      go_ret
      exact ⟨ret_bool (by simp; omega), rfl⟩
  · go_enter Tryz.func82, Tryz.ntmps82
    go_wp2
    go_ret
    exact ⟨ret_bool (by simp; omega), rfl⟩
theorem fits_not (A : Option Addr) (n c : Nat) (w : World) : Calls Tryz.prog 84 #[.slice A n c] w fun e w' => e = .returned (.bool (!fitsB n)) ∧ w = w' := by
  have HF := Lib.hid (fits_ok A n c w)
  go_enter Tryz.func84, Tryz.ntmps84
  go_wp2_with (go_at_call 82; refine HF.out.mono ?_; rintro e w1 ⟨rfl, rfl⟩)
  go_ret
  exact ⟨rfl, rfl⟩
set_option maxRecDepth 100000 in
set_option maxHeartbeats 1600000 in
theorem tconfig_ok (g : Nat) (s : TS) (W R : Nat → Prop) (w : World) (h : TxI w g s W R) : Calls Tryz.prog 27 #[.pointer (some ⟨g, 0, none⟩)] w fun e w' => e = .returned (.tuple #[.agg s.C.arr, .int .i64 0]) ∧ Below w.heap.size w w' := by
  have HN := Lib.hid (fun (W' : World) (hb : Below w.heap.size w W') => tmade_ok g s W R W' (h.below hb))
  obtain ⟨qA, qc, lq, pA, pc, lp, ub, cb, h⟩ := h
  obtain ⟨Z, hZ⟩ : ∃ Z, Z = s.C.arr := ⟨_, rfl⟩
  have HZ := Lib.hid hZ
  have hs : Z.size = 39 := by rw [hZ]; exact s.C.arr_size
  have hr : w.rangeAt g 0 Z.toList := fun j v hj => by
    have hj39 : j < 39 := by have := (List.getElem?_eq_some_iff.1 hj).1; simpa [hs] using this
    rw [Nat.zero_add, h.blk.cell j, tArr_low s.C.arr_size hj39, ← hZ]
    simpa using hj
  have hglt := h.blk.lt
  have HSZ : Hid ((Tryz.prog.info? 25).map (·.size) = some Z.size) := Lib.hid (by rw [hs]; exact infoPd)
  have HSL : Hid ((Tryz.prog.info? 25).map (·.size) = some Z.toList.length) := Lib.hid (by rw [Array.length_toList, hs]; exact infoPd)
  have HO : Hid (Z.all (·.oneCell') = true) := Lib.hid (by rw [hZ]; exact s.C.arr_one)
  have HZZ : Hid (z39.size = Z.size) := Lib.hid (by rw [hs]; rfl)
  have HR := Lib.hid (fun (W' : World) (hb : Below w.heap.size w W') => (show W'.rangeAt g 0 Z.toList from fun j v hj => (hb.cell (p := ⟨g, 0 + j, none⟩) hglt).trans (hr j v hj)))
  clear hr h hs hZ
  go_enter Tryz.func27, Tryz.ntmps27
  go_upto_region 1 with (fail)
  refine wp_let (fun W' => Blk W' w.heap.size 25 z39 ∧ Below w.heap.size w W') ⟨Blk.new _ _ _, (Below.refl _ w).alloc (Nat.le_refl _) _⟩ ?_
  rintro W1 ⟨b1, b2⟩
  have B1 := Lib.hid b1
  have B2 := Lib.hid b2
  clear b1 b2
  go_wp2_with (first
    | (go_at_call 54; refine (HN.out _ B2.out).mono ?_; rintro e w1 ⟨rfl, rfl⟩)
    | (refine wpList_load_mid rfl _ _ rfl g 0 rfl Z.toList _ (HR.out _ B2.out) Tryz.underlying25 rfl HSL.out ?_)
    | (refine wpList_store_row rfl _ _ _ rfl w.heap.size Z rfl rfl 25 z39 B1.out HSZ.out HZZ.out HO.out ?_))
  refine bodyPost_ret (v := .tuple #[.agg Z, .int .i64 0]) (results_cell_one (g := w.heap.size) (t := 25) (fr := (0, 0)) Tryz.results27 _ _ Z _ rfl (Blk.setRow B1.out) Tryz.underlying25 rfl HSZ.out _ rfl) rfl ⟨by rw [HZ.out], belowRow B2.out (Nat.le_refl _) _⟩
end Go.Proofs.YtiffminhlimajaaGreat
