/- pdcptx.New; Confirm of a COUNT that is not pending. -/
import Derived.Test.YtiffminhlimajaaGreatZI
namespace Go.Proofs.YtiffminhlimajaaGreat
open Go.RowKit
set_option linter.unusedVariables false
attribute [local go_sem ↓] Go.wp_at_zero Go.wp_at_succ

theorem Cnts.empty (w : World) : Cnts w none 0 (fun _ => 0) (fun _ => none) (fun _ => 0) (fun _ => 0) (fun _ _ => 0) :=
  ⟨fun h => absurd rfl h, fun k hk => absurd hk (by omega), fun k hk => absurd hk (by omega), fun k hk => absurd hk (by omega), fun k hk => absurd hk (by omega), fun k hk => absurd hk (by omega)⟩
theorem BRows.empty (w : World) : BRows w none 0 (fun _ => none) (fun _ => 0) (fun _ => 0) (fun _ _ => 0) :=
  ⟨fun h => absurd rfl h, fun k hk => absurd hk (by omega), fun k hk => absurd hk (by omega), fun k hk => absurd hk (by omega), fun k hk => absurd hk (by omega)⟩
theorem FOk.empty (ac : Bool) : FOk ac 0 false 0 (fun _ => 0) (fun _ => 0) 0 (fun _ => 0) :=
  ⟨fun h => absurd h (by decide), fun h => absurd h (by omega), fun k hk => absurd hk (by omega), fun h => absurd h (by omega), fun k hk => absurd hk (by omega)⟩
/-- a new transmitter -/
def newS (cf : Cfg) : TS := ⟨cf, 0, 0, [], [], [kArr cf.key], cNew⟩
theorem newS_fine {cf : Cfg} (hok : cf.Ok) (hv : cf.Valid) : (newS cf).Fine := ⟨hok, hv, fun q hq => by cases hq⟩
/-- a transmitter of blocks of its own -/
def TxNewO (w w' : World) (g : Nat) (s : TS) : Prop := ∃ W R, TxI w' g s W R ∧ (∀ k, W k → w.heap.size ≤ k) ∧ (∀ k, R k → w.heap.size ≤ k) ∧ Below w.heap.size w w'
set_option maxRecDepth 100000 in
set_option maxHeartbeats 1600000 in
theorem tNew_ok (cf : Cfg) (hv : cf.Valid) (w : World) :
    Calls Tryz.prog 21 #[.agg cf.arr] w fun e w' => ∃ g, e = .returned (.tuple #[.pointer (some ⟨g, 0, none⟩), .int .i64 0]) ∧ TxNewO w w' g (newS cf) := by
  have HR := Lib.hid (fun V : World => tresume_ok cf none none 0 0 0 0 0 false (fun _ => 0) (fun _ => none) (fun _ => 0) (fun _ => 0) (fun _ _ => 0) (fun _ => none) (fun _ => 0) (fun _ => 0) (fun _ _ => 0) V (by decide) (by omega) (by omega) (Cnts.empty V) (BRows.empty V) hv (FOk.empty cf.ac))
  have HS : Hid ((Tryz.prog.info? 25).map (·.size) = some cf.arr.size) := Lib.hid (by rw [cf.arr_size]; exact infoPd)
  obtain ⟨Z, hZ⟩ : ∃ Z, Z = cf.arr := ⟨_, rfl⟩
  rw [← hZ] at HS HR ⊢
  have HU := Lib.hid Tryz.underlying25
  clear hZ
  go_enter Tryz.func21, Tryz.ntmps21
  go_upto_region 1 with (fail)
  refine wp_let (fun W => Blk W w.heap.size 25 Z ∧ Below w.heap.size w W) ⟨Blk.new _ _ _, (Below.refl _ w).alloc (Nat.le_refl _) _⟩ ?_
  rintro W1 ⟨b1, b2⟩
  have B1 := Lib.hid b1
  have B2 := Lib.hid b2
  clear b1 b2
  go_wp2_with (first
    | (refine wpList_load_row rfl _ _ rfl w.heap.size rfl 25 Z (0, 0) _ B1.out HU.out rfl HS.out ?_)
    | (go_at_call 15; refine (HR.out _).mono ?_; rintro e w2 ⟨g, W, R, rfl, hI, hW, hR, hB⟩; have HI := Lib.hid hI; have HW := Lib.hid hW; have HRR := Lib.hid hR; have HB := Lib.hid hB; clear hI hW hR hB))
  go_ret2
  have hs := B2.out.size
  exact ⟨g, rfl, W, R, HI.out, fun k hk => Nat.le_trans hs (HW.out k hk), fun k hk => Nat.le_trans hs (HRR.out k hk), B2.out.trans (HB.out.mono hs)⟩
set_option maxRecDepth 100000 in
set_option maxHeartbeats 1600000 in
theorem tNew_no (cf : Cfg) (hv : ¬ cf.Valid) (w : World) :
    Calls Tryz.prog 21 #[.agg cf.arr] w fun e w' => e = .returned (.tuple #[.pointer none, .int .i64 2]) ∧ Below w.heap.size w w' := by
  have HR := Lib.hid (fun V : World => tresume_no cf none none 0 0 0 0 0 false (fun _ => 0) (fun _ => none) (fun _ => 0) (fun _ => 0) (fun _ _ => 0) (fun _ => none) (fun _ => 0) (fun _ => 0) (fun _ _ => 0) V (by decide) (Nat.zero_le _) (Nat.zero_le _) (Cnts.empty V) (BRows.empty V) (fun h => hv h.1))
  have HS : Hid ((Tryz.prog.info? 25).map (·.size) = some cf.arr.size) := Lib.hid (by rw [cf.arr_size]; exact infoPd)
  obtain ⟨Z, hZ⟩ : ∃ Z, Z = cf.arr := ⟨_, rfl⟩
  rw [← hZ] at HS HR ⊢
  have HU := Lib.hid Tryz.underlying25
  clear hZ
  go_enter Tryz.func21, Tryz.ntmps21
  go_upto_region 1 with (fail)
  refine wp_let (fun W => Blk W w.heap.size 25 Z ∧ Below w.heap.size w W) ⟨Blk.new _ _ _, (Below.refl _ w).alloc (Nat.le_refl _) _⟩ ?_
  rintro W1 ⟨b1, b2⟩
  have B1 := Lib.hid b1
  have B2 := Lib.hid b2
  clear b1 b2
  go_wp2_with (first
    | (refine wpList_load_row rfl _ _ rfl w.heap.size rfl 25 Z (0, 0) _ B1.out HU.out rfl HS.out ?_)
    | (go_at_call 15; refine (HR.out _).mono ?_; rintro e w2 ⟨rfl, hB⟩; have HB := Lib.hid hB; clear hB))
  go_ret2
  exact ⟨rfl, B2.out.trans (HB.out.mono B2.out.size)⟩
theorem firstP_no (p : Nat → Bool) (n : Nat) (hno : ∀ j, j < n → p j = false) : firstP p 0 n = -1 := by
  rcases firstP_cases p n with ⟨i, hi, _, hp, _⟩ | ⟨h, _⟩
  · rw [hno i hi] at hp; cases hp
  · exact h
set_option maxRecDepth 100000 in
set_option maxHeartbeats 1600000 in
theorem tconfirm_no (g : Nat) (s : TS) (W R : Nat → Prop) (w : World) (h : TxI w g s W R) (x : Int) (hno : ∀ e, e ∈ s.P → e.ct ≠ x) :
    Calls Tryz.prog 20 #[.pointer (some ⟨g, 0, none⟩), .int .u32 x] w fun e w' => e = .returned (.int .i64 10) ∧ Below w.heap.size w w' := by
  have HM := Lib.hid (fun (V : World) (hb : Below w.heap.size w V) => tmade_ok g s W R V (h.below hb))
  obtain ⟨qA, qc, lq, pA, pc, lp, ub, cb, hT⟩ := h
  have HT := Lib.hid hT
  have HF0 := Lib.hid (firstP_no (isCt lp x) lp.length (fun j hj => by
    unfold isCt
    rw [List.getElem?_eq_getElem hj]
    have := hno lp[j].v (by rw [← hT.pv]; exact List.mem_map_of_mem (List.getElem_mem hj))
    simpa using this))
  have hcm := hT.p.cmax
  unfold maxLen at hcm
  have hle := hT.p.le
  obtain ⟨n, hn⟩ : ∃ n, n = lp.length := ⟨_, rfl⟩
  have HN := Lib.hid hn
  have hgl := hT.blk.lt
  rw [← hn] at hle HF0
  clear hT hno hn
  go_enter Tryz.func20, Tryz.ntmps20
  go_upto_region 1 with (fail)
  refine wp_let (fun V => V.cell? ⟨w.heap.size, 0, none⟩ = some (.int .u32 x) ∧ Below w.heap.size w V ∧ w.heap.size < V.heap.size) ⟨(Blk.new _ _ _).cell 0, (Below.refl _ w).alloc (Nat.le_refl _) _, by simp⟩ ?_
  rintro W1 ⟨b1, b2, b3⟩
  obtain ⟨xb, hxb⟩ : ∃ xb, xb = w.heap.size := ⟨_, rfl⟩
  have B2 := Lib.hid b2
  have T1 := Lib.hid (HT.out.below b2)
  have HI := Lib.hid (pindex_ok pA lp.length pc lp rfl x xb W1 T1.out.p (by rw [hxb]; exact b1) (by omega))
  rw [← HN.out] at HI
  have c1 := T1.out.cp
  rw [← HN.out] at c1
  rw [← hxb]
  rw [HF0.out] at HI
  clear b1 b2 hxb
  go_wp2_with (first
    | (go_at_call 54; refine (HM.out _ B2.out).mono ?_; rintro e w2 ⟨rfl, rfl⟩)
    | (go_at_call 49; refine (HI.out).mono ?_; rintro e w3 ⟨rfl, hB⟩; have E2 := Lib.hid hB; clear hB))
  go_ret
  exact ⟨rfl, B2.out.trans (E2.out.mono B2.out.size)⟩
end Go.Proofs.YtiffminhlimajaaGreat
