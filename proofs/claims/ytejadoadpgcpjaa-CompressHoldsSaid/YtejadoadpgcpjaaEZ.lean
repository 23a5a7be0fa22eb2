/- header.Parse: from the version on. -/
import Derived.Test.YtejadoadpgcpjaaEX
namespace Go.Proofs.Ytejadoadpgcpjaa
open Go.RowKit Go.Shelf

attribute [local go_sem] Oper.semAt_some

theorem hdr_ne {w : World} {b off H : Nat} {h : Nat → Int} {x : Int} (hB : Blk w H 25 (hdr h)) (hc : w.cell? ⟨b, off, none⟩ = some (.int .u64 x)) : b ≠ H := by
  rintro rfl
  have h1 := hB.cell off
  rw [hc] at h1
  by_cases ho : off < 9
  · rw [hdr_at h off ho] at h1
    cases h1
  · rw [Array.getElem?_eq_none (by simp [hdr]; omega)] at h1
    cases h1
theorem fieldv_lt (z : Nat → Int) (k : Nat) (hk : k < 10) : fieldv z k < 2 ^ 32 := Nat.lt_of_lt_of_le (getv_lt z _ _) (Nat.pow_le_pow_right (by decide) (pwd_le32 k hk))

set_option maxRecDepth 100000 in
set_option maxHeartbeats 8000000 in
theorem parse_rest (A : Option Addr) (n c : Nat) (z : Nat → Int) (hn : 20 ≤ n) (hm : n ≤ 9000) (hnc : n ≤ c) (hz : ∀ j, j < n → 0 ≤ z j ∧ z j < 256) (hv : fieldv z 0 = 5) (w : World) (hr : Row w w.heap.size A n (fun j => .int .u8 (z j))) :
    Calls Try.prog 16 #[.slice A n c] w (RestEnd w n z) := by
  have hmf : ∀ (fn : Fn) (first cap : Array Value) (w : World), (Instr.makeFunc fn first cap).run Try.prog w = .ok (.func fn first cap) w := fun _ _ _ _ => rfl
  have hn20 : (20 ≤ (n : Int)) := by omega
  have hnc2 : (n : Int) ≤ (c : Int) := by omega
  have hn9 : ((n : Int) ≤ 9000) := by omega
  have HR := Lib.hid hr
  have HZ := Lib.hid hz
  clear hr hz
  go_enter_defers Try.func16, Try.ntmps16
  go_upto_region 5 with (first | (go_at_call 49; refine (must_true _ _).mono ?_; rintro e w1 ⟨rfl, rfl⟩) | (go_at_call 50; refine (newReader_ok A n c z (by omega) _ (by exact row_new (row_new (row_new HR.out _) _) _)).mono ?_; rintro e w1 ⟨g, A2, c2, rfl, hg, hRS, hA2, hb1, hs1⟩; have HRS := Lib.hid hRS; have HA2 := Lib.hid hA2; have HB1 := Lib.hid hb1; have HS1 := Lib.hid hs1; clear hRS hA2 hb1 hs1))
  go_cut [6] from 21 to 23 (fun l wx => Mid w A n z l wx)
  case first =>
    refine wp_onlyNormal ?_
    go_region_with (first | (go_at_call 52; refine (widths_new _ _ _).mono ?_; rintro e w3 ⟨L, lc, rfl, hL, hLf, hb3, c5⟩; have HL := Lib.hid hL; have HLF := Lib.hid hLf; have HB3 := Lib.hid hb3; clear hL hLf hb3) | (go_at_call 51; refine (all_ok g A2 L n c2 lc z (by omega) hn HZ.out (fresh_ne HLF.out (by rw [HS1.out]; omega)) HA2.out _ ((RS.new HRS.out _).on HB3.out) HL.out).mono ?_; rintro e w4 ⟨B, cB, rfl, hR4, hg4⟩; have HR4 := Lib.hid hR4; have HG4 := Lib.hid hg4; clear hR4 hg4))
    all_goals (dsimp only [onlyNormal]; go_wp2; go_meet; exact mid_ok rfl HB1.out (by simpa using hg) HS1.out HB3.out HR4.out HG4.out HR.out)
  case rest =>
    obtain ⟨B, cB, rfl, hR, hrA, hbH, hbP, hbE, hbel, hsz⟩ := hcut
    obtain ⟨b, off, rfl, hbb, hcl⟩ := hR (by decide)
    have hcl : ∀ j, j < 10 → wc.cell? ⟨b, off + j, none⟩ = some (.int .u64 ((fieldv z j : Nat) : Int)) := hcl
    have cl0 : wc.cell? ⟨b, off, none⟩ = some (.int .u64 5) := by have := hcl 0 (by decide); rw [hv] at this; exact this
    have HbH := Lib.hid (hdr_ne hbH (hcl 0 (by decide)))
    have HCL := Lib.hid hcl
    have HV := Lib.hid hv
    have HBH := Lib.hid hbH
    have HBP := Lib.hid hbP
    have HBE := Lib.hid hbE
    have HBL := Lib.hid hbel
    have HRA := Lib.hid hrA
    have HSZ := Lib.hid hsz
    have HBB := Lib.hid hbb
    clear hR hrA hbH hbP hbE hbel hsz hcl hv hbb
    go_wp2_with (first | (go_at_call 49; refine (must_true 9 _).mono ?_; rintro e w5 ⟨rfl, rfl⟩) | (go_at_call 53; refine (parts_ok _).mono ?_; rintro e w2 ⟨rfl, hB2, hb2⟩; have HB2 := Lib.hid hB2; have Hb2 := Lib.hid hb2; clear hB2 hb2))
    obtain ⟨f, hf⟩ : ∃ f, f = w5.heap.size + 1 := ⟨_, rfl⟩
    have hfs : w5.heap.size < f := by omega
    have HK0 := Lib.hid (hf ▸ HB2.out : Blk w2 f 3 #[.int .i64 5])
    have h5 : w.heap.size < w5.heap.size := by have := HSZ.out; omega
    have hb5 : b < w5.heap.size := HBB.out
    have HF := Lib.hid (fun k (hk : k < 10) => fieldv_lt z k hk)
    rw [← hf]
    clear hf
    go_loopw [30] (fun v wr => ∃ k : Nat, k ≤ 10 ∧ v = .int .i64 k ∧ Blk wr w.heap.size 25 (hdr (gpart z k)) ∧ (∃ x, Blk wr f 3 #[.int .i64 x]) ∧ Keep2 w.heap.size f w2 wr) (fun v _ => 10 - (intOf v).toNat)
    case atStart => exact ⟨0, by omega, rfl, (HBH.out.below Hb2.out h5).to (by simp [hdr, gpart]), ⟨_, HK0.out⟩, Keep2.refl _ _ _⟩
    case round =>
      obtain ⟨k, hk, rfl, hH, ⟨x, hX⟩, hK2⟩ := hrel
      have HH := Lib.hid hH
      have HX := Lib.hid hX
      have HK2 := Lib.hid hK2
      have hcr : ∀ j, j < 10 → wr.cell? ⟨b, off + j, none⟩ = some (.int .u64 ((fieldv z j : Nat) : Int)) := fun j hj =>
        (hK2.cell (by have := Hb2.out.size; show b < _; omega) HbH.out (by show b ≠ f; omega)).trans ((Hb2.out.cell (by show b < _; omega)).trans (HCL.out j hj))
      have HCR := Lib.hid hcr
      clear hH hX hK2 hcr
      by_cases hlt : k < 10
      · have hcase : k = 0 ∨ k = 1 ∨ k = 2 ∨ k = 3 ∨ k = 4 ∨ k = 5 ∨ k = 6 ∨ k = 7 ∨ k = 8 ∨ k = 9 := by omega
        clear hk hlt
        rcases hcase with rfl | rfl | rfl | rfl | rfl | rfl | rfl | rfl | rfl | rfl
        · have hix : ∀ W : World, (Instr.index 106 (.agg (partsArr f)) (.int .i64 0)).run Try.prog W = .ok (.agg #[.string ⟨#[118, 101, 114, 115, 105, 111, 110]⟩, .int .i64 4, .func (.func 78) #[] #[.pointer (some ⟨f, 0, none⟩)]]) W := fun _ => by kernel_rfl
          obtain ⟨F, hF⟩ : ∃ F, F = fieldv z 0 := ⟨_, rfl⟩
          have ck : wr.cell? ⟨b, off, none⟩ = some (.int .u64 ((fieldv z 0 : Nat) : Int)) := HCR.out 0 (by decide)
          have hF2 := HF.out 0 (by decide)
          rw [← hF] at ck hF2
          have hFw : IntKind.i64.wrap (F : Int) = (F : Int) := by rw [IntKind.wrap_i64]; omega
          have HFF := Lib.hid hF
          clear hF hF2
          go_wp2
          obtain ⟨WD, hWD⟩ : ∃ WD, WD = (wr.alloc (.cells #[.string ⟨#[118, 101, 114, 115, 105, 111, 110]⟩, .int .i64 4, .func (.func 78) #[] #[.pointer (some ⟨f, 0, none⟩)]] 105)).drew := ⟨_, rfl⟩
          have q0 : WD.cell? ⟨wr.heap.size, 2, none⟩ = some (.func (.func 78) #[] #[.pointer (some ⟨f, 0, none⟩)]) := by rw [hWD]; exact (Blk.new wr _ _).cell 2
          have hwb : b < wr.heap.size := by have := HK2.out.size; have := Hb2.out.size; omega
          have qc : WD.cell? ⟨b, off, none⟩ = some (.int .u64 (F : Int)) := by rw [hWD]; exact (World.cell?_alloc_lt wr _ ⟨b, off, none⟩ (by show b < _; omega)).trans ck
          have qd : ∃ y, WD.cell? ⟨f, 0, none⟩ = some (.int .i64 y) := by rw [hWD]; exact ⟨_, (HX.out.alloc _).cell 0⟩
          have qf : WD.frozen? ⟨f, 0, none⟩ = false := by rw [hWD]; exact (HX.out.alloc _).frozen 0
          obtain ⟨y, qd⟩ := qd
          have nH : ∀ u, Blk (WD.setCell ⟨f, 0, none⟩ u) w.heap.size 25 _ := fun u => by rw [hWD]; exact (HH.out.alloc _).far (by show w.heap.size ≠ f; omega) _
          refine wp_region_still_tail 9 (by kernel_rfl) (by kernel_rfl) ?_
          simp only [List.take_succ_cons, List.take_zero, List.drop_succ_cons, List.drop_zero]
          change wpStill _ _ (wr.alloc (.cells #[.string ⟨#[118, 101, 114, 115, 105, 111, 110]⟩, .int .i64 4, .func (.func 78) #[] #[.pointer (some ⟨f, 0, none⟩)]] 105)).drew (fun a' => wpList _ _ _ _ a' (wr.alloc (.cells #[.string ⟨#[118, 101, 114, 115, 105, 111, 110]⟩, .int .i64 4, .func (.func 78) #[] #[.pointer (some ⟨f, 0, none⟩)]] 105)).drew) _ _
          rw [← hWD]
          have HWD := Lib.hid hWD
          clear hWD ck
          repeat (first | still_step | (refine wpStill_step (fun K hK => ?_); go_simp; refine ⟨_, (at_0 f w.heap.size WD), hK _ ?_⟩; clear hK K))
          refine wpStill_nil ?_
          go_wp2
          go_roundw
          case rel => exact ⟨1, by decide, rfl, (nH _).to (by simp [hdr, gpart]), by rw [HWD.out]; exact ⟨_, (HX.out.alloc _).set_ 0 _⟩, by rw [HWD.out]; exact ((HK2.out.alloc _).drew.set_ ⟨f, 0, none⟩ (.inr rfl) _)⟩
          case measure => simp [intOf]
        · have hix : ∀ W : World, (Instr.index 106 (.agg (partsArr f)) (.int .i64 1)).run Try.prog W = .ok (.agg #[.string ⟨#[99, 108, 97, 115, 115]⟩, .int .i64 4, .func (.func 79) #[] #[]]) W := fun _ => by kernel_rfl
          obtain ⟨F, hF⟩ : ∃ F, F = fieldv z 1 := ⟨_, rfl⟩
          have ck : wr.cell? ⟨b, off + 1, none⟩ = some (.int .u64 ((fieldv z 1 : Nat) : Int)) := HCR.out 1 (by decide)
          have hF2 := HF.out 1 (by decide)
          rw [← hF] at ck hF2
          have hFw : IntKind.i64.wrap (F : Int) = (F : Int) := by rw [IntKind.wrap_i64]; omega
          have HFF := Lib.hid hF
          clear hF hF2
          go_wp2
          obtain ⟨WD, hWD⟩ : ∃ WD, WD = (wr.alloc (.cells #[.string ⟨#[99, 108, 97, 115, 115]⟩, .int .i64 4, .func (.func 79) #[] #[]] 105)).drew := ⟨_, rfl⟩
          have q0 : WD.cell? ⟨wr.heap.size, 2, none⟩ = some (.func (.func 79) #[] #[]) := by rw [hWD]; exact (Blk.new wr _ _).cell 2
          have hwb : b < wr.heap.size := by have := HK2.out.size; have := Hb2.out.size; omega
          have qc : WD.cell? ⟨b, off + 1, none⟩ = some (.int .u64 (F : Int)) := by rw [hWD]; exact (World.cell?_alloc_lt wr _ ⟨b, off + 1, none⟩ (by show b < _; omega)).trans ck
          have qd : ∃ y, WD.cell? ⟨w.heap.size, 0, none⟩ = some (.int .i64 y) := by rw [hWD]; exact ⟨_, (HH.out.alloc _).cell 0⟩
          have qf : WD.frozen? ⟨w.heap.size, 0, none⟩ = false := by rw [hWD]; exact (HH.out.alloc _).frozen 0
          obtain ⟨y, qd⟩ := qd
          have nH : ∀ u, Blk (WD.setCell ⟨w.heap.size, 0, none⟩ u) w.heap.size 25 _ := fun u => by rw [hWD]; exact ((HH.out.alloc _).set_ 0 u)
          refine wp_region_still_tail 9 (by kernel_rfl) (by kernel_rfl) ?_
          simp only [List.take_succ_cons, List.take_zero, List.drop_succ_cons, List.drop_zero]
          change wpStill _ _ (wr.alloc (.cells #[.string ⟨#[99, 108, 97, 115, 115]⟩, .int .i64 4, .func (.func 79) #[] #[]] 105)).drew (fun a' => wpList _ _ _ _ a' (wr.alloc (.cells #[.string ⟨#[99, 108, 97, 115, 115]⟩, .int .i64 4, .func (.func 79) #[] #[]] 105)).drew) _ _
          rw [← hWD]
          have HWD := Lib.hid hWD
          clear hWD ck
          repeat (first | still_step | (refine wpStill_step (fun K hK => ?_); go_simp; refine ⟨_, (at_1 w.heap.size WD), hK _ ?_⟩; clear hK K))
          refine wpStill_nil ?_
          go_wp2
          go_roundw
          case rel => exact ⟨2, by decide, rfl, (nH _).to (by simp [hdr, gpart, HFF.out]), by rw [HWD.out]; exact ⟨_, (HX.out.alloc _).far (by show f ≠ w.heap.size; omega) _⟩, by rw [HWD.out]; exact ((HK2.out.alloc _).drew.set_ ⟨w.heap.size, 0, none⟩ (.inl rfl) _)⟩
          case measure => simp [intOf]
        · have hix : ∀ W : World, (Instr.index 106 (.agg (partsArr f)) (.int .i64 2)).run Try.prog W = .ok (.agg #[.string ⟨#[102, 108, 111, 119]⟩, .int .i64 16, .func (.func 80) #[] #[]]) W := fun _ => by kernel_rfl
          obtain ⟨F, hF⟩ : ∃ F, F = fieldv z 2 := ⟨_, rfl⟩
          have ck : wr.cell? ⟨b, off + 2, none⟩ = some (.int .u64 ((fieldv z 2 : Nat) : Int)) := HCR.out 2 (by decide)
          have hF2 := HF.out 2 (by decide)
          rw [← hF] at ck hF2
          have hFw : IntKind.i64.wrap (F : Int) = (F : Int) := by rw [IntKind.wrap_i64]; omega
          have HFF := Lib.hid hF
          clear hF hF2
          go_wp2
          obtain ⟨WD, hWD⟩ : ∃ WD, WD = (wr.alloc (.cells #[.string ⟨#[102, 108, 111, 119]⟩, .int .i64 16, .func (.func 80) #[] #[]] 105)).drew := ⟨_, rfl⟩
          have q0 : WD.cell? ⟨wr.heap.size, 2, none⟩ = some (.func (.func 80) #[] #[]) := by rw [hWD]; exact (Blk.new wr _ _).cell 2
          have hwb : b < wr.heap.size := by have := HK2.out.size; have := Hb2.out.size; omega
          have qc : WD.cell? ⟨b, off + 2, none⟩ = some (.int .u64 (F : Int)) := by rw [hWD]; exact (World.cell?_alloc_lt wr _ ⟨b, off + 2, none⟩ (by show b < _; omega)).trans ck
          have qd : ∃ y, WD.cell? ⟨w.heap.size, 1, none⟩ = some (.int .i64 y) := by rw [hWD]; exact ⟨_, (HH.out.alloc _).cell 1⟩
          have qf : WD.frozen? ⟨w.heap.size, 1, none⟩ = false := by rw [hWD]; exact (HH.out.alloc _).frozen 1
          obtain ⟨y, qd⟩ := qd
          have nH : ∀ u, Blk (WD.setCell ⟨w.heap.size, 1, none⟩ u) w.heap.size 25 _ := fun u => by rw [hWD]; exact ((HH.out.alloc _).set_ 1 u)
          refine wp_region_still_tail 9 (by kernel_rfl) (by kernel_rfl) ?_
          simp only [List.take_succ_cons, List.take_zero, List.drop_succ_cons, List.drop_zero]
          change wpStill _ _ (wr.alloc (.cells #[.string ⟨#[102, 108, 111, 119]⟩, .int .i64 16, .func (.func 80) #[] #[]] 105)).drew (fun a' => wpList _ _ _ _ a' (wr.alloc (.cells #[.string ⟨#[102, 108, 111, 119]⟩, .int .i64 16, .func (.func 80) #[] #[]] 105)).drew) _ _
          rw [← hWD]
          have HWD := Lib.hid hWD
          clear hWD ck
          repeat (first | still_step | (refine wpStill_step (fun K hK => ?_); go_simp; refine ⟨_, (at_2 w.heap.size WD), hK _ ?_⟩; clear hK K))
          refine wpStill_nil ?_
          go_wp2
          go_roundw
          case rel => exact ⟨3, by decide, rfl, (nH _).to (by simp [hdr, gpart, HFF.out]), by rw [HWD.out]; exact ⟨_, (HX.out.alloc _).far (by show f ≠ w.heap.size; omega) _⟩, by rw [HWD.out]; exact ((HK2.out.alloc _).drew.set_ ⟨w.heap.size, 1, none⟩ (.inl rfl) _)⟩
          case measure => simp [intOf]
        · have hix : ∀ W : World, (Instr.index 106 (.agg (partsArr f)) (.int .i64 3)).run Try.prog W = .ok (.agg #[.string ⟨#[115, 111, 117, 114, 99, 101]⟩, .int .i64 32, .func (.func 81) #[] #[]]) W := fun _ => by kernel_rfl
          obtain ⟨F, hF⟩ : ∃ F, F = fieldv z 3 := ⟨_, rfl⟩
          have ck : wr.cell? ⟨b, off + 3, none⟩ = some (.int .u64 ((fieldv z 3 : Nat) : Int)) := HCR.out 3 (by decide)
          have hF2 := HF.out 3 (by decide)
          rw [← hF] at ck hF2
          have hFw : IntKind.i64.wrap (F : Int) = (F : Int) := by rw [IntKind.wrap_i64]; omega
          have HFF := Lib.hid hF
          clear hF hF2
          go_wp2
          obtain ⟨WD, hWD⟩ : ∃ WD, WD = (wr.alloc (.cells #[.string ⟨#[115, 111, 117, 114, 99, 101]⟩, .int .i64 32, .func (.func 81) #[] #[]] 105)).drew := ⟨_, rfl⟩
          have q0 : WD.cell? ⟨wr.heap.size, 2, none⟩ = some (.func (.func 81) #[] #[]) := by rw [hWD]; exact (Blk.new wr _ _).cell 2
          have hwb : b < wr.heap.size := by have := HK2.out.size; have := Hb2.out.size; omega
          have qc : WD.cell? ⟨b, off + 3, none⟩ = some (.int .u64 (F : Int)) := by rw [hWD]; exact (World.cell?_alloc_lt wr _ ⟨b, off + 3, none⟩ (by show b < _; omega)).trans ck
          have qd : ∃ y, WD.cell? ⟨w.heap.size, 2, none⟩ = some (.int .i64 y) := by rw [hWD]; exact ⟨_, (HH.out.alloc _).cell 2⟩
          have qf : WD.frozen? ⟨w.heap.size, 2, none⟩ = false := by rw [hWD]; exact (HH.out.alloc _).frozen 2
          obtain ⟨y, qd⟩ := qd
          have nH : ∀ u, Blk (WD.setCell ⟨w.heap.size, 2, none⟩ u) w.heap.size 25 _ := fun u => by rw [hWD]; exact ((HH.out.alloc _).set_ 2 u)
          refine wp_region_still_tail 9 (by kernel_rfl) (by kernel_rfl) ?_
          simp only [List.take_succ_cons, List.take_zero, List.drop_succ_cons, List.drop_zero]
          change wpStill _ _ (wr.alloc (.cells #[.string ⟨#[115, 111, 117, 114, 99, 101]⟩, .int .i64 32, .func (.func 81) #[] #[]] 105)).drew (fun a' => wpList _ _ _ _ a' (wr.alloc (.cells #[.string ⟨#[115, 111, 117, 114, 99, 101]⟩, .int .i64 32, .func (.func 81) #[] #[]] 105)).drew) _ _
          rw [← hWD]
          have HWD := Lib.hid hWD
          clear hWD ck
          repeat (first | still_step | (refine wpStill_step (fun K hK => ?_); go_simp; refine ⟨_, (at_3 w.heap.size WD), hK _ ?_⟩; clear hK K))
          refine wpStill_nil ?_
          go_wp2
          go_roundw
          case rel => exact ⟨4, by decide, rfl, (nH _).to (by simp [hdr, gpart, HFF.out]), by rw [HWD.out]; exact ⟨_, (HX.out.alloc _).far (by show f ≠ w.heap.size; omega) _⟩, by rw [HWD.out]; exact ((HK2.out.alloc _).drew.set_ ⟨w.heap.size, 2, none⟩ (.inl rfl) _)⟩
          case measure => simp [intOf]
        · have hix : ∀ W : World, (Instr.index 106 (.agg (partsArr f)) (.int .i64 4)).run Try.prog W = .ok (.agg #[.string ⟨#[100, 101, 115, 116]⟩, .int .i64 32, .func (.func 82) #[] #[]]) W := fun _ => by kernel_rfl
          obtain ⟨F, hF⟩ : ∃ F, F = fieldv z 4 := ⟨_, rfl⟩
          have ck : wr.cell? ⟨b, off + 4, none⟩ = some (.int .u64 ((fieldv z 4 : Nat) : Int)) := HCR.out 4 (by decide)
          have hF2 := HF.out 4 (by decide)
          rw [← hF] at ck hF2
          have hFw : IntKind.i64.wrap (F : Int) = (F : Int) := by rw [IntKind.wrap_i64]; omega
          have HFF := Lib.hid hF
          clear hF hF2
          go_wp2
          obtain ⟨WD, hWD⟩ : ∃ WD, WD = (wr.alloc (.cells #[.string ⟨#[100, 101, 115, 116]⟩, .int .i64 32, .func (.func 82) #[] #[]] 105)).drew := ⟨_, rfl⟩
          have q0 : WD.cell? ⟨wr.heap.size, 2, none⟩ = some (.func (.func 82) #[] #[]) := by rw [hWD]; exact (Blk.new wr _ _).cell 2
          have hwb : b < wr.heap.size := by have := HK2.out.size; have := Hb2.out.size; omega
          have qc : WD.cell? ⟨b, off + 4, none⟩ = some (.int .u64 (F : Int)) := by rw [hWD]; exact (World.cell?_alloc_lt wr _ ⟨b, off + 4, none⟩ (by show b < _; omega)).trans ck
          have qd : ∃ y, WD.cell? ⟨w.heap.size, 3, none⟩ = some (.int .i64 y) := by rw [hWD]; exact ⟨_, (HH.out.alloc _).cell 3⟩
          have qf : WD.frozen? ⟨w.heap.size, 3, none⟩ = false := by rw [hWD]; exact (HH.out.alloc _).frozen 3
          obtain ⟨y, qd⟩ := qd
          have nH : ∀ u, Blk (WD.setCell ⟨w.heap.size, 3, none⟩ u) w.heap.size 25 _ := fun u => by rw [hWD]; exact ((HH.out.alloc _).set_ 3 u)
          refine wp_region_still_tail 9 (by kernel_rfl) (by kernel_rfl) ?_
          simp only [List.take_succ_cons, List.take_zero, List.drop_succ_cons, List.drop_zero]
          change wpStill _ _ (wr.alloc (.cells #[.string ⟨#[100, 101, 115, 116]⟩, .int .i64 32, .func (.func 82) #[] #[]] 105)).drew (fun a' => wpList _ _ _ _ a' (wr.alloc (.cells #[.string ⟨#[100, 101, 115, 116]⟩, .int .i64 32, .func (.func 82) #[] #[]] 105)).drew) _ _
          rw [← hWD]
          have HWD := Lib.hid hWD
          clear hWD ck
          repeat (first | still_step | (refine wpStill_step (fun K hK => ?_); go_simp; refine ⟨_, (at_4 w.heap.size WD), hK _ ?_⟩; clear hK K))
          refine wpStill_nil ?_
          go_wp2
          go_roundw
          case rel => exact ⟨5, by decide, rfl, (nH _).to (by simp [hdr, gpart, HFF.out]), by rw [HWD.out]; exact ⟨_, (HX.out.alloc _).far (by show f ≠ w.heap.size; omega) _⟩, by rw [HWD.out]; exact ((HK2.out.alloc _).drew.set_ ⟨w.heap.size, 3, none⟩ (.inl rfl) _)⟩
          case measure => simp [intOf]
        · have hix : ∀ W : World, (Instr.index 106 (.agg (partsArr f)) (.int .i64 5)).run Try.prog W = .ok (.agg #[.string ⟨#[112, 114, 111, 116, 111]⟩, .int .i64 8, .func (.func 83) #[] #[]]) W := fun _ => by kernel_rfl
          obtain ⟨F, hF⟩ : ∃ F, F = fieldv z 5 := ⟨_, rfl⟩
          have ck : wr.cell? ⟨b, off + 5, none⟩ = some (.int .u64 ((fieldv z 5 : Nat) : Int)) := HCR.out 5 (by decide)
          have hF2 := HF.out 5 (by decide)
          rw [← hF] at ck hF2
          have hFw : IntKind.i64.wrap (F : Int) = (F : Int) := by rw [IntKind.wrap_i64]; omega
          have HFF := Lib.hid hF
          clear hF hF2
          go_wp2
          obtain ⟨WD, hWD⟩ : ∃ WD, WD = (wr.alloc (.cells #[.string ⟨#[112, 114, 111, 116, 111]⟩, .int .i64 8, .func (.func 83) #[] #[]] 105)).drew := ⟨_, rfl⟩
          have q0 : WD.cell? ⟨wr.heap.size, 2, none⟩ = some (.func (.func 83) #[] #[]) := by rw [hWD]; exact (Blk.new wr _ _).cell 2
          have hwb : b < wr.heap.size := by have := HK2.out.size; have := Hb2.out.size; omega
          have qc : WD.cell? ⟨b, off + 5, none⟩ = some (.int .u64 (F : Int)) := by rw [hWD]; exact (World.cell?_alloc_lt wr _ ⟨b, off + 5, none⟩ (by show b < _; omega)).trans ck
          have qd : ∃ y, WD.cell? ⟨w.heap.size, 4, none⟩ = some (.int .i64 y) := by rw [hWD]; exact ⟨_, (HH.out.alloc _).cell 4⟩
          have qf : WD.frozen? ⟨w.heap.size, 4, none⟩ = false := by rw [hWD]; exact (HH.out.alloc _).frozen 4
          obtain ⟨y, qd⟩ := qd
          have nH : ∀ u, Blk (WD.setCell ⟨w.heap.size, 4, none⟩ u) w.heap.size 25 _ := fun u => by rw [hWD]; exact ((HH.out.alloc _).set_ 4 u)
          refine wp_region_still_tail 9 (by kernel_rfl) (by kernel_rfl) ?_
          simp only [List.take_succ_cons, List.take_zero, List.drop_succ_cons, List.drop_zero]
          change wpStill _ _ (wr.alloc (.cells #[.string ⟨#[112, 114, 111, 116, 111]⟩, .int .i64 8, .func (.func 83) #[] #[]] 105)).drew (fun a' => wpList _ _ _ _ a' (wr.alloc (.cells #[.string ⟨#[112, 114, 111, 116, 111]⟩, .int .i64 8, .func (.func 83) #[] #[]] 105)).drew) _ _
          rw [← hWD]
          have HWD := Lib.hid hWD
          clear hWD ck
          repeat (first | still_step | (refine wpStill_step (fun K hK => ?_); go_simp; refine ⟨_, (at_5 w.heap.size WD), hK _ ?_⟩; clear hK K))
          refine wpStill_nil ?_
          go_wp2
          go_roundw
          case rel => exact ⟨6, by decide, rfl, (nH _).to (by simp [hdr, gpart, HFF.out]), by rw [HWD.out]; exact ⟨_, (HX.out.alloc _).far (by show f ≠ w.heap.size; omega) _⟩, by rw [HWD.out]; exact ((HK2.out.alloc _).drew.set_ ⟨w.heap.size, 4, none⟩ (.inl rfl) _)⟩
          case measure => simp [intOf]
        · have hix : ∀ W : World, (Instr.index 106 (.agg (partsArr f)) (.int .i64 6)).run Try.prog W = .ok (.agg #[.string ⟨#[104, 111, 112, 115]⟩, .int .i64 8, .func (.func 84) #[] #[]]) W := fun _ => by kernel_rfl
          obtain ⟨F, hF⟩ : ∃ F, F = fieldv z 6 := ⟨_, rfl⟩
          have ck : wr.cell? ⟨b, off + 6, none⟩ = some (.int .u64 ((fieldv z 6 : Nat) : Int)) := HCR.out 6 (by decide)
          have hF2 := HF.out 6 (by decide)
          rw [← hF] at ck hF2
          have hFw : IntKind.i64.wrap (F : Int) = (F : Int) := by rw [IntKind.wrap_i64]; omega
          have HFF := Lib.hid hF
          clear hF hF2
          go_wp2
          obtain ⟨WD, hWD⟩ : ∃ WD, WD = (wr.alloc (.cells #[.string ⟨#[104, 111, 112, 115]⟩, .int .i64 8, .func (.func 84) #[] #[]] 105)).drew := ⟨_, rfl⟩
          have q0 : WD.cell? ⟨wr.heap.size, 2, none⟩ = some (.func (.func 84) #[] #[]) := by rw [hWD]; exact (Blk.new wr _ _).cell 2
          have hwb : b < wr.heap.size := by have := HK2.out.size; have := Hb2.out.size; omega
          have qc : WD.cell? ⟨b, off + 6, none⟩ = some (.int .u64 (F : Int)) := by rw [hWD]; exact (World.cell?_alloc_lt wr _ ⟨b, off + 6, none⟩ (by show b < _; omega)).trans ck
          have qd : ∃ y, WD.cell? ⟨w.heap.size, 5, none⟩ = some (.int .i64 y) := by rw [hWD]; exact ⟨_, (HH.out.alloc _).cell 5⟩
          have qf : WD.frozen? ⟨w.heap.size, 5, none⟩ = false := by rw [hWD]; exact (HH.out.alloc _).frozen 5
          obtain ⟨y, qd⟩ := qd
          have nH : ∀ u, Blk (WD.setCell ⟨w.heap.size, 5, none⟩ u) w.heap.size 25 _ := fun u => by rw [hWD]; exact ((HH.out.alloc _).set_ 5 u)
          refine wp_region_still_tail 9 (by kernel_rfl) (by kernel_rfl) ?_
          simp only [List.take_succ_cons, List.take_zero, List.drop_succ_cons, List.drop_zero]
          change wpStill _ _ (wr.alloc (.cells #[.string ⟨#[104, 111, 112, 115]⟩, .int .i64 8, .func (.func 84) #[] #[]] 105)).drew (fun a' => wpList _ _ _ _ a' (wr.alloc (.cells #[.string ⟨#[104, 111, 112, 115]⟩, .int .i64 8, .func (.func 84) #[] #[]] 105)).drew) _ _
          rw [← hWD]
          have HWD := Lib.hid hWD
          clear hWD ck
          repeat (first | still_step | (refine wpStill_step (fun K hK => ?_); go_simp; refine ⟨_, (at_6 w.heap.size WD), hK _ ?_⟩; clear hK K))
          refine wpStill_nil ?_
          go_wp2
          go_roundw
          case rel => exact ⟨7, by decide, rfl, (nH _).to (by simp [hdr, gpart, HFF.out]), by rw [HWD.out]; exact ⟨_, (HX.out.alloc _).far (by show f ≠ w.heap.size; omega) _⟩, by rw [HWD.out]; exact ((HK2.out.alloc _).drew.set_ ⟨w.heap.size, 5, none⟩ (.inl rfl) _)⟩
          case measure => simp [intOf]
        · have hix : ∀ W : World, (Instr.index 106 (.agg (partsArr f)) (.int .i64 7)).run Try.prog W = .ok (.agg #[.string ⟨#[105, 100, 101, 110, 116]⟩, .int .i64 16, .func (.func 85) #[] #[]]) W := fun _ => by kernel_rfl
          obtain ⟨F, hF⟩ : ∃ F, F = fieldv z 7 := ⟨_, rfl⟩
          have ck : wr.cell? ⟨b, off + 7, none⟩ = some (.int .u64 ((fieldv z 7 : Nat) : Int)) := HCR.out 7 (by decide)
          have hF2 := HF.out 7 (by decide)
          rw [← hF] at ck hF2
          have hFw : IntKind.i64.wrap (F : Int) = (F : Int) := by rw [IntKind.wrap_i64]; omega
          have HFF := Lib.hid hF
          clear hF hF2
          go_wp2
          obtain ⟨WD, hWD⟩ : ∃ WD, WD = (wr.alloc (.cells #[.string ⟨#[105, 100, 101, 110, 116]⟩, .int .i64 16, .func (.func 85) #[] #[]] 105)).drew := ⟨_, rfl⟩
          have q0 : WD.cell? ⟨wr.heap.size, 2, none⟩ = some (.func (.func 85) #[] #[]) := by rw [hWD]; exact (Blk.new wr _ _).cell 2
          have hwb : b < wr.heap.size := by have := HK2.out.size; have := Hb2.out.size; omega
          have qc : WD.cell? ⟨b, off + 7, none⟩ = some (.int .u64 (F : Int)) := by rw [hWD]; exact (World.cell?_alloc_lt wr _ ⟨b, off + 7, none⟩ (by show b < _; omega)).trans ck
          have qd : ∃ y, WD.cell? ⟨w.heap.size, 6, none⟩ = some (.int .i64 y) := by rw [hWD]; exact ⟨_, (HH.out.alloc _).cell 6⟩
          have qf : WD.frozen? ⟨w.heap.size, 6, none⟩ = false := by rw [hWD]; exact (HH.out.alloc _).frozen 6
          obtain ⟨y, qd⟩ := qd
          have nH : ∀ u, Blk (WD.setCell ⟨w.heap.size, 6, none⟩ u) w.heap.size 25 _ := fun u => by rw [hWD]; exact ((HH.out.alloc _).set_ 6 u)
          refine wp_region_still_tail 9 (by kernel_rfl) (by kernel_rfl) ?_
          simp only [List.take_succ_cons, List.take_zero, List.drop_succ_cons, List.drop_zero]
          change wpStill _ _ (wr.alloc (.cells #[.string ⟨#[105, 100, 101, 110, 116]⟩, .int .i64 16, .func (.func 85) #[] #[]] 105)).drew (fun a' => wpList _ _ _ _ a' (wr.alloc (.cells #[.string ⟨#[105, 100, 101, 110, 116]⟩, .int .i64 16, .func (.func 85) #[] #[]] 105)).drew) _ _
          rw [← hWD]
          have HWD := Lib.hid hWD
          clear hWD ck
          repeat (first | still_step | (refine wpStill_step (fun K hK => ?_); go_simp; refine ⟨_, (at_7 w.heap.size WD), hK _ ?_⟩; clear hK K))
          refine wpStill_nil ?_
          go_wp2
          go_roundw
          case rel => exact ⟨8, by decide, rfl, (nH _).to (by simp [hdr, gpart, HFF.out]), by rw [HWD.out]; exact ⟨_, (HX.out.alloc _).far (by show f ≠ w.heap.size; omega) _⟩, by rw [HWD.out]; exact ((HK2.out.alloc _).drew.set_ ⟨w.heap.size, 6, none⟩ (.inl rfl) _)⟩
          case measure => simp [intOf]
        · have hix : ∀ W : World, (Instr.index 106 (.agg (partsArr f)) (.int .i64 8)).run Try.prog W = .ok (.agg #[.string ⟨#[116, 105, 109, 101]⟩, .int .i64 24, .func (.func 86) #[] #[]]) W := fun _ => by kernel_rfl
          obtain ⟨F, hF⟩ : ∃ F, F = fieldv z 8 := ⟨_, rfl⟩
          have ck : wr.cell? ⟨b, off + 8, none⟩ = some (.int .u64 ((fieldv z 8 : Nat) : Int)) := HCR.out 8 (by decide)
          have hF2 := HF.out 8 (by decide)
          rw [← hF] at ck hF2
          have hFw : IntKind.i64.wrap (F : Int) = (F : Int) := by rw [IntKind.wrap_i64]; omega
          have HFF := Lib.hid hF
          clear hF hF2
          go_wp2
          obtain ⟨WD, hWD⟩ : ∃ WD, WD = (wr.alloc (.cells #[.string ⟨#[116, 105, 109, 101]⟩, .int .i64 24, .func (.func 86) #[] #[]] 105)).drew := ⟨_, rfl⟩
          have q0 : WD.cell? ⟨wr.heap.size, 2, none⟩ = some (.func (.func 86) #[] #[]) := by rw [hWD]; exact (Blk.new wr _ _).cell 2
          have hwb : b < wr.heap.size := by have := HK2.out.size; have := Hb2.out.size; omega
          have qc : WD.cell? ⟨b, off + 8, none⟩ = some (.int .u64 (F : Int)) := by rw [hWD]; exact (World.cell?_alloc_lt wr _ ⟨b, off + 8, none⟩ (by show b < _; omega)).trans ck
          have qd : ∃ y, WD.cell? ⟨w.heap.size, 7, none⟩ = some (.int .i64 y) := by rw [hWD]; exact ⟨_, (HH.out.alloc _).cell 7⟩
          have qf : WD.frozen? ⟨w.heap.size, 7, none⟩ = false := by rw [hWD]; exact (HH.out.alloc _).frozen 7
          obtain ⟨y, qd⟩ := qd
          have nH : ∀ u, Blk (WD.setCell ⟨w.heap.size, 7, none⟩ u) w.heap.size 25 _ := fun u => by rw [hWD]; exact ((HH.out.alloc _).set_ 7 u)
          refine wp_region_still_tail 9 (by kernel_rfl) (by kernel_rfl) ?_
          simp only [List.take_succ_cons, List.take_zero, List.drop_succ_cons, List.drop_zero]
          change wpStill _ _ (wr.alloc (.cells #[.string ⟨#[116, 105, 109, 101]⟩, .int .i64 24, .func (.func 86) #[] #[]] 105)).drew (fun a' => wpList _ _ _ _ a' (wr.alloc (.cells #[.string ⟨#[116, 105, 109, 101]⟩, .int .i64 24, .func (.func 86) #[] #[]] 105)).drew) _ _
          rw [← hWD]
          have HWD := Lib.hid hWD
          clear hWD ck
          repeat (first | still_step | (refine wpStill_step (fun K hK => ?_); go_simp; refine ⟨_, (at_8 w.heap.size WD), hK _ ?_⟩; clear hK K))
          refine wpStill_nil ?_
          go_wp2
          go_roundw
          case rel => exact ⟨9, by decide, rfl, (nH _).to (by simp [hdr, gpart, HFF.out]), by rw [HWD.out]; exact ⟨_, (HX.out.alloc _).far (by show f ≠ w.heap.size; omega) _⟩, by rw [HWD.out]; exact ((HK2.out.alloc _).drew.set_ ⟨w.heap.size, 7, none⟩ (.inl rfl) _)⟩
          case measure => simp [intOf]
        · have hix : ∀ W : World, (Instr.index 106 (.agg (partsArr f)) (.int .i64 9)).run Try.prog W = .ok (.agg #[.string ⟨#[108, 101, 110, 103, 116, 104]⟩, .int .i64 16, .func (.func 87) #[] #[]]) W := fun _ => by kernel_rfl
          obtain ⟨F, hF⟩ : ∃ F, F = fieldv z 9 := ⟨_, rfl⟩
          have ck : wr.cell? ⟨b, off + 9, none⟩ = some (.int .u64 ((fieldv z 9 : Nat) : Int)) := HCR.out 9 (by decide)
          have hF2 := HF.out 9 (by decide)
          rw [← hF] at ck hF2
          have hFw : IntKind.i64.wrap (F : Int) = (F : Int) := by rw [IntKind.wrap_i64]; omega
          have HFF := Lib.hid hF
          clear hF hF2
          go_wp2
          obtain ⟨WD, hWD⟩ : ∃ WD, WD = (wr.alloc (.cells #[.string ⟨#[108, 101, 110, 103, 116, 104]⟩, .int .i64 16, .func (.func 87) #[] #[]] 105)).drew := ⟨_, rfl⟩
          have q0 : WD.cell? ⟨wr.heap.size, 2, none⟩ = some (.func (.func 87) #[] #[]) := by rw [hWD]; exact (Blk.new wr _ _).cell 2
          have hwb : b < wr.heap.size := by have := HK2.out.size; have := Hb2.out.size; omega
          have qc : WD.cell? ⟨b, off + 9, none⟩ = some (.int .u64 (F : Int)) := by rw [hWD]; exact (World.cell?_alloc_lt wr _ ⟨b, off + 9, none⟩ (by show b < _; omega)).trans ck
          have qd : ∃ y, WD.cell? ⟨w.heap.size, 8, none⟩ = some (.int .i64 y) := by rw [hWD]; exact ⟨_, (HH.out.alloc _).cell 8⟩
          have qf : WD.frozen? ⟨w.heap.size, 8, none⟩ = false := by rw [hWD]; exact (HH.out.alloc _).frozen 8
          obtain ⟨y, qd⟩ := qd
          have nH : ∀ u, Blk (WD.setCell ⟨w.heap.size, 8, none⟩ u) w.heap.size 25 _ := fun u => by rw [hWD]; exact ((HH.out.alloc _).set_ 8 u)
          refine wp_region_still_tail 9 (by kernel_rfl) (by kernel_rfl) ?_
          simp only [List.take_succ_cons, List.take_zero, List.drop_succ_cons, List.drop_zero]
          change wpStill _ _ (wr.alloc (.cells #[.string ⟨#[108, 101, 110, 103, 116, 104]⟩, .int .i64 16, .func (.func 87) #[] #[]] 105)).drew (fun a' => wpList _ _ _ _ a' (wr.alloc (.cells #[.string ⟨#[108, 101, 110, 103, 116, 104]⟩, .int .i64 16, .func (.func 87) #[] #[]] 105)).drew) _ _
          rw [← hWD]
          have HWD := Lib.hid hWD
          clear hWD ck
          repeat (first | still_step | (refine wpStill_step (fun K hK => ?_); go_simp; refine ⟨_, (at_9 w.heap.size WD), hK _ ?_⟩; clear hK K))
          refine wpStill_nil ?_
          go_wp2
          go_roundw
          case rel => exact ⟨10, by decide, rfl, (nH _).to (by simp [hdr, gpart, HFF.out]), by rw [HWD.out]; exact ⟨_, (HX.out.alloc _).far (by show f ≠ w.heap.size; omega) _⟩, by rw [HWD.out]; exact ((HK2.out.alloc _).drew.set_ ⟨w.heap.size, 8, none⟩ (.inl rfl) _)⟩
          case measure => simp [intOf]
      · obtain rfl : k = 10 := by omega
        have ch : wr.cell? ⟨w.heap.size, 8, none⟩ = some (.int .i64 ((fieldv z 9 : Nat) : Int)) := HH.out.cell 8
        have HBW := Lib.hid (HK2.out.below ((HBL.out.trans (Hb2.out.mono (by omega)))) (Nat.le_refl _) (by omega) (by have := Hb2.out.size; omega))
        have hs2 := Hb2.out.size
        have hsz := HSZ.out
        have BP := Lib.hid (HK2.out.blk (HBP.out.below Hb2.out (by omega)) (by omega) (by omega))
        have BE := Lib.hid (HK2.out.blk (HBE.out.below Hb2.out (by omega)) (by omega) (by omega))
        obtain ⟨F, hF⟩ : ∃ F, F = fieldv z 9 := ⟨_, rfl⟩
        rw [← hF] at ch
        by_cases h9 : F = n
        · have h91 : ((F : Int) = (n : Int)) := by omega
          have h92 : ((F : Int) == (n : Int)) = true := by simp; omega
          have HFF := Lib.hid hF
          clear hF
          have HRW := Lib.hid (HRA.out.keep (w' := wr) fun p hp => (HK2.out.cell (by omega) (by omega) (by omega)).trans (Hb2.out.cell (by omega)))
          go_upto_region 13 with (go_at_call 49; refine (must_true 9 _).mono ?_; rintro e w7 ⟨rfl, rfl⟩)
          clear h91 h92 ch
          have N9 := Lib.hid h9
          clear h9
          obtain ⟨lb, lo, rfl, _, hx⟩ := HRW.out (by omega)
          clear hx
          obtain ⟨lo2, hsl, hlo2⟩ := slice20 lb lo n c hn hnc
          have HLO := Lib.hid hlo2
          have ST : Hid (St w (some ⟨lb, lo, none⟩) n z w7) := Lib.hid ⟨HH.out, ⟨_, BP.out⟩, BE.out, HRW.out, HBW.out⟩
          clear hlo2
          have STD : Hid (St w (some ⟨lb, lo, none⟩) n z w7.drew) := Lib.hid ⟨HH.out, ⟨_, BP.out⟩, BE.out, HRW.out, ⟨HBW.out.os, HBW.out.tape, HBW.out.output, HBW.out.size, HBW.out.block⟩⟩
          obtain ⟨-, -, -, -, -, -, -, -, -, -, -, -, -, -, -, -, -, -, -, -, -, -, d0, d1, d2, d3, d4, d5, d6, d7, d8, dd⟩ := STD.out.rules
          obtain ⟨⟨v0, yp⟩, y0, y1, y2, y3, y4, y5, y6, y7, y8, f0, f1, f2, f3, f4, f5, f6, f7, f8, fp, ye, fe, -⟩ := ST.out.rules
          refine wp_onlyNormal ?_
          go_region_with (go_at_call 54; refine (clone_pay w _ lb lo lo2 n z (by omega) STD.out HLO.out).mono ?_; rintro e w8 ⟨P, cP, rfl, hcP, hPay, hb8⟩; have HCP := Lib.hid hcP; have HPAY := Lib.hid (hPay.setP (.slice P (n - 20 : Nat) cP)); have ST8 := Lib.hid (STD.out.clone hb8); have ST9 := Lib.hid (ST8.out.setP (.slice P (n - 20 : Nat) cP)); have B9 := Lib.hid (ST8.out.paid (.slice P (n - 20 : Nat) cP)); clear hcP hPay hb8; obtain ⟨⟨v8, yp'⟩, y0', y1', y2', y3', y4', y5', y6', y7', y8', f0', f1', f2', f3', f4', f5', f6', f7', f8', fp', ye', fe', e0', e1', e2', e3', e4', e5', e6', e7', e8', ee'⟩ := ST8.out.rules; obtain ⟨-, -, -, -, -, -, -, -, -, -, -, -, -, -, -, -, -, -, -, -, -, -, e0'', e1'', e2'', e3'', e4'', e5'', e6'', e7'', e8'', ee''⟩ := ST9.out.rules)
          all_goals (dsimp only [onlyNormal]; go_wp2; exact good_leaves _ _ (gpart z 10) P (n - 20) cP w.heap.size _ ST9.out.hdr B9.out ST9.out.err ⟨fun _ => ⟨P, cP, rfl, HCP.out, ownsRow_mono HPAY.out (by omega), ST9.out.below⟩, fun hne => absurd (HFF.out.symm.trans N9.out) hne⟩ rfl rfl rfl)
        · have h91 : ¬ ((F : Int) = (n : Int)) := by omega
          have h92 : ((F : Int) == (n : Int)) = false := by simp; omega
          have h93 : decide ((F : Int) = (n : Int)) = false := by simp; omega
          have HFF := Lib.hid hF
          clear hF
          go_wp2_with (go_at_call 49; refine (must_false 9 _).mono ?_; rintro e w7 ⟨rfl, rfl⟩)
          exact bad_leaves_to _ w _ (gpart z 10) (.slice none 0 0) 0 9 w.heap.size _ rfl HH.out BP.out BE.out HBW.out (fun _ _ hb => ⟨fun e9 => absurd (HFF.out.trans e9) (by omega), fun _ => hb⟩) rfl rfl rfl
end Go.Proofs.Ytejadoadpgcpjaa
