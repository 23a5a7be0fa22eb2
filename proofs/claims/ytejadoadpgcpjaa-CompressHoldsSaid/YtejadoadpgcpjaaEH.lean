/- header.Encode. -/
import Derived.Test.YtejadoadpgcpjaaEG
import Derived.StillTailTactics
namespace Go.Proofs.Ytejadoadpgcpjaa
open Go.RowKit

/-- where field k begins -/
def offs : Nat → Nat
  | 0 => 0
  | k + 1 => offs k + pwd k
/-- the bits of the first n fields -/
def hbitk (h : Nat → Int) : Nat → Nat → Bool
  | 0, _ => false
  | n + 1, j => if offs n ≤ j ∧ j < offs (n + 1) then vbit (hval h n).toNat (pwd n) (j - offs n) else hbitk h n j
def hdrBits (h : Nat → Int) : Nat → Bool := hbitk h 10
theorem offs_mono (a : Nat) : ∀ d, offs a ≤ offs (a + d)
  | 0 => Nat.le_refl _
  | d + 1 => Nat.le_trans (offs_mono a d) (by show offs (a + d) ≤ offs (a + d) + pwd (a + d); omega)
theorem hbitk_at (h : Nat → Int) (k i : Nat) (hi : i < pwd k) : ∀ d, hbitk h (k + 1 + d) (offs k + i) = vbit (hval h k).toNat (pwd k) i
  | 0 => by
    show (if offs k ≤ offs k + i ∧ offs k + i < offs (k + 1) then _ else _) = _
    rw [if_pos ⟨by omega, by show _ < offs k + pwd k; omega⟩, Nat.add_sub_cancel_left]
  | d + 1 => by
    show (if offs (k + 1 + d) ≤ offs k + i ∧ offs k + i < offs (k + 1 + d + 1) then _ else hbitk h (k + 1 + d) (offs k + i)) = _
    have := offs_mono (k + 1) d
    have h2 : offs (k + 1) = offs k + pwd k := rfl
    rw [if_neg (by omega), hbitk_at h k i hi d]
theorem hdrBits_at (h : Nat → Int) (k i : Nat) (hk : k < 10) (hi : i < pwd k) : hdrBits h (offs k + i) = vbit (hval h k).toNat (pwd k) i := by
  have := hbitk_at h k i hi (9 - k)
  rwa [show k + 1 + (9 - k) = 10 by omega] at this
theorem anyWrong_false (h : Nat → Int) (hw : anyWrong h = false) : ∀ k, k < 10 → 0 ≤ hval h k ∧ hval h k < 2 ^ pwd k := by
  have key : ∀ d k, firstWrong h k d = -1 → ∀ j, k ≤ j → j < k + d → wrongB (hval h j) (pwd j) = false := by
    intro d
    induction d with
    | zero => intro k _ j h1 h2; omega
    | succ d ih =>
      intro k he j h1 h2
      unfold firstWrong at he
      split at he
      · omega
      · rename_i hn
        by_cases hj : j = k
        · subst hj; simpa using hn
        · exact ih (k + 1) he j (by omega) (by omega)
  intro k hk
  have h1 : firstWrong h 0 10 = -1 := by
    rcases firstWrong_ge h 10 0 with h2 | h2
    · exact h2
    · unfold anyWrong at hw; simp at hw; omega
  have h2 := key 10 0 h1 k (by omega) (by omega)
  unfold wrongB at h2
  simp at h2
  refine ⟨by omega, ?_⟩
  have h3 : hval h k / 2 ^ pwd k = 0 := Int.le_antisymm h2.2 (Int.ediv_nonneg h2.1 (Int.le_of_lt (Int.pow_pos (by decide))))
  have hp : (0 : Int) < 2 ^ pwd k := Int.pow_pos (by decide)
  have h4 := Int.emod_add_mul_ediv (hval h k) (2 ^ pwd k)
  rw [h3, Int.mul_zero, Int.add_zero] at h4
  have h5 := Int.emod_lt_of_pos (hval h k) hp
  omega

def EncEnd (h : Nat → Int) (w : World) (e : Ending) (w' : World) : Prop :=
  ∃ A c, e = .returned (.tuple #[.slice A 20 c, .int .i64 0]) ∧ 20 ≤ c ∧ w'.ownsRow w.heap.size 5 1 (.slice A 20 c) 20 ((List.range 20).map (fun j => .int .u8 ((HM.pk (hdrBits h) 160 j : Nat) : Int))) ∧ Below w.heap.size w w'

theorem encode_bad (h : Nat → Int) (hv : validB h = false) (w : World) :
    Calls Try.prog 21 #[.agg (hdr h)] w fun e w' => e = .returned (.tuple #[.slice none 0 0, .int .i64 2]) ∧ Below w.heap.size w w' := by
  have HV := Lib.hid (fun W => valid_ok h W)
  rw [hv] at HV
  unfold hdr at HV ⊢
  clear hv
  go_enter Try.func21, Try.ntmps21
  go_wp2_with (go_at_call 22; refine (HV.out _).mono ?_; rintro e w1 ⟨rfl, hb1⟩)
  go_ret2
  exact ⟨rfl, ((Below.refl _ w).alloc (Nat.le_refl _) _).trans (hb1.mono (by simp))⟩

set_option maxRecDepth 100000 in
set_option maxHeartbeats 8000000 in
theorem encode_good (h : Nat → Int) (hv : validB h = true) (w : World) :
    Calls Try.prog 21 #[.agg (hdr h)] w (EncEnd h w) := by
  have haw : anyWrong h = false := by
    unfold validB at hv
    simp at hv
    exact hv.1.1
  have HF := Lib.hid (anyWrong_false h haw)
  have HV := Lib.hid (fun W => valid_ok h W)
  have HH0 := Lib.hid (Blk.new w 25 (hdr h))
  rw [hv] at HV
  unfold hdr at HV ⊢
  clear hv haw
  go_enter Try.func21, Try.ntmps21
  go_wp2_with (first
    | (go_at_call 22; refine (HV.out _).mono ?_; rintro e w1 ⟨rfl, hb1⟩)
    | (go_at_call 53; refine (parts_ok _).mono ?_; rintro e w2 ⟨rfl, hB2, hb2⟩))
  simp only [World.size_alloc] at hB2 hb2 hb1
  have s1 := hb1.size
  have s2 := hb2.size
  simp only [World.size_alloc] at s1 s2
  have hH1 : Blk w1 w.heap.size 25 (hdr h) := HH0.out.below hb1 (by simp)
  have hH2 : Blk w2 w.heap.size 25 (hdr h) := (hH1.alloc _).below hb2 (by omega)
  have S2 : WS w2 w1.heap.size (hdrBits h) 0 := by
    have : WS (w1.alloc (.cells #[.slice none 0 0, .int .i64 0] 114)) w1.heap.size (hdrBits h) 0 :=
      ⟨_, Blk.new w1 _ _, World.ownsRow_nil _ _ _ _⟩
    exact this.below (by rw [World.size_alloc]; exact hb2)
  have hbw2 : Below w.heap.size w w2 := (((Below.refl _ w).alloc (Nat.le_refl _) _).trans (hb1.mono (by omega))).alloc (by omega) _ |>.trans (hb2.mono (by omega))
  obtain ⟨g, hg⟩ : ∃ g, g = w1.heap.size := ⟨_, rfl⟩
  rw [← hg] at hB2 S2 ⊢
  have hgw : w.heap.size < g := by omega
  have hgs : g + 2 < w2.heap.size := by have := hB2.lt; omega
  obtain ⟨hb, hhb⟩ : ∃ hb, hb = w.heap.size := ⟨_, rfl⟩
  rw [← hhb] at hH2 ⊢
  have HHB := Lib.hid hhb
  have hhg : hb < g := by omega
  have HB2 := Lib.hid hB2
  have HS2 := Lib.hid S2
  have HH2 := Lib.hid hH2
  have HBW2 := Lib.hid hbw2
  clear hhb hg hb1 hb2 s1 s2 hH1 hB2 S2 hH2 hbw2
  go_loopw [11] (fun v wr => ∃ k : Nat, k ≤ 10 ∧ v = .int .i64 k ∧ WS wr g (hdrBits h) (offs k) ∧ (k = 0 → wr = w2) ∧ Below g w2 wr) (fun v _ => 10 - (intOf v).toNat)
  case atStart => exact ⟨0, by omega, rfl, HS2.out, fun _ => rfl, Below.refl _ _⟩
  case round =>
    obtain ⟨k, hk, rfl, hS, hk0, hbk⟩ := hrel
    have HS := Lib.hid hS
    have HK0 := Lib.hid hk0
    clear hS hk0
    have hgl := HS.out.lt
    have hHr := HH2.out.below hbk hhg
    by_cases hlt : k < 10
    · have hcase : k = 0 ∨ k = 1 ∨ k = 2 ∨ k = 3 ∨ k = 4 ∨ k = 5 ∨ k = 6 ∨ k = 7 ∨ k = 8 ∨ k = 9 := by omega
      clear hk hlt
      rcases hcase with rfl | rfl | rfl | rfl | rfl | rfl | rfl | rfl | rfl | rfl
      · have hix : ∀ W : World, (Instr.index 106 (.agg (partsArr (g + 1 + 1))) (.int .i64 0)).run Try.prog W = .ok (.agg #[.string ⟨#[118, 101, 114, 115, 105, 111, 110]⟩, .int .i64 4, .func (.func 78) #[] #[.pointer (some ⟨g + 1 + 1, 0, none⟩)]]) W := fun _ => by kernel_rfl
        obtain ⟨f0, f1⟩ := HF.out 0 (by decide)
        obtain ⟨x, hx⟩ : ∃ x : Nat, hval h 0 = (x : Int) := ⟨(hval h 0).toNat, by omega⟩
        rw [hx] at f1
        have hx2 : x < 2 ^ 4 := by have f2 : (x : Int) < 2 ^ 4 := f1; omega
        have hcell : wr.cell? ⟨g + 1 + 1, 0, none⟩ = some (.int .i64 (x : Int)) := by
          rw [HK0.out rfl]; have : (5 : Int) = (x : Int) := hx; rw [← this]; exact HB2.out.cell 0
        have hxw : IntKind.u64.wrap (x : Int) = (x : Int) := by rw [IntKind.wrap_u64]; omega
        have HP := Lib.hid (fun W hW => Put_ok g (hdrBits h) 0 x 4 (by decide) hx2 (by decide) (fun i hi => by have := hdrBits_at h 0 i (by decide) hi; rw [hx, Int.toNat_natCast] at this; exact this) W hW)
        clear hx hx2 f0 f1
        go_wp2
        obtain ⟨WD, hWD⟩ : ∃ WD, WD = (wr.alloc (.cells #[.string ⟨#[118, 101, 114, 115, 105, 111, 110]⟩, .int .i64 4, .func (.func 78) #[] #[.pointer (some ⟨g + 1 + 1, 0, none⟩)]] 105)).drew := ⟨_, rfl⟩
        have q0 : WD.cell? ⟨wr.heap.size, 2, none⟩ = some (.func (.func 78) #[] #[.pointer (some ⟨g + 1 + 1, 0, none⟩)]) := by rw [hWD]; exact (Blk.new wr _ _).cell 2
        have q1 : WD.cell? ⟨wr.heap.size, 1, none⟩ = some (.int .i64 4) := by rw [hWD]; exact (Blk.new wr _ _).cell 1
        have qc : WD.cell? ⟨g + 1 + 1, 0, none⟩ = some (.int .i64 (x : Int)) := by rw [hWD]; exact (World.cell?_alloc_lt wr _ ⟨g + 1 + 1, 0, none⟩ (by have := hbk.size; simp; omega)).trans hcell
        have SD : WS WD g (hdrBits h) 0 := by rw [hWD]; exact (HS.out.alloc _).drew
        have bD : Below g wr WD := by rw [hWD]; exact ((Below.refl g wr).alloc (Nat.le_of_lt hgl) _).drew
        refine wp_region_still_tail 8 (by kernel_rfl) (by kernel_rfl) ?_
        simp only [List.take_succ_cons, List.take_zero, List.drop_succ_cons, List.drop_zero]
        change wpStill _ _ (wr.alloc (.cells #[.string ⟨#[118, 101, 114, 115, 105, 111, 110]⟩, .int .i64 4, .func (.func 78) #[] #[.pointer (some ⟨g + 1 + 1, 0, none⟩)]] 105)).drew (fun a' => wpList _ _ _ _ a' (wr.alloc (.cells #[.string ⟨#[118, 101, 114, 115, 105, 111, 110]⟩, .int .i64 4, .func (.func 78) #[] #[.pointer (some ⟨g + 1 + 1, 0, none⟩)]] 105)).drew) _ _
        rw [← hWD]
        clear hWD hcell
        repeat (first | still_step | (refine wpStill_step (fun K hK => ?_); go_simp; refine ⟨_, (at_0 (g + 1 + 1) hb WD), hK _ ?_⟩; clear hK K))
        refine wpStill_nil ?_
        clear hxw q0 q1 qc
        go_wp2_with (go_at_call 55; refine (HP.out _ SD).mono ?_; rintro e w4 ⟨rfl, hS4, hb4⟩)
        go_roundw
        case rel => exact ⟨1, by decide, rfl, hS4, (fun h => by cases h), hbk.trans (bD.trans hb4)⟩
        case measure => simp [intOf]
      · have hix : ∀ W : World, (Instr.index 106 (.agg (partsArr (g + 1 + 1))) (.int .i64 1)).run Try.prog W = .ok (.agg #[.string ⟨#[99, 108, 97, 115, 115]⟩, .int .i64 4, .func (.func 79) #[] #[]]) W := fun _ => by kernel_rfl
        obtain ⟨f0, f1⟩ := HF.out 1 (by decide)
        obtain ⟨x, hx⟩ : ∃ x : Nat, hval h 1 = (x : Int) := ⟨(hval h 1).toNat, by omega⟩
        rw [hx] at f1
        have hx2 : x < 2 ^ 4 := by have f2 : (x : Int) < 2 ^ 4 := f1; omega
        have hcell : wr.cell? ⟨hb, 0, none⟩ = some (.int .i64 (x : Int)) := by
          rw [← hx]; exact hHr.cell 0
        have hxw : IntKind.u64.wrap (x : Int) = (x : Int) := by rw [IntKind.wrap_u64]; omega
        have HP := Lib.hid (fun W hW => Put_ok g (hdrBits h) 4 x 4 (by decide) hx2 (by decide) (fun i hi => by have := hdrBits_at h 1 i (by decide) hi; rw [hx, Int.toNat_natCast] at this; exact this) W hW)
        clear hx hx2 f0 f1
        go_wp2
        obtain ⟨WD, hWD⟩ : ∃ WD, WD = (wr.alloc (.cells #[.string ⟨#[99, 108, 97, 115, 115]⟩, .int .i64 4, .func (.func 79) #[] #[]] 105)).drew := ⟨_, rfl⟩
        have q0 : WD.cell? ⟨wr.heap.size, 2, none⟩ = some (.func (.func 79) #[] #[]) := by rw [hWD]; exact (Blk.new wr _ _).cell 2
        have q1 : WD.cell? ⟨wr.heap.size, 1, none⟩ = some (.int .i64 4) := by rw [hWD]; exact (Blk.new wr _ _).cell 1
        have qc : WD.cell? ⟨hb, 0, none⟩ = some (.int .i64 (x : Int)) := by rw [hWD]; exact (World.cell?_alloc_lt wr _ ⟨hb, 0, none⟩ (by have := hbk.size; simp; omega)).trans hcell
        have SD : WS WD g (hdrBits h) 4 := by rw [hWD]; exact (HS.out.alloc _).drew
        have bD : Below g wr WD := by rw [hWD]; exact ((Below.refl g wr).alloc (Nat.le_of_lt hgl) _).drew
        refine wp_region_still_tail 8 (by kernel_rfl) (by kernel_rfl) ?_
        simp only [List.take_succ_cons, List.take_zero, List.drop_succ_cons, List.drop_zero]
        change wpStill _ _ (wr.alloc (.cells #[.string ⟨#[99, 108, 97, 115, 115]⟩, .int .i64 4, .func (.func 79) #[] #[]] 105)).drew (fun a' => wpList _ _ _ _ a' (wr.alloc (.cells #[.string ⟨#[99, 108, 97, 115, 115]⟩, .int .i64 4, .func (.func 79) #[] #[]] 105)).drew) _ _
        rw [← hWD]
        clear hWD hcell
        repeat (first | still_step | (refine wpStill_step (fun K hK => ?_); go_simp; refine ⟨_, (at_1 hb WD), hK _ ?_⟩; clear hK K))
        refine wpStill_nil ?_
        clear hxw q0 q1 qc
        go_wp2_with (go_at_call 55; refine (HP.out _ SD).mono ?_; rintro e w4 ⟨rfl, hS4, hb4⟩)
        go_roundw
        case rel => exact ⟨2, by decide, rfl, hS4, (fun h => by cases h), hbk.trans (bD.trans hb4)⟩
        case measure => simp [intOf]
      · have hix : ∀ W : World, (Instr.index 106 (.agg (partsArr (g + 1 + 1))) (.int .i64 2)).run Try.prog W = .ok (.agg #[.string ⟨#[102, 108, 111, 119]⟩, .int .i64 16, .func (.func 80) #[] #[]]) W := fun _ => by kernel_rfl
        obtain ⟨f0, f1⟩ := HF.out 2 (by decide)
        obtain ⟨x, hx⟩ : ∃ x : Nat, hval h 2 = (x : Int) := ⟨(hval h 2).toNat, by omega⟩
        rw [hx] at f1
        have hx2 : x < 2 ^ 16 := by have f2 : (x : Int) < 2 ^ 16 := f1; omega
        have hcell : wr.cell? ⟨hb, 1, none⟩ = some (.int .i64 (x : Int)) := by
          rw [← hx]; exact hHr.cell 1
        have hxw : IntKind.u64.wrap (x : Int) = (x : Int) := by rw [IntKind.wrap_u64]; omega
        have HP := Lib.hid (fun W hW => Put_ok g (hdrBits h) 8 x 16 (by decide) hx2 (by decide) (fun i hi => by have := hdrBits_at h 2 i (by decide) hi; rw [hx, Int.toNat_natCast] at this; exact this) W hW)
        clear hx hx2 f0 f1
        go_wp2
        obtain ⟨WD, hWD⟩ : ∃ WD, WD = (wr.alloc (.cells #[.string ⟨#[102, 108, 111, 119]⟩, .int .i64 16, .func (.func 80) #[] #[]] 105)).drew := ⟨_, rfl⟩
        have q0 : WD.cell? ⟨wr.heap.size, 2, none⟩ = some (.func (.func 80) #[] #[]) := by rw [hWD]; exact (Blk.new wr _ _).cell 2
        have q1 : WD.cell? ⟨wr.heap.size, 1, none⟩ = some (.int .i64 16) := by rw [hWD]; exact (Blk.new wr _ _).cell 1
        have qc : WD.cell? ⟨hb, 1, none⟩ = some (.int .i64 (x : Int)) := by rw [hWD]; exact (World.cell?_alloc_lt wr _ ⟨hb, 1, none⟩ (by have := hbk.size; simp; omega)).trans hcell
        have SD : WS WD g (hdrBits h) 8 := by rw [hWD]; exact (HS.out.alloc _).drew
        have bD : Below g wr WD := by rw [hWD]; exact ((Below.refl g wr).alloc (Nat.le_of_lt hgl) _).drew
        refine wp_region_still_tail 8 (by kernel_rfl) (by kernel_rfl) ?_
        simp only [List.take_succ_cons, List.take_zero, List.drop_succ_cons, List.drop_zero]
        change wpStill _ _ (wr.alloc (.cells #[.string ⟨#[102, 108, 111, 119]⟩, .int .i64 16, .func (.func 80) #[] #[]] 105)).drew (fun a' => wpList _ _ _ _ a' (wr.alloc (.cells #[.string ⟨#[102, 108, 111, 119]⟩, .int .i64 16, .func (.func 80) #[] #[]] 105)).drew) _ _
        rw [← hWD]
        clear hWD hcell
        repeat (first | still_step | (refine wpStill_step (fun K hK => ?_); go_simp; refine ⟨_, (at_2 hb WD), hK _ ?_⟩; clear hK K))
        refine wpStill_nil ?_
        clear hxw q0 q1 qc
        go_wp2_with (go_at_call 55; refine (HP.out _ SD).mono ?_; rintro e w4 ⟨rfl, hS4, hb4⟩)
        go_roundw
        case rel => exact ⟨3, by decide, rfl, hS4, (fun h => by cases h), hbk.trans (bD.trans hb4)⟩
        case measure => simp [intOf]
      · have hix : ∀ W : World, (Instr.index 106 (.agg (partsArr (g + 1 + 1))) (.int .i64 3)).run Try.prog W = .ok (.agg #[.string ⟨#[115, 111, 117, 114, 99, 101]⟩, .int .i64 32, .func (.func 81) #[] #[]]) W := fun _ => by kernel_rfl
        obtain ⟨f0, f1⟩ := HF.out 3 (by decide)
        obtain ⟨x, hx⟩ : ∃ x : Nat, hval h 3 = (x : Int) := ⟨(hval h 3).toNat, by omega⟩
        rw [hx] at f1
        have hx2 : x < 2 ^ 32 := by have f2 : (x : Int) < 2 ^ 32 := f1; omega
        have hcell : wr.cell? ⟨hb, 2, none⟩ = some (.int .i64 (x : Int)) := by
          rw [← hx]; exact hHr.cell 2
        have hxw : IntKind.u64.wrap (x : Int) = (x : Int) := by rw [IntKind.wrap_u64]; omega
        have HP := Lib.hid (fun W hW => Put_ok g (hdrBits h) 24 x 32 (by decide) hx2 (by decide) (fun i hi => by have := hdrBits_at h 3 i (by decide) hi; rw [hx, Int.toNat_natCast] at this; exact this) W hW)
        clear hx hx2 f0 f1
        go_wp2
        obtain ⟨WD, hWD⟩ : ∃ WD, WD = (wr.alloc (.cells #[.string ⟨#[115, 111, 117, 114, 99, 101]⟩, .int .i64 32, .func (.func 81) #[] #[]] 105)).drew := ⟨_, rfl⟩
        have q0 : WD.cell? ⟨wr.heap.size, 2, none⟩ = some (.func (.func 81) #[] #[]) := by rw [hWD]; exact (Blk.new wr _ _).cell 2
        have q1 : WD.cell? ⟨wr.heap.size, 1, none⟩ = some (.int .i64 32) := by rw [hWD]; exact (Blk.new wr _ _).cell 1
        have qc : WD.cell? ⟨hb, 2, none⟩ = some (.int .i64 (x : Int)) := by rw [hWD]; exact (World.cell?_alloc_lt wr _ ⟨hb, 2, none⟩ (by have := hbk.size; simp; omega)).trans hcell
        have SD : WS WD g (hdrBits h) 24 := by rw [hWD]; exact (HS.out.alloc _).drew
        have bD : Below g wr WD := by rw [hWD]; exact ((Below.refl g wr).alloc (Nat.le_of_lt hgl) _).drew
        refine wp_region_still_tail 8 (by kernel_rfl) (by kernel_rfl) ?_
        simp only [List.take_succ_cons, List.take_zero, List.drop_succ_cons, List.drop_zero]
        change wpStill _ _ (wr.alloc (.cells #[.string ⟨#[115, 111, 117, 114, 99, 101]⟩, .int .i64 32, .func (.func 81) #[] #[]] 105)).drew (fun a' => wpList _ _ _ _ a' (wr.alloc (.cells #[.string ⟨#[115, 111, 117, 114, 99, 101]⟩, .int .i64 32, .func (.func 81) #[] #[]] 105)).drew) _ _
        rw [← hWD]
        clear hWD hcell
        repeat (first | still_step | (refine wpStill_step (fun K hK => ?_); go_simp; refine ⟨_, (at_3 hb WD), hK _ ?_⟩; clear hK K))
        refine wpStill_nil ?_
        clear hxw q0 q1 qc
        go_wp2_with (go_at_call 55; refine (HP.out _ SD).mono ?_; rintro e w4 ⟨rfl, hS4, hb4⟩)
        go_roundw
        case rel => exact ⟨4, by decide, rfl, hS4, (fun h => by cases h), hbk.trans (bD.trans hb4)⟩
        case measure => simp [intOf]
      · have hix : ∀ W : World, (Instr.index 106 (.agg (partsArr (g + 1 + 1))) (.int .i64 4)).run Try.prog W = .ok (.agg #[.string ⟨#[100, 101, 115, 116]⟩, .int .i64 32, .func (.func 82) #[] #[]]) W := fun _ => by kernel_rfl
        obtain ⟨f0, f1⟩ := HF.out 4 (by decide)
        obtain ⟨x, hx⟩ : ∃ x : Nat, hval h 4 = (x : Int) := ⟨(hval h 4).toNat, by omega⟩
        rw [hx] at f1
        have hx2 : x < 2 ^ 32 := by have f2 : (x : Int) < 2 ^ 32 := f1; omega
        have hcell : wr.cell? ⟨hb, 3, none⟩ = some (.int .i64 (x : Int)) := by
          rw [← hx]; exact hHr.cell 3
        have hxw : IntKind.u64.wrap (x : Int) = (x : Int) := by rw [IntKind.wrap_u64]; omega
        have HP := Lib.hid (fun W hW => Put_ok g (hdrBits h) 56 x 32 (by decide) hx2 (by decide) (fun i hi => by have := hdrBits_at h 4 i (by decide) hi; rw [hx, Int.toNat_natCast] at this; exact this) W hW)
        clear hx hx2 f0 f1
        go_wp2
        obtain ⟨WD, hWD⟩ : ∃ WD, WD = (wr.alloc (.cells #[.string ⟨#[100, 101, 115, 116]⟩, .int .i64 32, .func (.func 82) #[] #[]] 105)).drew := ⟨_, rfl⟩
        have q0 : WD.cell? ⟨wr.heap.size, 2, none⟩ = some (.func (.func 82) #[] #[]) := by rw [hWD]; exact (Blk.new wr _ _).cell 2
        have q1 : WD.cell? ⟨wr.heap.size, 1, none⟩ = some (.int .i64 32) := by rw [hWD]; exact (Blk.new wr _ _).cell 1
        have qc : WD.cell? ⟨hb, 3, none⟩ = some (.int .i64 (x : Int)) := by rw [hWD]; exact (World.cell?_alloc_lt wr _ ⟨hb, 3, none⟩ (by have := hbk.size; simp; omega)).trans hcell
        have SD : WS WD g (hdrBits h) 56 := by rw [hWD]; exact (HS.out.alloc _).drew
        have bD : Below g wr WD := by rw [hWD]; exact ((Below.refl g wr).alloc (Nat.le_of_lt hgl) _).drew
        refine wp_region_still_tail 8 (by kernel_rfl) (by kernel_rfl) ?_
        simp only [List.take_succ_cons, List.take_zero, List.drop_succ_cons, List.drop_zero]
        change wpStill _ _ (wr.alloc (.cells #[.string ⟨#[100, 101, 115, 116]⟩, .int .i64 32, .func (.func 82) #[] #[]] 105)).drew (fun a' => wpList _ _ _ _ a' (wr.alloc (.cells #[.string ⟨#[100, 101, 115, 116]⟩, .int .i64 32, .func (.func 82) #[] #[]] 105)).drew) _ _
        rw [← hWD]
        clear hWD hcell
        repeat (first | still_step | (refine wpStill_step (fun K hK => ?_); go_simp; refine ⟨_, (at_4 hb WD), hK _ ?_⟩; clear hK K))
        refine wpStill_nil ?_
        clear hxw q0 q1 qc
        go_wp2_with (go_at_call 55; refine (HP.out _ SD).mono ?_; rintro e w4 ⟨rfl, hS4, hb4⟩)
        go_roundw
        case rel => exact ⟨5, by decide, rfl, hS4, (fun h => by cases h), hbk.trans (bD.trans hb4)⟩
        case measure => simp [intOf]
      · have hix : ∀ W : World, (Instr.index 106 (.agg (partsArr (g + 1 + 1))) (.int .i64 5)).run Try.prog W = .ok (.agg #[.string ⟨#[112, 114, 111, 116, 111]⟩, .int .i64 8, .func (.func 83) #[] #[]]) W := fun _ => by kernel_rfl
        obtain ⟨f0, f1⟩ := HF.out 5 (by decide)
        obtain ⟨x, hx⟩ : ∃ x : Nat, hval h 5 = (x : Int) := ⟨(hval h 5).toNat, by omega⟩
        rw [hx] at f1
        have hx2 : x < 2 ^ 8 := by have f2 : (x : Int) < 2 ^ 8 := f1; omega
        have hcell : wr.cell? ⟨hb, 4, none⟩ = some (.int .i64 (x : Int)) := by
          rw [← hx]; exact hHr.cell 4
        have hxw : IntKind.u64.wrap (x : Int) = (x : Int) := by rw [IntKind.wrap_u64]; omega
        have HP := Lib.hid (fun W hW => Put_ok g (hdrBits h) 88 x 8 (by decide) hx2 (by decide) (fun i hi => by have := hdrBits_at h 5 i (by decide) hi; rw [hx, Int.toNat_natCast] at this; exact this) W hW)
        clear hx hx2 f0 f1
        go_wp2
        obtain ⟨WD, hWD⟩ : ∃ WD, WD = (wr.alloc (.cells #[.string ⟨#[112, 114, 111, 116, 111]⟩, .int .i64 8, .func (.func 83) #[] #[]] 105)).drew := ⟨_, rfl⟩
        have q0 : WD.cell? ⟨wr.heap.size, 2, none⟩ = some (.func (.func 83) #[] #[]) := by rw [hWD]; exact (Blk.new wr _ _).cell 2
        have q1 : WD.cell? ⟨wr.heap.size, 1, none⟩ = some (.int .i64 8) := by rw [hWD]; exact (Blk.new wr _ _).cell 1
        have qc : WD.cell? ⟨hb, 4, none⟩ = some (.int .i64 (x : Int)) := by rw [hWD]; exact (World.cell?_alloc_lt wr _ ⟨hb, 4, none⟩ (by have := hbk.size; simp; omega)).trans hcell
        have SD : WS WD g (hdrBits h) 88 := by rw [hWD]; exact (HS.out.alloc _).drew
        have bD : Below g wr WD := by rw [hWD]; exact ((Below.refl g wr).alloc (Nat.le_of_lt hgl) _).drew
        refine wp_region_still_tail 8 (by kernel_rfl) (by kernel_rfl) ?_
        simp only [List.take_succ_cons, List.take_zero, List.drop_succ_cons, List.drop_zero]
        change wpStill _ _ (wr.alloc (.cells #[.string ⟨#[112, 114, 111, 116, 111]⟩, .int .i64 8, .func (.func 83) #[] #[]] 105)).drew (fun a' => wpList _ _ _ _ a' (wr.alloc (.cells #[.string ⟨#[112, 114, 111, 116, 111]⟩, .int .i64 8, .func (.func 83) #[] #[]] 105)).drew) _ _
        rw [← hWD]
        clear hWD hcell
        repeat (first | still_step | (refine wpStill_step (fun K hK => ?_); go_simp; refine ⟨_, (at_5 hb WD), hK _ ?_⟩; clear hK K))
        refine wpStill_nil ?_
        clear hxw q0 q1 qc
        go_wp2_with (go_at_call 55; refine (HP.out _ SD).mono ?_; rintro e w4 ⟨rfl, hS4, hb4⟩)
        go_roundw
        case rel => exact ⟨6, by decide, rfl, hS4, (fun h => by cases h), hbk.trans (bD.trans hb4)⟩
        case measure => simp [intOf]
      · have hix : ∀ W : World, (Instr.index 106 (.agg (partsArr (g + 1 + 1))) (.int .i64 6)).run Try.prog W = .ok (.agg #[.string ⟨#[104, 111, 112, 115]⟩, .int .i64 8, .func (.func 84) #[] #[]]) W := fun _ => by kernel_rfl
        obtain ⟨f0, f1⟩ := HF.out 6 (by decide)
        obtain ⟨x, hx⟩ : ∃ x : Nat, hval h 6 = (x : Int) := ⟨(hval h 6).toNat, by omega⟩
        rw [hx] at f1
        have hx2 : x < 2 ^ 8 := by have f2 : (x : Int) < 2 ^ 8 := f1; omega
        have hcell : wr.cell? ⟨hb, 5, none⟩ = some (.int .i64 (x : Int)) := by
          rw [← hx]; exact hHr.cell 5
        have hxw : IntKind.u64.wrap (x : Int) = (x : Int) := by rw [IntKind.wrap_u64]; omega
        have HP := Lib.hid (fun W hW => Put_ok g (hdrBits h) 96 x 8 (by decide) hx2 (by decide) (fun i hi => by have := hdrBits_at h 6 i (by decide) hi; rw [hx, Int.toNat_natCast] at this; exact this) W hW)
        clear hx hx2 f0 f1
        go_wp2
        obtain ⟨WD, hWD⟩ : ∃ WD, WD = (wr.alloc (.cells #[.string ⟨#[104, 111, 112, 115]⟩, .int .i64 8, .func (.func 84) #[] #[]] 105)).drew := ⟨_, rfl⟩
        have q0 : WD.cell? ⟨wr.heap.size, 2, none⟩ = some (.func (.func 84) #[] #[]) := by rw [hWD]; exact (Blk.new wr _ _).cell 2
        have q1 : WD.cell? ⟨wr.heap.size, 1, none⟩ = some (.int .i64 8) := by rw [hWD]; exact (Blk.new wr _ _).cell 1
        have qc : WD.cell? ⟨hb, 5, none⟩ = some (.int .i64 (x : Int)) := by rw [hWD]; exact (World.cell?_alloc_lt wr _ ⟨hb, 5, none⟩ (by have := hbk.size; simp; omega)).trans hcell
        have SD : WS WD g (hdrBits h) 96 := by rw [hWD]; exact (HS.out.alloc _).drew
        have bD : Below g wr WD := by rw [hWD]; exact ((Below.refl g wr).alloc (Nat.le_of_lt hgl) _).drew
        refine wp_region_still_tail 8 (by kernel_rfl) (by kernel_rfl) ?_
        simp only [List.take_succ_cons, List.take_zero, List.drop_succ_cons, List.drop_zero]
        change wpStill _ _ (wr.alloc (.cells #[.string ⟨#[104, 111, 112, 115]⟩, .int .i64 8, .func (.func 84) #[] #[]] 105)).drew (fun a' => wpList _ _ _ _ a' (wr.alloc (.cells #[.string ⟨#[104, 111, 112, 115]⟩, .int .i64 8, .func (.func 84) #[] #[]] 105)).drew) _ _
        rw [← hWD]
        clear hWD hcell
        repeat (first | still_step | (refine wpStill_step (fun K hK => ?_); go_simp; refine ⟨_, (at_6 hb WD), hK _ ?_⟩; clear hK K))
        refine wpStill_nil ?_
        clear hxw q0 q1 qc
        go_wp2_with (go_at_call 55; refine (HP.out _ SD).mono ?_; rintro e w4 ⟨rfl, hS4, hb4⟩)
        go_roundw
        case rel => exact ⟨7, by decide, rfl, hS4, (fun h => by cases h), hbk.trans (bD.trans hb4)⟩
        case measure => simp [intOf]
      · have hix : ∀ W : World, (Instr.index 106 (.agg (partsArr (g + 1 + 1))) (.int .i64 7)).run Try.prog W = .ok (.agg #[.string ⟨#[105, 100, 101, 110, 116]⟩, .int .i64 16, .func (.func 85) #[] #[]]) W := fun _ => by kernel_rfl
        obtain ⟨f0, f1⟩ := HF.out 7 (by decide)
        obtain ⟨x, hx⟩ : ∃ x : Nat, hval h 7 = (x : Int) := ⟨(hval h 7).toNat, by omega⟩
        rw [hx] at f1
        have hx2 : x < 2 ^ 16 := by have f2 : (x : Int) < 2 ^ 16 := f1; omega
        have hcell : wr.cell? ⟨hb, 6, none⟩ = some (.int .i64 (x : Int)) := by
          rw [← hx]; exact hHr.cell 6
        have hxw : IntKind.u64.wrap (x : Int) = (x : Int) := by rw [IntKind.wrap_u64]; omega
        have HP := Lib.hid (fun W hW => Put_ok g (hdrBits h) 104 x 16 (by decide) hx2 (by decide) (fun i hi => by have := hdrBits_at h 7 i (by decide) hi; rw [hx, Int.toNat_natCast] at this; exact this) W hW)
        clear hx hx2 f0 f1
        go_wp2
        obtain ⟨WD, hWD⟩ : ∃ WD, WD = (wr.alloc (.cells #[.string ⟨#[105, 100, 101, 110, 116]⟩, .int .i64 16, .func (.func 85) #[] #[]] 105)).drew := ⟨_, rfl⟩
        have q0 : WD.cell? ⟨wr.heap.size, 2, none⟩ = some (.func (.func 85) #[] #[]) := by rw [hWD]; exact (Blk.new wr _ _).cell 2
        have q1 : WD.cell? ⟨wr.heap.size, 1, none⟩ = some (.int .i64 16) := by rw [hWD]; exact (Blk.new wr _ _).cell 1
        have qc : WD.cell? ⟨hb, 6, none⟩ = some (.int .i64 (x : Int)) := by rw [hWD]; exact (World.cell?_alloc_lt wr _ ⟨hb, 6, none⟩ (by have := hbk.size; simp; omega)).trans hcell
        have SD : WS WD g (hdrBits h) 104 := by rw [hWD]; exact (HS.out.alloc _).drew
        have bD : Below g wr WD := by rw [hWD]; exact ((Below.refl g wr).alloc (Nat.le_of_lt hgl) _).drew
        refine wp_region_still_tail 8 (by kernel_rfl) (by kernel_rfl) ?_
        simp only [List.take_succ_cons, List.take_zero, List.drop_succ_cons, List.drop_zero]
        change wpStill _ _ (wr.alloc (.cells #[.string ⟨#[105, 100, 101, 110, 116]⟩, .int .i64 16, .func (.func 85) #[] #[]] 105)).drew (fun a' => wpList _ _ _ _ a' (wr.alloc (.cells #[.string ⟨#[105, 100, 101, 110, 116]⟩, .int .i64 16, .func (.func 85) #[] #[]] 105)).drew) _ _
        rw [← hWD]
        clear hWD hcell
        repeat (first | still_step | (refine wpStill_step (fun K hK => ?_); go_simp; refine ⟨_, (at_7 hb WD), hK _ ?_⟩; clear hK K))
        refine wpStill_nil ?_
        clear hxw q0 q1 qc
        go_wp2_with (go_at_call 55; refine (HP.out _ SD).mono ?_; rintro e w4 ⟨rfl, hS4, hb4⟩)
        go_roundw
        case rel => exact ⟨8, by decide, rfl, hS4, (fun h => by cases h), hbk.trans (bD.trans hb4)⟩
        case measure => simp [intOf]
      · have hix : ∀ W : World, (Instr.index 106 (.agg (partsArr (g + 1 + 1))) (.int .i64 8)).run Try.prog W = .ok (.agg #[.string ⟨#[116, 105, 109, 101]⟩, .int .i64 24, .func (.func 86) #[] #[]]) W := fun _ => by kernel_rfl
        obtain ⟨f0, f1⟩ := HF.out 8 (by decide)
        obtain ⟨x, hx⟩ : ∃ x : Nat, hval h 8 = (x : Int) := ⟨(hval h 8).toNat, by omega⟩
        rw [hx] at f1
        have hx2 : x < 2 ^ 24 := by have f2 : (x : Int) < 2 ^ 24 := f1; omega
        have hcell : wr.cell? ⟨hb, 7, none⟩ = some (.int .i64 (x : Int)) := by
          rw [← hx]; exact hHr.cell 7
        have hxw : IntKind.u64.wrap (x : Int) = (x : Int) := by rw [IntKind.wrap_u64]; omega
        have HP := Lib.hid (fun W hW => Put_ok g (hdrBits h) 120 x 24 (by decide) hx2 (by decide) (fun i hi => by have := hdrBits_at h 8 i (by decide) hi; rw [hx, Int.toNat_natCast] at this; exact this) W hW)
        clear hx hx2 f0 f1
        go_wp2
        obtain ⟨WD, hWD⟩ : ∃ WD, WD = (wr.alloc (.cells #[.string ⟨#[116, 105, 109, 101]⟩, .int .i64 24, .func (.func 86) #[] #[]] 105)).drew := ⟨_, rfl⟩
        have q0 : WD.cell? ⟨wr.heap.size, 2, none⟩ = some (.func (.func 86) #[] #[]) := by rw [hWD]; exact (Blk.new wr _ _).cell 2
        have q1 : WD.cell? ⟨wr.heap.size, 1, none⟩ = some (.int .i64 24) := by rw [hWD]; exact (Blk.new wr _ _).cell 1
        have qc : WD.cell? ⟨hb, 7, none⟩ = some (.int .i64 (x : Int)) := by rw [hWD]; exact (World.cell?_alloc_lt wr _ ⟨hb, 7, none⟩ (by have := hbk.size; simp; omega)).trans hcell
        have SD : WS WD g (hdrBits h) 120 := by rw [hWD]; exact (HS.out.alloc _).drew
        have bD : Below g wr WD := by rw [hWD]; exact ((Below.refl g wr).alloc (Nat.le_of_lt hgl) _).drew
        refine wp_region_still_tail 8 (by kernel_rfl) (by kernel_rfl) ?_
        simp only [List.take_succ_cons, List.take_zero, List.drop_succ_cons, List.drop_zero]
        change wpStill _ _ (wr.alloc (.cells #[.string ⟨#[116, 105, 109, 101]⟩, .int .i64 24, .func (.func 86) #[] #[]] 105)).drew (fun a' => wpList _ _ _ _ a' (wr.alloc (.cells #[.string ⟨#[116, 105, 109, 101]⟩, .int .i64 24, .func (.func 86) #[] #[]] 105)).drew) _ _
        rw [← hWD]
        clear hWD hcell
        repeat (first | still_step | (refine wpStill_step (fun K hK => ?_); go_simp; refine ⟨_, (at_8 hb WD), hK _ ?_⟩; clear hK K))
        refine wpStill_nil ?_
        clear hxw q0 q1 qc
        go_wp2_with (go_at_call 55; refine (HP.out _ SD).mono ?_; rintro e w4 ⟨rfl, hS4, hb4⟩)
        go_roundw
        case rel => exact ⟨9, by decide, rfl, hS4, (fun h => by cases h), hbk.trans (bD.trans hb4)⟩
        case measure => simp [intOf]
      · have hix : ∀ W : World, (Instr.index 106 (.agg (partsArr (g + 1 + 1))) (.int .i64 9)).run Try.prog W = .ok (.agg #[.string ⟨#[108, 101, 110, 103, 116, 104]⟩, .int .i64 16, .func (.func 87) #[] #[]]) W := fun _ => by kernel_rfl
        obtain ⟨f0, f1⟩ := HF.out 9 (by decide)
        obtain ⟨x, hx⟩ : ∃ x : Nat, hval h 9 = (x : Int) := ⟨(hval h 9).toNat, by omega⟩
        rw [hx] at f1
        have hx2 : x < 2 ^ 16 := by have f2 : (x : Int) < 2 ^ 16 := f1; omega
        have hcell : wr.cell? ⟨hb, 8, none⟩ = some (.int .i64 (x : Int)) := by
          rw [← hx]; exact hHr.cell 8
        have hxw : IntKind.u64.wrap (x : Int) = (x : Int) := by rw [IntKind.wrap_u64]; omega
        have HP := Lib.hid (fun W hW => Put_ok g (hdrBits h) 144 x 16 (by decide) hx2 (by decide) (fun i hi => by have := hdrBits_at h 9 i (by decide) hi; rw [hx, Int.toNat_natCast] at this; exact this) W hW)
        clear hx hx2 f0 f1
        go_wp2
        obtain ⟨WD, hWD⟩ : ∃ WD, WD = (wr.alloc (.cells #[.string ⟨#[108, 101, 110, 103, 116, 104]⟩, .int .i64 16, .func (.func 87) #[] #[]] 105)).drew := ⟨_, rfl⟩
        have q0 : WD.cell? ⟨wr.heap.size, 2, none⟩ = some (.func (.func 87) #[] #[]) := by rw [hWD]; exact (Blk.new wr _ _).cell 2
        have q1 : WD.cell? ⟨wr.heap.size, 1, none⟩ = some (.int .i64 16) := by rw [hWD]; exact (Blk.new wr _ _).cell 1
        have qc : WD.cell? ⟨hb, 8, none⟩ = some (.int .i64 (x : Int)) := by rw [hWD]; exact (World.cell?_alloc_lt wr _ ⟨hb, 8, none⟩ (by have := hbk.size; simp; omega)).trans hcell
        have SD : WS WD g (hdrBits h) 144 := by rw [hWD]; exact (HS.out.alloc _).drew
        have bD : Below g wr WD := by rw [hWD]; exact ((Below.refl g wr).alloc (Nat.le_of_lt hgl) _).drew
        refine wp_region_still_tail 8 (by kernel_rfl) (by kernel_rfl) ?_
        simp only [List.take_succ_cons, List.take_zero, List.drop_succ_cons, List.drop_zero]
        change wpStill _ _ (wr.alloc (.cells #[.string ⟨#[108, 101, 110, 103, 116, 104]⟩, .int .i64 16, .func (.func 87) #[] #[]] 105)).drew (fun a' => wpList _ _ _ _ a' (wr.alloc (.cells #[.string ⟨#[108, 101, 110, 103, 116, 104]⟩, .int .i64 16, .func (.func 87) #[] #[]] 105)).drew) _ _
        rw [← hWD]
        clear hWD hcell
        repeat (first | still_step | (refine wpStill_step (fun K hK => ?_); go_simp; refine ⟨_, (at_9 hb WD), hK _ ?_⟩; clear hK K))
        refine wpStill_nil ?_
        clear hxw q0 q1 qc
        go_wp2_with (go_at_call 55; refine (HP.out _ SD).mono ?_; rintro e w4 ⟨rfl, hS4, hb4⟩)
        go_roundw
        case rel => exact ⟨10, by decide, rfl, hS4, (fun h => by cases h), hbk.trans (bD.trans hb4)⟩
        case measure => simp [intOf]
    · obtain rfl : k = 10 := by omega
      go_wp2_with (go_at_call 56; refine (Bytes_ok g (hdrBits h) 160 (by decide) _ HS.out).mono ?_; rintro e w4 ⟨A4, c4, rfl, hc4, hR4, hb4⟩; have HC4 := Lib.hid hc4; clear hc4)
      go_ret2
      have hwr : Below w.heap.size w wr := HBW2.out.trans (hbk.mono (by have := HHB.out; omega))
      exact ⟨A4, c4, rfl, HC4.out, ownsRow_mono hR4 hwr.size, below_step hwr hb4⟩
end Go.Proofs.Ytejadoadpgcpjaa
