/- The reference of chapter 42: Bytes. -/
import Derived.Test.YtejadoadpgcpjaaEJ
import Derived.Deep.OwnRows
import Derived.StillTailTactics
namespace Go.Proofs.Ytejadoadpgcpjaa
open Go.RowKit

theorem pk_add (b : Nat → Bool) (n : Nat) (h : b n = true) : ∀ P : Int, P = ((HM.pk b n (n / 8) : Nat) : Int) → (P + 2 ^ (7 - n % 8)) % 256 = ((HM.pk b (n + 1) (n / 8) : Nat) : Int) := by
  intro P hP
  have h1 := HM.pk_hit b n h
  have h2 := HM.pk_lt b (n + 1) (n / 8)
  have h3 : P + 2 ^ (7 - n % 8) = ((HM.pk b (n + 1) (n / 8) : Nat) : Int) := by rw [h1, hP]; simp
  rw [h3]; omega
theorem pk_add' (b : Nat → Bool) (n : Nat) (h : b n = true) : IntKind.u8.wrap (((HM.pk b n (n / 8) : Nat) : Int) + IntKind.u8.wrap (2 ^ (7 - n % 8))) = ((HM.pk b (n + 1) (n / 8) : Nat) : Int) := by
  have h7 : ∀ r, r < 8 → IntKind.u8.wrap ((2 : Int) ^ (7 - r)) = 2 ^ (7 - r) := by decide
  rw [h7 (n % 8) (by omega), IntKind.wrap_u8]
  exact pk_add b n h _ rfl
theorem offs_le (k : Nat) (hk : k < 10) : offs k + pwd k ≤ 160 := ten (p := fun k => offs k + pwd k ≤ 160) (by decide) (by decide) (by decide) (by decide) (by decide) (by decide) (by decide) (by decide) (by decide) (by decide) k hk

def BytesEnd (h : Nat → Int) (w : World) (e : Ending) (w' : World) : Prop :=
  ∃ g, e = .returned (.slice (some ⟨g, 0, none⟩) 20 20) ∧ w.heap.size ≤ g ∧ w'.rowIs g 5 20 (fun j => .int .u8 ((HM.pk (hdrBits h) 160 j : Nat) : Int)) ∧ Below w.heap.size w w'

set_option maxRecDepth 100000 in
set_option maxHeartbeats 3200000 in
theorem bytes42_ok (h : Nat → Int) (hf : anyWrong h = false) (w : World) :
    Calls Try.prog 24 #[.agg (hdr h)] w (BytesEnd h w) := by
  have HF := Lib.hid (anyWrong_false h hf)
  have HV := Lib.hid (fun W => values_ok h W)
  have hmk : ∀ W : World, (Instr.makeSlice 22 (.int .i64 20) (.int .i64 20)).run Try.prog W = .ok (.slice (some ⟨W.heap.size, 0, none⟩) 20 20) (W.alloc (.cells (madeCells #[.int .u8 0] 20) 5)) := fun W => make_bytes 20 (by decide) W
  unfold hdr at HV ⊢
  clear hf
  go_enter Try.func24, Try.ntmps24
  go_wp2_with (first
    | (go_at_call 60; refine (HV.out _).mono ?_; rintro e w1 ⟨rfl, hB1, hb1⟩)
    | (go_at_call 26; refine (widths42_ok _).mono ?_; rintro e w2 ⟨rfl, rfl⟩))
  simp only [World.size_alloc] at hB1 hb1
  obtain ⟨W1, hW1⟩ : ∃ W1, W1 = w1.alloc (.cells hwds 3) := ⟨_, rfl⟩
  have z1 : W1.heap.size = w1.heap.size + 1 := by rw [hW1]; simp
  have BV : Blk W1 (w.heap.size + 1 + 1) 3 (hvals h) := by rw [hW1]; exact hB1.alloc _
  have BW : Blk W1 w1.heap.size 3 hwds := by rw [hW1]; exact Blk.new _ _ _
  have hb : Below w.heap.size w W1 := by rw [hW1]; exact (((Below.refl _ w).alloc (Nat.le_refl _) _).trans (hb1.mono (by omega))).alloc (by have := hb1.size; simp at this; omega) _
  have R0 := World.rowIs_made W1 (.int .u8 0) 20 5
  rw [← hW1, ← z1]
  have HBV := Lib.hid BV
  have HBW := Lib.hid BW
  have hBVl := BV.lt
  have hBWl := BW.lt
  clear hW1 BV BW hB1 hb1
  have Z1 := Lib.hid z1
  clear z1
  obtain ⟨gw, hgw⟩ : ∃ gw, gw = w1.heap.size := ⟨_, rfl⟩
  rw [← hgw] at HBW hBWl ⊢
  clear hgw
  go_loopw [6, 7, 8] (fun v6 v7 _ wr => ∃ k : Nat, k ≤ 10 ∧ v7 = .int .i64 k ∧ v6 = .int .i64 (offs k : Nat) ∧ W1.heap.size + 1 ≤ wr.heap.size ∧ wr.rowIs W1.heap.size 5 20 (fun j => .int .u8 ((HM.pk (hdrBits h) (offs k) j : Nat) : Int)) ∧ Below W1.heap.size W1 wr) (fun _ v _ _ => 10 - (intOf v).toNat)
  case atStart => exact ⟨0, by omega, rfl, rfl, by simp, R0, (Below.refl _ _).alloc (Nat.le_refl _) _⟩
  case round =>
    obtain ⟨k, hk, rfl, rfl, hsz, hR, hW⟩ := hrel
    by_cases hlt : k < 10
    · have cw : wr.cell? ⟨gw, k, none⟩ = some (.int .i64 (pwd k : Int)) := (hW.cell (p := ⟨gw, k, none⟩) hBWl).trans ((HBW.out.cell k).trans (hwds_at k hlt))
      obtain ⟨p1, p2⟩ := pwd_le k hlt
      have hoff := offs_le k hlt
      obtain ⟨f0, f1⟩ := HF.out k hlt
      obtain ⟨x, hx⟩ : ∃ x : Nat, hval h k = (x : Int) := ⟨(hval h k).toNat, by omega⟩
      have HBits := Lib.hid (fun i hi => hdrBits_at h k i hlt hi)
      have HX := Lib.hid hx
      obtain ⟨o, ho⟩ : ∃ o, o = offs k := ⟨_, rfl⟩
      obtain ⟨wd, hwd⟩ : ∃ wd, wd = pwd k := ⟨_, rfl⟩
      have HO := Lib.hid (show offs (k + 1) = o + wd by rw [ho, hwd]; rfl)
      rw [← ho, ← hwd] at HBits
      rw [← ho] at hR ⊢
      rw [← ho, ← hwd] at hoff
      rw [← hwd] at cw p1 p2
      have g1 : (0 : Int) ≤ (k : Int) := by omega
      have g2 : (k : Int) < 10 := by omega
      clear f0 f1 hx ho hwd
      go_wp2
      go_loopw [6, 8] (fun v6 v8 ws => ∃ m : Nat, m ≤ wd ∧ v6 = .int .i64 ((o + m : Nat) : Int) ∧ v8 = .int .i64 ((wd : Int) - 1 - m) ∧ W1.heap.size + 1 ≤ ws.heap.size ∧ ws.rowIs W1.heap.size 5 20 (fun j => .int .u8 ((HM.pk (hdrBits h) (o + m) j : Nat) : Int)) ∧ Below W1.heap.size W1 ws) (fun _ v _ => (intOf v + 1).toNat)
      case atStart => exact ⟨0, Nat.zero_le _, by simp, by simp, hsz, hR, hW⟩
      case round =>
        obtain ⟨m, hm, rfl, rfl, hsz2, hR2, hW2⟩ := hrel
        obtain ⟨W2, hW2e⟩ : ∃ W2, W2 = wr := ⟨_, rfl⟩
        subst hW2e
        by_cases hlt2 : m < wd
        · obtain ⟨i, hi⟩ : ∃ i : Nat, i = wd - 1 - m := ⟨_, rfl⟩
          have hi2 : (wd : Int) - 1 - m = (i : Int) := by omega
          have cv : W2.cell? ⟨w.heap.size + 1 + 1, k, none⟩ = some (.int .i64 (x : Int)) := (hW2.cell (p := ⟨w.heap.size + 1 + 1, k, none⟩) hBVl).trans ((HBV.out.cell k).trans (by rw [hvals_at h k hlt, HX.out]))
          have hmin : min i 64 = i := by omega
          have hbit : hdrBits h (o + m) = (x / 2 ^ i % 2 == 1) := by rw [HBits.out m hlt2, HX.out, Int.toNat_natCast]; unfold vbit; rw [hi]
          have HBit := Lib.hid hbit
          rw [hi2]
          obtain ⟨n, hn⟩ : ∃ n, n = o + m := ⟨_, rfl⟩
          have HN := Lib.hid hn
          have HI := Lib.hid hi
          have hn160 : n < 160 := by omega
          obtain ⟨y, hy⟩ : ∃ y, y = x / 2 ^ i := ⟨_, rfl⟩
          have hyc : (x : Int) / 2 ^ i = (y : Int) := by rw [hy]; simp
          rw [← hn, ← hy] at HBit
          rw [← hn] at hR2 ⊢
          clear hi hi2 hn hbit hy
          by_cases hb1 : y % 2 = 1
          · have hb2 : ((y : Int) % 2 == 1) = true := by simp; omega
            have HB1 := Lib.hid (show hdrBits h n = true by rw [HBit.out]; simp [hb1])
            clear hb1
            have hn8 : n / 8 < 20 := by omega
            have hcell : W2.cell? ⟨W1.heap.size, n / 8, none⟩ = some (.int .u8 ((HM.pk (hdrBits h) n (n / 8) : Nat) : Int)) := hR2.cell hn8
            have hfr := hR2.frozen (n / 8)
            go_wp2
            have k0 : (n : Int).tmod 8 = (n : Int) % 8 := Int.tmod_eq_emod_of_nonneg (by omega)
            have k1 : IntKind.i64.wrap ((n : Int) / 8) = (n : Int) / 8 := IntWalk.i64_in _ (by omega)
            have k2 : IntKind.i64.wrap ((n : Int) % 8) = (n : Int) % 8 := IntWalk.i64_in _ (by omega)
            have k3 : IntKind.i64.wrap (7 - (n : Int) % 8) = 7 - (n : Int) % 8 := IntWalk.i64_in _ (by omega)
            have k4 : (0 : Int) ≤ (n : Int) / 8 := by omega
            have k5 : ((n : Int) / 8).toNat = n / 8 := by omega
            have k6 : (0 : Int) ≤ 7 - (n : Int) % 8 := by omega
            have k7 : (7 - (n : Int) % 8).toNat = 7 - n % 8 := by omega
            have k8 : (n : Int) / 8 < 20 := by omega
            have HRest := Lib.hid (And.intro hR2 (And.intro hW2 hsz2))
            have hlt20 : W1.heap.size < W2.heap.size := hR2.lt
            clear hR2 hW2 hsz2
            refine wp_region_still_tail 14 (by kernel_rfl) (by kernel_rfl) ?_
            simp only [List.take_succ_cons, List.take_zero, List.drop_succ_cons, List.drop_zero]
            change wpStill _ _ W2.drew (fun a' => wpList _ _ _ _ a' W2.drew) _ _
            obtain ⟨WD, hWD⟩ : ∃ WD, WD = W2.drew := ⟨_, rfl⟩
            have d2 : WD.cell? ⟨W1.heap.size, n / 8, none⟩ = some (.int .u8 ((HM.pk (hdrBits h) n (n / 8) : Nat) : Int)) := by rw [hWD]; exact hcell
            have df2 : WD.frozen? ⟨W1.heap.size, n / 8, none⟩ = false := by rw [hWD]; exact hfr
            rw [← hWD]
            have HWD := Lib.hid hWD
            clear hWD hcell hfr
            repeat still_step
            refine wpStill_nil ?_
            clear k0 k1 k2 k3 k4 k5 k6 k7 k8
            rw [pk_add' (hdrBits h) n HB1.out]
            obtain ⟨hR3, hW3, hsz3⟩ := HRest.out
            have hR4 : WD.rowIs W1.heap.size 5 20 (fun j => .int .u8 ((HM.pk (hdrBits h) n j : Nat) : Int)) := by rw [HWD.out]; exact hR3.drew
            have hW4 : Below W1.heap.size W1 WD := by rw [HWD.out]; exact hW3.drew
            have hsz4 : W1.heap.size + 1 ≤ WD.heap.size := by rw [HWD.out]; exact hsz3
            have HR4 := Lib.hid hR4
            clear hR3 hW3 hsz3 hR4
            go_wp2
            go_roundw
            case rel =>
              refine ⟨m + 1, by omega, by rw [HN.out]; go_num, by have := HI.out; go_num, by simp; omega, ((HR4.out.set _ _)).congr fun j hj => ?_, hW4.setCell (by simp) _⟩
              rw [← Nat.add_assoc, ← HN.out]
              by_cases hj1 : j = n / 8
              · subst hj1; rw [if_pos rfl]
              · rw [if_neg hj1, HM.pk_other (hdrBits h) n _ (by omega)]
            case measure => simp [intOf] <;> omega
          · have hb2 : ((y : Int) % 2 == 1) = false := by simp; omega
            have HB1 := Lib.hid (show hdrBits h n = false by rw [HBit.out]; simp; omega)
            clear hb1
            go_wp2
            go_roundw
            case rel => exact ⟨m + 1, by omega, by rw [HN.out]; go_num, by have := HI.out; go_num, hsz2, hR2.congr fun j hj => by rw [← Nat.add_assoc, ← HN.out, HM.pk_skip _ _ _ HB1.out], hW2⟩
            case measure => simp [intOf] <;> omega
        · obtain rfl : m = wd := by omega
          have e0 : ((m : Int) - 1 - m) = -1 := by omega
          rw [e0]
          clear e0
          go_wp2
          go_roundw
          case rel => exact ⟨k + 1, by omega, by go_num, by rw [HO.out], hsz2, by rw [HO.out]; exact hR2, hW2⟩
          case measure => simp [intOf]; omega
    · obtain rfl : k = 10 := by omega
      go_wp2
      go_ret
      exact ⟨_, rfl, by have := hb.size; omega, hR, below_step hb hW⟩
end Go.Proofs.Ytejadoadpgcpjaa
