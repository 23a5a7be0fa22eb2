/- The walk of HeaderBuilds. -/
import Derived.Test.YtejadoadpgcpjaaFJ
import Derived.Deep.RegionWith
import Derived.Deep.DeepCutAuto
import Derived.Deep.CutRange
import Derived.Deep.CutBlock
namespace Go.Proofs.Ytejadoadpgcpjaa
open Go.RowKit

attribute [local go_sem ↓] Go.wp_at_zero Go.wp_at_succ

/-- the error and the length of Build -/
def bErr (h : Nat → Int) (n : Nat) : Int := if validB (withLen h (20 + n)) = true then 0 else 2
def bLen (h : Nat → Int) (n : Nat) : Nat := if validB (withLen h (20 + n)) = true then 20 + n else 0
def BuildAny (h : Nat → Int) (z : Nat → Int) (n : Nat) (w : World) (e : Ending) (w' : World) : Prop :=
  ∃ A c, e = .returned (.tuple #[.slice A (bLen h n : Nat) c, .int .i64 (bErr h n)]) ∧ bLen h n ≤ c ∧ Row w' w'.heap.size A (bLen h n) (fun j => .int .u8 (pktAt (withLen h (20 + n)) z j)) ∧ Fresh w.heap.size A ∧ Below w.heap.size w w'
theorem buildAny_good {h : Nat → Int} {z : Nat → Int} {n : Nat} {w : World} {e : Ending} {w' : World} (hv : validB (withLen h (20 + n)) = true) (H : BuildEnd h z n w e w') : BuildAny h z n w e w' := by
  obtain ⟨A, c, rfl, hc, ho, hb⟩ := H
  have hl : bLen h n = 20 + n := if_pos hv
  have he : bErr h n = 0 := if_pos hv
  exact ⟨A, c, by rw [hl, he], by omega, by rw [hl]; exact (own_map_row ho).2, (own_map_row ho).1, hb⟩
theorem buildAny_bad {h : Nat → Int} {z : Nat → Int} {n : Nat} {w : World} {e : Ending} {w' : World} (hv : validB (withLen h (20 + n)) = false) (H : e = .returned (.tuple #[.slice none 0 0, .int .i64 2]) ∧ Below w.heap.size w w') : BuildAny h z n w e w' := by
  obtain ⟨rfl, hb⟩ := H
  have hl : bLen h n = 0 := if_neg (by rw [hv]; decide)
  have he : bErr h n = 2 := if_neg (by rw [hv]; decide)
  exact ⟨none, 0, by rw [hl, he], by omega, by rw [hl]; exact Row.nil, fresh_none _, hb⟩
theorem build_any (h : Nat → Int) (A : Option Addr) (n c : Nat) (z : Nat → Int) (hn : n ≤ 1000000) (w : World) (hr : Row w w.heap.size A n (fun j => .int .u8 (z j))) :
    Calls Try.prog 19 #[.agg (hdr h), .slice A n c] w (BuildAny h z n w) := by
  by_cases hv : validB (withLen h (20 + n)) = true
  · exact (build_good h A n c z hn hv w hr).mono fun _ _ H => buildAny_good hv H
  · have hv2 : validB (withLen h (20 + n)) = false := by simpa using hv
    exact (build_bad h A n c hn hv2 w).mono fun _ _ H => buildAny_bad hv2 H
theorem rbuild_any (h : Nat → Int) (A : Option Addr) (n c : Nat) (z : Nat → Int) (hn : n ≤ 1000000) (w : World) (hr : Row w w.heap.size A n (fun j => .int .u8 (z j))) :
    Calls Try.prog 20 #[.agg (hdr h), .slice A n c] w (BuildAny h z n w) := by
  by_cases hv : validB (withLen h (20 + n)) = true
  · exact (rbuild_good h A n c z hn hv w hr).mono fun _ _ H => buildAny_good hv H
  · have hv2 : validB (withLen h (20 + n)) = false := by simpa using hv
    exact (rbuild_bad h A n c hn hv2 w).mono fun _ _ H => buildAny_bad hv2 H
theorem bLen_le (h : Nat → Int) (n : Nat) : bLen h n ≤ 20 + n := by unfold bLen; split <;> omega

set_option maxRecDepth 100000 in
set_option maxHeartbeats 3200000 in
theorem builds_walk (h : Nat → Int) (A : Option Addr) (n c : Nat) (z : Nat → Int) (w : World) (hm : n ≤ maxLen) (hr : Row w w.heap.size A n (fun j => .int .u8 (z j))) :
    Calls Try.prog 4 #[.agg (hdr h), .slice A n c] w fun e w' => e = .returned (.bool true) ∧ Below w.heap.size w w' := by
  unfold maxLen at hm
  have HH := Lib.hid (Blk.new w 25 (hdr h))
  by_cases hbig : 300 < n
  · unfold hdr
    clear hr
    go_enter Try.func4, Try.ntmps4
    go_wp2_with (go_at_call 15; refine (works_true _).mono ?_; rintro e w9 ⟨rfl, h9⟩)
    go_ret
    exact ⟨rfl, ((Below.refl _ w).alloc (Nat.le_refl _) _).trans (h9.mono (by simp))⟩
  · have HR := Lib.hid hr
    have hle : n ≤ 300 := by omega
    have HB := Lib.hid (fun (W : World) (hR : Row W W.heap.size A n (fun j => .int .u8 (z j))) => build_any h A n c z (by omega) W hR)
    have HRB := Lib.hid (fun (W : World) (hR : Row W W.heap.size A n (fun j => .int .u8 (z j))) => rbuild_any h A n c z (by omega) W hR)
    have HV := Lib.hid (fun W => valid_ok h W)
    have HRV := Lib.hid (fun W => rvalid_ok h W)
    have hbl := bLen_le h n
    unfold BuildAny at HB HRB
    obtain ⟨L, hL⟩ : ∃ L, L = bLen h n := ⟨_, rfl⟩
    obtain ⟨E, hE⟩ : ∃ E, E = bErr h n := ⟨_, rfl⟩
    obtain ⟨Y, hY⟩ : ∃ Y : Nat → Int, Y = pktAt (withLen h (20 + n)) z := ⟨_, rfl⟩
    rw [← hL, ← hE] at HB HRB
    rw [← hL] at hbl
    rw [← hY] at HB HRB
    clear hL hE hY hr
    by_cases hv : validB h = true
    · have HE := Lib.hid (fun W => encode_good h hv W)
      have HBy := Lib.hid (fun W => bytes42_ok h (by unfold validB at hv; simp at hv; exact hv.1.1) W)
      unfold EncEnd at HE
      unfold BytesEnd at HBy
      rw [hv] at HV HRV
      obtain ⟨Q, hQ⟩ : ∃ Q : Nat → Int, Q = fun j => ((HM.pk (hdrBits h) 160 j : Nat) : Int) := ⟨_, rfl⟩
      have HE2 : Hid (∀ W, Calls Try.prog 21 #[.agg (hdr h)] W fun e w' => ∃ A c, e = .returned (.tuple #[.slice A 20 c, .int .i64 0]) ∧ Row w' w'.heap.size A 20 (fun j => .int .u8 (Q j)) ∧ Below W.heap.size W w') :=
        Lib.hid fun W => (HE.out W).mono fun e w' ⟨A, c, he, _, ho, hb⟩ => ⟨A, c, he, by rw [hQ]; exact (own_map_row ho).2, hb⟩
      have HBy2 : Hid (∀ W, Calls Try.prog 24 #[.agg (hdr h)] W fun e w' => ∃ A c, e = .returned (.slice A 20 c) ∧ Row w' w'.heap.size A 20 (fun j => .int .u8 (Q j)) ∧ Below W.heap.size W w') :=
        Lib.hid fun W => (HBy.out W).mono fun e w' ⟨g, he, _, ho, hb⟩ => ⟨_, _, he, by rw [hQ]; exact (own_map_row (rowIs_own (base := 0) ho (Nat.zero_le _) (by decide))).2, hb⟩
      clear hQ hv HE HBy
      unfold hdr at HH HB HRB HV HRV HE2 HBy2 ⊢
      go_enter Try.func4, Try.ntmps4
      go_upto_region 6 with (first
        | (go_at_call 19; refine (HB.out _ (row_new HR.out _)).mono ?_; rintro e w1 ⟨A1, c1, rfl, _, r1, _, b1⟩; have R1 := Lib.hid r1; have HB1 := Lib.hid (((Below.refl _ w).alloc (Nat.le_refl _) _).trans (b1.mono (by simp)) : Below w.heap.size w w1); have HK1 := Lib.hid (HH.out.below b1 (by simp)); have HR1 := Lib.hid ((row_new HR.out _).next b1); clear r1 b1; obtain ⟨qa0, qa1, qa2, qa3, qa4, qa5, qa6, qa7, qa8⟩ := HK1.out.nine)
        | (go_at_call 20; refine (HRB.out _ HR1.out).mono ?_; rintro e w2 ⟨A2, c2, rfl, _, r2, _, b2⟩; have R2 := Lib.hid r2; have R1b := Lib.hid (R1.out.next b2); have HB2 := Lib.hid (below_step HB1.out b2); have HK2 := Lib.hid (HK1.out.below b2 HK1.out.lt); clear r2 b2; obtain ⟨qb0, qb1, qb2, qb3, qb4, qb5, qb6, qb7, qb8⟩ := HK2.out.nine)
        | (go_at_call 21; refine (HE2.out _).mono ?_; rintro e w3 ⟨A3, c3, rfl, r3, b3⟩; have R3 := Lib.hid r3; have R1c := Lib.hid (R1b.out.next b3); have R2b := Lib.hid (R2.out.next b3); have HB3 := Lib.hid (below_step HB2.out b3); have HK3 := Lib.hid (HK2.out.below b3 HK2.out.lt); clear r3 b3; obtain ⟨qc0, qc1, qc2, qc3, qc4, qc5, qc6, qc7, qc8⟩ := HK3.out.nine))
      go_cut [49] from 32 to 48 (fun v wx => v = .bool false ∧ Blk wx w.heap.size 25 (hdr h) ∧ Below w.heap.size w wx ∧ Row wx wx.heap.size A3 20 (fun j => .int .u8 (Q j)))
      case first =>
        have s1 := row_string 22 9 5 Try.underlying22 Try.underlying5 Try.underlying9 R1c.out.drew c1
        have s2 := row_string 22 9 5 Try.underlying22 Try.underlying5 Try.underlying9 R2b.out.drew c2
        go_region_held3 (fun w' => w'.cell? ⟨w.heap.size, 0, none⟩ = some (.int .i64 (h 0)) ∧ w'.cell? ⟨w.heap.size, 1, none⟩ = some (.int .i64 (h 1)) ∧ w'.cell? ⟨w.heap.size, 2, none⟩ = some (.int .i64 (h 2)) ∧ w'.cell? ⟨w.heap.size, 3, none⟩ = some (.int .i64 (h 3)) ∧ w'.cell? ⟨w.heap.size, 4, none⟩ = some (.int .i64 (h 4)) ∧ w'.cell? ⟨w.heap.size, 5, none⟩ = some (.int .i64 (h 5)) ∧ w'.cell? ⟨w.heap.size, 6, none⟩ = some (.int .i64 (h 6)) ∧ w'.cell? ⟨w.heap.size, 7, none⟩ = some (.int .i64 (h 7)) ∧ w'.cell? ⟨w.heap.size, 8, none⟩ = some (.int .i64 (h 8)) ∧ (convert 22 9 (.slice A1 L c1)).run Try.prog w' = .ok (.string (bytesOf L Y)) w' ∧ (convert 22 9 (.slice A2 L c2)).run Try.prog w' = .ok (.string (bytesOf L Y)) w') (go_keep)
          (first
          | (go_at_call 18; refine (num_ok _ _).mono ?_; rintro e w0 ⟨rfl, rfl⟩)
          | (go_at_call 22; refine (HV.out _).mono ?_; rintro e w4 ⟨rfl, b4⟩; first | (have HK4 := Lib.hid (HK3.out.drew.below b4 HK3.out.lt); have HB4 := Lib.hid (below_step HB3.out.drew b4); have RA4 := Lib.hid (R1c.out.drew.next b4); have RC4 := Lib.hid (R2b.out.drew.next b4); have t41 := row_string 22 9 5 Try.underlying22 Try.underlying5 Try.underlying9 RA4.out c1; have t42 := row_string 22 9 5 Try.underlying22 Try.underlying5 Try.underlying9 RC4.out c2; have R4 := Lib.hid (R3.out.drew.next b4); clear b4; obtain ⟨qd0, qd1, qd2, qd3, qd4, qd5, qd6, qd7, qd8⟩ := HK4.out.nine) | (have HK4 := Lib.hid (HK5.out.below b4 HK5.out.lt); have HB4 := Lib.hid (below_step HB5.out b4); have RA4 := Lib.hid (RA5.out.next b4); have RC4 := Lib.hid (RC5.out.next b4); have t41 := row_string 22 9 5 Try.underlying22 Try.underlying5 Try.underlying9 RA4.out c1; have t42 := row_string 22 9 5 Try.underlying22 Try.underlying5 Try.underlying9 RC4.out c2; have R4 := Lib.hid (R5.out.next b4); clear b4; obtain ⟨qd0, qd1, qd2, qd3, qd4, qd5, qd6, qd7, qd8⟩ := HK4.out.nine))
          | (go_at_call 23; refine (HRV.out _).mono ?_; rintro e w5 ⟨rfl, b5⟩; first | (have HK5 := Lib.hid (HK3.out.drew.below b5 HK3.out.lt); have HB5 := Lib.hid (below_step HB3.out.drew b5); have RA5 := Lib.hid (R1c.out.drew.next b5); have RC5 := Lib.hid (R2b.out.drew.next b5); have t51 := row_string 22 9 5 Try.underlying22 Try.underlying5 Try.underlying9 RA5.out c1; have t52 := row_string 22 9 5 Try.underlying22 Try.underlying5 Try.underlying9 RC5.out c2; have R5 := Lib.hid (R3.out.drew.next b5); clear b5; obtain ⟨qf0, qf1, qf2, qf3, qf4, qf5, qf6, qf7, qf8⟩ := HK5.out.nine) | (have HK5 := Lib.hid (HK4.out.below b5 HK4.out.lt); have HB5 := Lib.hid (below_step HB4.out b5); have RA5 := Lib.hid (RA4.out.next b5); have RC5 := Lib.hid (RC4.out.next b5); have t51 := row_string 22 9 5 Try.underlying22 Try.underlying5 Try.underlying9 RA5.out c1; have t52 := row_string 22 9 5 Try.underlying22 Try.underlying5 Try.underlying9 RC5.out c2; have R5 := Lib.hid (R4.out.next b5); clear b5; obtain ⟨qf0, qf1, qf2, qf3, qf4, qf5, qf6, qf7, qf8⟩ := HK5.out.nine)))
        all_goals (go_wp2; go_meet; first | exact ⟨by simp, HK5.out, HB5.out, R5.out⟩ | exact ⟨by simp, HK4.out, HB4.out, R4.out⟩)
      case rest =>
        obtain ⟨rfl, hK6, hB6, r6⟩ := hcut
        have HK6 := Lib.hid hK6
        have HB6 := Lib.hid hB6
        have R6 := Lib.hid r6
        clear hK6 hB6 r6
        obtain ⟨qa0, qa1, qa2, qa3, qa4, qa5, qa6, qa7, qa8⟩ := HK6.out.nine
        go_wp2_with (go_at_call 23; refine (HRV.out _).mono ?_; rintro e w7 ⟨rfl, b7⟩; have HK7 := Lib.hid (HK6.out.below b7 HK6.out.lt); have HB7 := Lib.hid (below_step HB6.out b7); have R7 := Lib.hid (R6.out.next b7); clear b7; obtain ⟨qb0, qb1, qb2, qb3, qb4, qb5, qb6, qb7, qb8⟩ := HK7.out.nine; have s7 := row_string 22 9 5 Try.underlying22 Try.underlying5 Try.underlying9 R7.out.drew c3)
        go_region_with (first
          | (go_at_call 18; refine (num_ok _ _).mono ?_; rintro e w0 ⟨rfl, rfl⟩)
          | (go_at_call 24; refine (HBy2.out _).mono ?_; rintro e w8 ⟨A8, c8, rfl, r8, b8⟩; have HK8 := Lib.hid (HK7.out.drew.below b8 HK7.out.lt); have HB8 := Lib.hid (below_step HB7.out.drew b8); have s8 := row_string 22 9 5 Try.underlying22 Try.underlying5 Try.underlying9 r8 c8; have s9 := row_string 22 9 5 Try.underlying22 Try.underlying5 Try.underlying9 (R7.out.drew.next b8) c3; clear r8 b8; obtain ⟨qc0, qc1, qc2, qc3, qc4, qc5, qc6, qc7, qc8⟩ := HK8.out.nine)
          | (go_at_call 15; refine (works_true _).mono ?_; rintro e w9 ⟨rfl, b9⟩; have HK9 := Lib.hid (HK8.out.below b9 HK8.out.lt); have HB9 := Lib.hid (below_step HB8.out b9); clear b9; obtain ⟨qd0, qd1, qd2, qd3, qd4, qd5, qd6, qd7, qd8⟩ := HK9.out.nine))
        all_goals (go_wp2; go_ret; exact ⟨rfl, HB9.out⟩)
    · have hv2 : validB h = false := by simpa using hv
      have HE2 := Lib.hid (fun W => encode_bad h hv2 W)
      rw [hv2] at HV HRV
      clear hv hv2
      unfold hdr at HH HB HRB HV HRV HE2 ⊢
      go_enter Try.func4, Try.ntmps4
      go_upto_region 6 with (first
        | (go_at_call 19; refine (HB.out _ (row_new HR.out _)).mono ?_; rintro e w1 ⟨A1, c1, rfl, _, r1, _, b1⟩; have R1 := Lib.hid r1; have HB1 := Lib.hid (((Below.refl _ w).alloc (Nat.le_refl _) _).trans (b1.mono (by simp)) : Below w.heap.size w w1); have HK1 := Lib.hid (HH.out.below b1 (by simp)); have HR1 := Lib.hid ((row_new HR.out _).next b1); clear r1 b1; obtain ⟨qa0, qa1, qa2, qa3, qa4, qa5, qa6, qa7, qa8⟩ := HK1.out.nine)
        | (go_at_call 20; refine (HRB.out _ HR1.out).mono ?_; rintro e w2 ⟨A2, c2, rfl, _, r2, _, b2⟩; have R2 := Lib.hid r2; have R1b := Lib.hid (R1.out.next b2); have HB2 := Lib.hid (below_step HB1.out b2); have HK2 := Lib.hid (HK1.out.below b2 HK1.out.lt); clear r2 b2; obtain ⟨qb0, qb1, qb2, qb3, qb4, qb5, qb6, qb7, qb8⟩ := HK2.out.nine)
        | (go_at_call 21; refine (HE2.out _).mono ?_; rintro e w3 ⟨rfl, b3⟩; have R1c := Lib.hid (R1b.out.next b3); have R2b := Lib.hid (R2.out.next b3); have HB3 := Lib.hid (below_step HB2.out b3); have HK3 := Lib.hid (HK2.out.below b3 HK2.out.lt); clear b3; obtain ⟨qc0, qc1, qc2, qc3, qc4, qc5, qc6, qc7, qc8⟩ := HK3.out.nine))
      go_cut [49] from 32 to 48 (fun v wx => v = .bool false ∧ Blk wx w.heap.size 25 (hdr h) ∧ Below w.heap.size w wx)
      case first =>
        have s1 := row_string 22 9 5 Try.underlying22 Try.underlying5 Try.underlying9 R1c.out.drew c1
        have s2 := row_string 22 9 5 Try.underlying22 Try.underlying5 Try.underlying9 R2b.out.drew c2
        go_region_held3 (fun w' => w'.cell? ⟨w.heap.size, 0, none⟩ = some (.int .i64 (h 0)) ∧ w'.cell? ⟨w.heap.size, 1, none⟩ = some (.int .i64 (h 1)) ∧ w'.cell? ⟨w.heap.size, 2, none⟩ = some (.int .i64 (h 2)) ∧ w'.cell? ⟨w.heap.size, 3, none⟩ = some (.int .i64 (h 3)) ∧ w'.cell? ⟨w.heap.size, 4, none⟩ = some (.int .i64 (h 4)) ∧ w'.cell? ⟨w.heap.size, 5, none⟩ = some (.int .i64 (h 5)) ∧ w'.cell? ⟨w.heap.size, 6, none⟩ = some (.int .i64 (h 6)) ∧ w'.cell? ⟨w.heap.size, 7, none⟩ = some (.int .i64 (h 7)) ∧ w'.cell? ⟨w.heap.size, 8, none⟩ = some (.int .i64 (h 8)) ∧ (convert 22 9 (.slice A1 L c1)).run Try.prog w' = .ok (.string (bytesOf L Y)) w' ∧ (convert 22 9 (.slice A2 L c2)).run Try.prog w' = .ok (.string (bytesOf L Y)) w') (go_keep)
          (first
          | (go_at_call 18; refine (num_ok _ _).mono ?_; rintro e w0 ⟨rfl, rfl⟩)
          | (go_at_call 22; refine (HV.out _).mono ?_; rintro e w4 ⟨rfl, b4⟩; first | (have HK4 := Lib.hid (HK3.out.drew.below b4 HK3.out.lt); have HB4 := Lib.hid (below_step HB3.out.drew b4); have RA4 := Lib.hid (R1c.out.drew.next b4); have RC4 := Lib.hid (R2b.out.drew.next b4); have t41 := row_string 22 9 5 Try.underlying22 Try.underlying5 Try.underlying9 RA4.out c1; have t42 := row_string 22 9 5 Try.underlying22 Try.underlying5 Try.underlying9 RC4.out c2; clear b4; obtain ⟨qd0, qd1, qd2, qd3, qd4, qd5, qd6, qd7, qd8⟩ := HK4.out.nine) | (have HK4 := Lib.hid (HK5.out.below b4 HK5.out.lt); have HB4 := Lib.hid (below_step HB5.out b4); have RA4 := Lib.hid (RA5.out.next b4); have RC4 := Lib.hid (RC5.out.next b4); have t41 := row_string 22 9 5 Try.underlying22 Try.underlying5 Try.underlying9 RA4.out c1; have t42 := row_string 22 9 5 Try.underlying22 Try.underlying5 Try.underlying9 RC4.out c2; clear b4; obtain ⟨qd0, qd1, qd2, qd3, qd4, qd5, qd6, qd7, qd8⟩ := HK4.out.nine))
          | (go_at_call 23; refine (HRV.out _).mono ?_; rintro e w5 ⟨rfl, b5⟩; first | (have HK5 := Lib.hid (HK3.out.drew.below b5 HK3.out.lt); have HB5 := Lib.hid (below_step HB3.out.drew b5); have RA5 := Lib.hid (R1c.out.drew.next b5); have RC5 := Lib.hid (R2b.out.drew.next b5); have t51 := row_string 22 9 5 Try.underlying22 Try.underlying5 Try.underlying9 RA5.out c1; have t52 := row_string 22 9 5 Try.underlying22 Try.underlying5 Try.underlying9 RC5.out c2; clear b5; obtain ⟨qf0, qf1, qf2, qf3, qf4, qf5, qf6, qf7, qf8⟩ := HK5.out.nine) | (have HK5 := Lib.hid (HK4.out.below b5 HK4.out.lt); have HB5 := Lib.hid (below_step HB4.out b5); have RA5 := Lib.hid (RA4.out.next b5); have RC5 := Lib.hid (RC4.out.next b5); have t51 := row_string 22 9 5 Try.underlying22 Try.underlying5 Try.underlying9 RA5.out c1; have t52 := row_string 22 9 5 Try.underlying22 Try.underlying5 Try.underlying9 RC5.out c2; clear b5; obtain ⟨qf0, qf1, qf2, qf3, qf4, qf5, qf6, qf7, qf8⟩ := HK5.out.nine)))
        all_goals (go_wp2; go_meet; first | exact ⟨by simp, HK5.out, HB5.out⟩ | exact ⟨by simp, HK4.out, HB4.out⟩)
      case rest =>
        obtain ⟨rfl, hK6, hB6⟩ := hcut
        have HK6 := Lib.hid hK6
        have HB6 := Lib.hid hB6
        clear hK6 hB6
        obtain ⟨qa0, qa1, qa2, qa3, qa4, qa5, qa6, qa7, qa8⟩ := HK6.out.nine
        go_wp2_with (first
          | (go_at_call 18; refine (num_ok _ _).mono ?_; rintro e w0 ⟨rfl, rfl⟩)
          | (go_at_call 23; refine (HRV.out _).mono ?_; rintro e w7 ⟨rfl, b7⟩; have HB7 := Lib.hid (below_step HB6.out b7); clear b7)
          | (go_at_call 15; refine (works_true _).mono ?_; rintro e w9 ⟨rfl, b9⟩; have HB9 := Lib.hid (below_step HB7.out b9); clear b9))
        go_ret
        exact ⟨rfl, HB9.out⟩
end Go.Proofs.Ytejadoadpgcpjaa
