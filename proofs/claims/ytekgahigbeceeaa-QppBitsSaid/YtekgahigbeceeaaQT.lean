/- The walk of QppBits. Written by gen/qt.py. -/
import Derived.Test.YtekgahigbeceeaaQR
import Derived.Test.YtekgahigbeceeaaStr
namespace Go.Proofs.Ytekgahigbeceeaa
open Go.RowKit

theorem below_drewL {w w' : World} {d : Nat} (h : Below (w.drewN d).heap.size (w.drewN d) w') : Below w.heap.size w w' := (below_drewN (Below.refl _ _) d).trans h
set_option maxRecDepth 100000 in
set_option maxHeartbeats 3200000 in
theorem qppBits_walk (A : Option Addr) (len cap : Nat) (z : Nat → Int) (w : World) (hr : Row w w.heap.size A len (fun j => .int .u8 (z j))) (hm : len ≤ maxLen) :
    Calls Try.prog 9 #[.slice A len cap] w fun e w' => e = .returned (.bool true) ∧ Below w.heap.size w w' := by
  unfold maxLen at hm
  by_cases hbig : 7000 < len
  · go_enter Try.func9, Try.ntmps9
    go_wp2_with (go_at_call 25; refine (works_true _).mono ?_; rintro e w9 ⟨rfl, h9⟩)
    go_ret
    exact ⟨rfl, h9⟩
  have HR := Lib.hid hr
  clear hr
  obtain ⟨i0, hi, hz0, hz1, hz2⟩ := info_parts Try.infoByte
  cases hv : validI (len : Int) with
  | false =>
    have HV := Lib.hid hv
    clear hv
    go_enter Try.func9, Try.ntmps9
    go_wp2_with (first
      | (at_builtin; refine wpList_append_src _ rfl _ _ 22 rfl w.heap.size 5 i0 (.int .u8 0) 1 Try.underlying22 hi hz0 hz1 hz2 rfl _ _ _ rfl (owns_empty w 5) w.heap.size A len cap (fun j => .int .u8 (z j)) rfl (HR.out.alloc (Nat.le_refl _) _) (fun _ => rfl) (by unfold maxLen; omega) (by omega) (by simp) ?_; intro v1 w1 hown1 hg1 hv1; obtain ⟨g0, c0, hv⟩ := own_some hown1 hv1; subst hv; have h1 := copy_below hg1; have r0 := own_row_map hown1; have rl := HR.out.next h1)
      | (go_at_call 34; refine (qbits_bad _ len _ HV.out _).mono ?_; rintro e w2 ⟨rfl, h2⟩; have r0 := r0.next h2; have rl := rl.next h2)
      | (go_at_call 29; refine (reforder_bad len HV.out _).mono ?_; rintro e w3 ⟨rfl, h3⟩; have r0 := r0.next h3; have rl := rl.next h3; have s0 := row_string 22 9 5 Try.underlying22 Try.underlying5 Try.underlying9 r0 c0; have s1 := row_string 22 9 5 Try.underlying22 Try.underlying5 Try.underlying9 rl cap)
      | (go_at_call 24; refine (num_any _ _).mono ?_; rintro e wn ⟨rfl, rfl⟩)
      | (go_at_call 25; refine (works_true _).mono ?_; rintro e w9 ⟨rfl, h9⟩))
    refine wp_loop_rounds 1 ?_
    rw [rounds_succ]
    go_wp2_with (go_at_call 25; refine (works_true _).mono ?_; rintro e w9 ⟨rfl, h9⟩)
    go_ret
    exact ⟨rfl, chain2 (chain3 h1 h2 h3) h9⟩
  | true =>
    rw [validI_nat] at hv
    have hk := (good_facts len hv).1
    have HV := Lib.hid hv
    clear hv
    go_enter Try.func9, Try.ntmps9
    go_wp2_with (first
      | (at_builtin; refine wpList_append_src _ rfl _ _ 22 rfl w.heap.size 5 i0 (.int .u8 0) 1 Try.underlying22 hi hz0 hz1 hz2 rfl _ _ _ rfl (owns_empty w 5) w.heap.size A len cap (fun j => .int .u8 (z j)) rfl (HR.out.alloc (Nat.le_refl _) _) (fun _ => rfl) (by unfold maxLen; omega) (by omega) (by simp) ?_; intro v1 w1 hown1 hg1 hv1; obtain ⟨g0, c0, hv⟩ := own_some hown1 hv1; subst hv; have h1 := copy_below hg1; have r0 := own_row_map hown1; have rl := HR.out.next h1)
      | (go_at_call 34; refine (qbits_good len HV.out _ c0 w1.heap.size z _ r0 (Nat.le_refl _)).mono ?_; rintro e w2 ⟨g2, c2, rfl, _, r2, h2⟩; have r0 := r0.next h2; have rl := rl.next h2)
      | (go_at_call 29; refine (reforder_good len HV.out _).mono ?_; rintro e w3 ⟨g3, c3, rfl, _, r3, h3⟩; have r0 := r0.next h3; have rl := rl.next h3; have r2 := r2.next h3; have s0 := row_string 22 9 5 Try.underlying22 Try.underlying5 Try.underlying9 r0 c0; have s1 := row_string 22 9 5 Try.underlying22 Try.underlying5 Try.underlying9 rl cap)
      | (go_at_call 24; refine (num_any _ _).mono ?_; rintro e wn ⟨rfl, rfl⟩)
      | (go_at_call 25; refine (works_true _).mono ?_; rintro e w9 ⟨rfl, h9⟩))
    have H0 := Lib.hid r0
    have HL := Lib.hid rl
    have H2 := Lib.hid r2
    have H3 := Lib.hid r3
    clear r0 rl r2 r3 s0 s1
    go_loopw [8] (fun v wr => ∃ i : Nat, i ≤ len ∧ v = .int .i64 i ∧ ∃ d, wr = w3.drewN d) (fun v _ => len - (intOf v).toNat)
    case atStart => exact ⟨0, Nat.zero_le _, rfl, 0, rfl⟩
    case round =>
      obtain ⟨i, hi, rfl, d, rfl⟩ := hrel
      by_cases hlt : i < len
      · obtain ⟨b, o, rfl, _, hc⟩ := HL.out (by omega)
        obtain ⟨_, _, e2, _, hc2⟩ := H2.out (by omega)
        injection e2 with e2
        injection e2 with e2 e2'
        subst e2 e2'
        obtain ⟨_, _, e3, _, hc3⟩ := H3.out (by omega)
        injection e3 with e3
        injection e3 with e3 e3'
        subst e3 e3'
        have hpl := pi_lt len i (by omega)
        have q2 : w3.cell? ⟨g2, i, none⟩ = some (.int .u8 (z (pi len i))) := by simpa using hc2 i hlt
        have q3 : w3.cell? ⟨g3, i, none⟩ = some (.int .i64 (pi len i : Nat)) := by simpa using hc3 i hlt
        have q1 : w3.cell? ⟨b, o + pi len i, none⟩ = some (.int .u8 (z (pi len i))) := hc _ hpl
        obtain ⟨p, hp⟩ : ∃ p, p = pi len i := ⟨_, rfl⟩
        rw [← hp] at q1 q2 q3 hpl
        have e0 : (z p != z p) = false := by simp
        have g1 : (0 : Int) ≤ (i : Int) := by omega
        have g2' : (i : Int) < (len : Int) := by omega
        have g3' : (0 : Int) ≤ (p : Int) := by omega
        have g4' : (p : Int) < (len : Int) := by omega
        clear hc hc2 hc3 hp
        go_wp2
        go_quiet (fail)
        go_wp2
        go_roundw
        case rel => exact ⟨i + 1, by omega, by go_num, _, rfl⟩
        case measure => simp [intOf]; omega
      · go_wp2_with (go_at_call 25; refine (works_true _).mono ?_; rintro e w9 ⟨rfl, h9⟩)
        go_ret
        exact ⟨rfl, chain2 (chain3 h1 h2 h3) (below_drewL h9)⟩
end Go.Proofs.Ytekgahigbeceeaa
