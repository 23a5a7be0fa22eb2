/- The walk of QppInterleaves. -/
import Derived.Test.YtekgahigbeceeaaQP
namespace Go.Proofs.Ytekgahigbeceeaa
open Go.RowKit

theorem isRow_row {k : IntKind} {w : World} {a : Option Addr} {len cap : Nat} {zs : List Int} (h : IsRow k w a len cap zs) : Row w w.heap.size a len (fun j => .int k (zs.getD j 0)) := by
  intro hn
  rcases h with ⟨_, h0, _⟩ | ⟨⟨b, off, spot⟩, rfl, hl, hm, hz, hc, _⟩
  · omega
  · have c0 := hc 0 (by omega)
    have hspot : spot = none := by simpa [Addr.add] using World.cell?_spot c0
    subst hspot
    have hadd : ∀ j, (⟨b, off, none⟩ : Addr).add j = ⟨b, off + j, none⟩ := fun j => by unfold Addr.add; split <;> simp_all
    refine ⟨b, off, rfl, ?_, fun j hj => ?_⟩
    · rw [hadd] at c0
      exact World.block_lt_of_cell? w _ c0
    · have := hc j (by omega)
      rw [hadd] at this
      exact this

theorem isRow_len {k : IntKind} {w : World} {a : Option Addr} {len cap : Nat} {zs : List Int} (h : IsRow k w a len cap zs) : len ≤ maxLen := by
  rcases h with ⟨_, h0, _⟩ | ⟨x, _, hl, hm, _⟩ <;> unfold maxLen at * <;> omega
theorem owns_empty (w : World) (e : TypeId) : (w.alloc (.cells #[] e)).ownsRow w.heap.size e 1 (.slice (some ⟨w.heap.size, 0, none⟩) 0 0) 0 [] :=
  World.ownsRow_made w #[] 0 (Nat.le_refl _) (by unfold maxLen; omega) rfl
theorem own_some {w w0 : World} {base e n b : Nat} {v : Value} {xs : List Value} (h : w.ownsRow base e 1 v n xs) (hv : v.ownBlock = (Value.slice (some ⟨b, 0, none⟩) 0 0).ownBlock ∨ v.ownBlock = some w0.heap.size) : ∃ g cap, v = .slice (some ⟨g, 0, none⟩) n cap := by
  rcases h.2 with ⟨rfl, _⟩ | ⟨g, cap, cur, hv, _⟩
  · simp [Value.ownBlock] at hv
  · exact ⟨g, cap, hv⟩
theorem copy_below {w w1 : World} {e : TypeId} (h : (w.alloc (.cells #[] e)).grownBy w1 (Value.slice (some ⟨w.heap.size, 0, none⟩) 0 0).ownBlock) : Below w.heap.size w w1 :=
  ((Below.refl w.heap.size w).alloc (Nat.le_refl _) _).grown h (by simp) fun k hk => by
    have : w.heap.size = k := by simpa [Value.ownBlock] using hk
    omega
theorem own_row_map {w : World} {base e g n cap : Nat} {v : Nat → Value} (h : w.ownsRow base e 1 (.slice (some ⟨g, 0, none⟩) (0 + n) cap) (0 + n) ([] ++ (List.range n).map v)) : Row w w.heap.size (some ⟨g, 0, none⟩) n v := by
  rw [Nat.zero_add] at h
  exact own_row h (fun j hj => by simp [hj]) (by have := h.lt g (by simp [Value.ownBlock]); omega)

set_option maxRecDepth 100000 in
set_option maxHeartbeats 3200000 in
theorem qppInterleaves_walk (A : Option Addr) (len cap : Nat) (z : Nat → Int) (w : World) (hr : Row w w.heap.size A len (fun j => .int .i64 (z j))) (hm : len ≤ maxLen) :
    Calls Try.prog 10 #[.slice A len cap] w fun e w' => e = .returned (.bool true) ∧ Below w.heap.size w w' := by
  unfold maxLen at hm
  by_cases hbig : 7000 < len
  · go_enter Try.func10, Try.ntmps10
    go_wp2_with (go_at_call 25; refine (works_true _).mono ?_; rintro e w9 ⟨rfl, h9⟩)
    go_ret
    exact ⟨rfl, h9⟩
  have HR := Lib.hid hr
  clear hr
  obtain ⟨i0, hi, hz0, hz1, hz2⟩ := info_parts Try.infoInt
  cases hv : validI (len : Int) with
  | false =>
    have HV := Lib.hid hv
    clear hv
    go_enter Try.func10, Try.ntmps10
    go_wp2_with (first
      | (at_builtin; refine wpList_append_src _ rfl _ _ 53 rfl w.heap.size 3 i0 (.int .i64 0) 8 Try.underlying53 hi hz0 hz1 hz2 rfl _ _ _ rfl (owns_empty w 3) w.heap.size A len cap (fun j => .int .i64 (z j)) rfl (HR.out.alloc (Nat.le_refl _) _) (fun _ => rfl) (by unfold maxLen; omega) (by omega) (by simp) ?_; intro v1 w1 hown1 hg1 hv1; obtain ⟨g0, c0, hv⟩ := own_some hown1 hv1; subst hv; have h1 := copy_below hg1; have r0 := own_row_map hown1; have rl := HR.out.next h1)
      | (go_at_call 35; refine (interleave_bad _ len _ HV.out _).mono ?_; rintro e w2 ⟨rfl, h2⟩)
      | (go_at_call 36; refine (deinterleave_bad _ len _ HV.out _).mono ?_; rintro e w3 ⟨rfl, h3⟩)
      | (go_at_call 37; refine (refinter_bad _ len _ HV.out _).mono ?_; rintro e w4 ⟨rfl, h4⟩)
      | (go_at_call 38; refine (refdeinter_bad _ len _ HV.out _).mono ?_; rintro e w5 ⟨⟨g5, c5, rfl⟩, h5⟩; have r0 := (((r0.next h2).next h3).next h4).next h5; have rl := (((rl.next h2).next h3).next h4).next h5; have ch := chain2 (chain3 h1 h2 h3) (chain2 h4 h5))
      | (go_at_call 31; refine (same_nil _ _ _ _ _).mono ?_; rintro e w6 ⟨rfl, h6⟩; have r0 := r0.next h6; have rl := rl.next h6; have ch := chain2 ch h6))
    go_wp2_with (first
      | (go_at_call 31; ((with_reducible refine (same_true len (some ⟨g0, 0, none⟩) A c0 cap _ z z _ (by omega) r0 rl (fun _ _ => rfl)).mono ?_); rintro e w8 ⟨rfl, h8⟩; have ch := chain2 ch h8))
      | (go_at_call 24; refine (num_any _ _).mono ?_; rintro e wn ⟨rfl, rfl⟩)
      | (go_at_call 25; refine (works_true _).mono ?_; rintro e w9 ⟨rfl, h9⟩))
    go_ret
    exact ⟨rfl, chain2 ch h9⟩
  | true =>
    rw [validI_nat] at hv
    have HV := Lib.hid hv
    clear hv
    go_enter Try.func10, Try.ntmps10
    go_wp2_with (first
      | (at_builtin; refine wpList_append_src _ rfl _ _ 53 rfl w.heap.size 3 i0 (.int .i64 0) 8 Try.underlying53 hi hz0 hz1 hz2 rfl _ _ _ rfl (owns_empty w 3) w.heap.size A len cap (fun j => .int .i64 (z j)) rfl (HR.out.alloc (Nat.le_refl _) _) (fun _ => rfl) (by unfold maxLen; omega) (by omega) (by simp) ?_; intro v1 w1 hown1 hg1 hv1; obtain ⟨g0, c0, hv⟩ := own_some hown1 hv1; subst hv; have h1 := copy_below hg1; have r0 := own_row_map hown1; have rl := HR.out.next h1)
      | (go_at_call 35; refine (interleave_good len HV.out _ c0 w1.heap.size z _ r0 (Nat.le_refl _)).mono ?_; rintro e w2 ⟨g2, c2, rfl, _, r2, h2⟩; have r0 := r0.next h2; have rl := rl.next h2)
      | (go_at_call 36; refine (deinterleave_good len HV.out _ c0 w2.heap.size z _ r0 (Nat.le_refl _)).mono ?_; rintro e w3 ⟨g3, c3, rfl, _, r3, h3⟩; have r0 := r0.next h3; have rl := rl.next h3; have r2 := r2.next h3)
      | (go_at_call 37; refine (refinter_good len HV.out A cap w3.heap.size z _ rl (Nat.le_refl _)).mono ?_; rintro e w4 ⟨g4, c4, rfl, _, r4, h4⟩; have r0 := r0.next h4; have rl := rl.next h4; have r2 := r2.next h4; have r3 := r3.next h4)
      | (go_at_call 38; refine (refdeinter_good len HV.out A cap w4.heap.size z _ rl (Nat.le_refl _)).mono ?_; rintro e w5 ⟨g5, c5, rfl, _, r5, h5⟩; have r0 := r0.next h5; have rl := rl.next h5; have r2 := r2.next h5; have r3 := r3.next h5; have r4 := r4.next h5; have ch := chain2 (chain3 h1 h2 h3) (chain2 h4 h5))
      | (go_at_call 31; ((with_reducible refine (same_true len (some ⟨g2, 0, none⟩) (some ⟨g4, 0, none⟩) c2 c4 w5.heap.size (fun i => z (pi len i)) (fun i => z (pi len i)) w5 (by omega) r2 r4 (fun _ _ => rfl)).mono ?_); rintro e w6 ⟨rfl, h6⟩; have r0 := r0.next h6; have rl := rl.next h6; have r3 := r3.next h6; have r5 := r5.next h6))
      | (go_at_call 31; ((with_reducible refine (same_true len (some ⟨g3, 0, none⟩) (some ⟨g5, 0, none⟩) c3 c5 w6.heap.size (cont (pi len) z len) (cont (pi len) z len) w6 (by omega) r3 r5 (fun _ _ => rfl)).mono ?_); rintro e w7 ⟨rfl, h7⟩; have r0 := r0.next h7; have rl := rl.next h7))
      | (go_at_call 31; ((with_reducible refine (same_true len (some ⟨g0, 0, none⟩) A c0 cap w7.heap.size z z w7 (by omega) r0 rl (fun _ _ => rfl)).mono ?_); rintro e w8 ⟨rfl, h8⟩; have ch := chain3 (chain3 ch h6 h7) h8 (Below.refl _ _)))
      | (go_at_call 24; refine (num_any _ _).mono ?_; rintro e wn ⟨rfl, rfl⟩)
      | (go_at_call 25; refine (works_true _).mono ?_; rintro e w9 ⟨rfl, h9⟩))
    go_ret
    exact ⟨rfl, chain2 ch h9⟩
end Go.Proofs.Ytekgahigbeceeaa
