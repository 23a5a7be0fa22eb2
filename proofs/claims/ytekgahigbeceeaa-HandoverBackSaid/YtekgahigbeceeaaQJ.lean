/- The laws' helpers of layer 6: num, params, at, works. works answers true. -/
import Derived.Test.YtekgahigbeceeaaQI
namespace Go.Proofs.Ytekgahigbeceeaa
open Go.RowKit

theorem num_any (x : Int) (w : World) : Calls Try.prog 24 #[.int .i64 x] w fun e w' => e = .returned (.int .i64 x) ∧ w = w' := by
  go_enter Try.func24, Try.ntmps24
  go_wp2
  go_ret
  exact ⟨rfl, rfl⟩
theorem params_ok (k a b : Nat) (hv : QM.valid k = true) (ha : QM.f1 k = a) (hb : QM.f2 k = b) (w : World) :
    Calls Try.prog 50 #[.int .i64 k, .int .i64 a, .int .i64 b] w fun e w' => e = .returned (.bool true) ∧ Below w.heap.size w w' := by
  have HA := Lib.hid ha
  have HB := Lib.hid hb
  clear ha hb
  go_enter Try.func50, Try.ntmps50
  go_wp2_with (first
    | (go_at_call 21; refine (params_good k hv _).mono ?_; rintro e w1 ⟨rfl, hb1⟩; rw [HA.out, HB.out])
    | (go_at_call 24; refine (num_any _ _).mono ?_; rintro e w2 ⟨rfl, rfl⟩))
  go_ret
  exact ⟨rfl, hb1⟩
theorem at_ok (k i p : Nat) (hv : QM.valid k = true) (hi : i < k) (hp : pi k i = p) (w : World) :
    Calls Try.prog 51 #[.int .i64 k, .int .i64 i, .int .i64 p] w fun e w' => e = .returned (.bool true) ∧ Below w.heap.size w w' := by
  have HP := Lib.hid hp
  clear hp
  go_enter Try.func51, Try.ntmps51
  go_wp2_with (first
    | (go_at_call 23; refine (pat_good k i hv hi _).mono ?_; rintro e w1 ⟨rfl, hb1⟩; rw [HP.out])
    | (go_at_call 24; refine (num_any _ _).mono ?_; rintro e w2 ⟨rfl, rfl⟩))
  go_ret
  exact ⟨rfl, hb1⟩

theorem v40 : QM.valid 40 = true := by decide +kernel
theorem v48 : QM.valid 48 = true := by decide +kernel
theorem v6144 : QM.valid 6144 = true := by decide +kernel
def TrueBelow (w : World) (e : Ending) (w' : World) : Prop := e = .returned (.bool true) ∧ Below w.heap.size w w'
theorem pw1 (w : World) : Calls Try.prog 50 #[.int .i64 40, .int .i64 3, .int .i64 10] w (TrueBelow w) := params_ok 40 3 10 v40 (by decide +kernel) (by decide +kernel) w
theorem pw2 (w : World) : Calls Try.prog 50 #[.int .i64 48, .int .i64 5, .int .i64 6] w (TrueBelow w) := params_ok 48 5 6 v48 (by decide +kernel) (by decide +kernel) w
theorem pw3 (w : World) : Calls Try.prog 50 #[.int .i64 6144, .int .i64 5, .int .i64 6] w (TrueBelow w) := params_ok 6144 5 6 v6144 (by decide +kernel) (by decide +kernel) w
theorem aw1 (w : World) : Calls Try.prog 51 #[.int .i64 40, .int .i64 1, .int .i64 13] w (TrueBelow w) := at_ok 40 1 13 v40 (by decide) (by decide +kernel) w
theorem aw2 (w : World) : Calls Try.prog 51 #[.int .i64 40, .int .i64 2, .int .i64 6] w (TrueBelow w) := at_ok 40 2 6 v40 (by decide) (by decide +kernel) w
theorem aw3 (w : World) : Calls Try.prog 51 #[.int .i64 40, .int .i64 39, .int .i64 7] w (TrueBelow w) := at_ok 40 39 7 v40 (by decide) (by decide +kernel) w
theorem fw1 (w : World) : Calls Try.prog 32 #[.int .i64 40, .int .i64 4] w fun e w' => e = .returned (.tuple #[.bool true, .int .i64 0]) ∧ Below w.heap.size w w' := free_good 40 4 v40 (by decide) (by decide) w
theorem fw2 (w : World) : Calls Try.prog 32 #[.int .i64 40, .int .i64 3] w fun e w' => e = .returned (.tuple #[.bool false, .int .i64 2]) ∧ Below w.heap.size w w' := free_not 40 3 v40 (by decide) (by decide) w
theorem pq1 (w : World) : Calls Try.prog 21 #[.int .i64 41] w fun e w' => e = .returned (.tuple #[.int .i64 0, .int .i64 0, .int .i64 2]) ∧ Below w.heap.size w w' := params_bad 41 (by decide) w
theorem aq1 (w : World) : Calls Try.prog 23 #[.int .i64 40, .int .i64 40] w fun e w' => e = .returned (.tuple #[.int .i64 0, .int .i64 6]) ∧ Below w.heap.size w w' := pat_out 40 40 v40 (by decide) w
theorem ow1 (w : World) : Calls Try.prog 27 #[.int .i64 40] w fun e w' => ∃ g cap, e = .returned (.tuple #[.slice (some ⟨g, 0, none⟩) 40 cap, .int .i64 0]) ∧ g < w'.heap.size ∧ w'.cell? ⟨g, 0, none⟩ = some (.int .i64 0) ∧ w'.cell? ⟨g, 1, none⟩ = some (.int .i64 13) ∧ w'.cell? ⟨g, 2, none⟩ = some (.int .i64 6) ∧ Below w.heap.size w w' :=
  (order_good 40 v40 w).mono fun e w' ⟨g, cap, he, hg, hR, hb⟩ => by
    obtain ⟨b, o, e0, hlt, hc⟩ := hR (by decide)
    injection e0 with e0
    injection e0 with e0 e1
    subst e0 e1
    have p0 : pi 40 0 = 0 := by decide +kernel
    have p1 : pi 40 1 = 13 := by decide +kernel
    have p2 : pi 40 2 = 6 := by decide +kernel
    have h0 := hc 0 (by decide)
    have h1 := hc 1 (by decide)
    have h2 := hc 2 (by decide)
    simp only [p0, p1, p2, Nat.zero_add] at h0 h1 h2
    exact ⟨g, cap, he, hlt, h0, h1, h2, hb⟩
theorem iw1 (w : World) : Calls Try.prog 28 #[.int .i64 40] w fun e w' => ∃ g cap, e = .returned (.tuple #[.slice (some ⟨g, 0, none⟩) 40 cap, .int .i64 0]) ∧ g < w'.heap.size ∧ w'.cell? ⟨g, 13, none⟩ = some (.int .i64 1) ∧ Below w.heap.size w w' :=
  (inverse_good 40 v40 w).mono fun e w' ⟨g, cap, he, hg, hR, hb⟩ => by
    obtain ⟨b, o, e0, hlt, hc⟩ := hR (by decide)
    injection e0 with e0
    injection e0 with e0 e1
    subst e0 e1
    have p0 : cont (pi 40) (fun i => (i : Nat)) 40 13 = 1 := by decide +kernel
    have h0 := hc 13 (by decide)
    simp only [p0, Nat.zero_add] at h0
    exact ⟨g, cap, he, hlt, h0, hb⟩

set_option maxRecDepth 100000 in
set_option maxHeartbeats 1600000 in
theorem works_true (w : World) : Calls Try.prog 25 #[] w (TrueBelow w) := by
  go_enter Try.func25, Try.ntmps25
  go_wp2_with (first
    | (go_at_call 21; refine (pq1 _).mono ?_; rintro e w1 ⟨rfl, h1⟩)
    | (go_at_call 23; refine (aq1 _).mono ?_; rintro e w2 ⟨rfl, h2⟩)
    | (go_at_call 27; refine (ow1 _).mono ?_; rintro e w3 ⟨g, cap, rfl, hg, c0, c1, c2, h3⟩)
    | (go_at_call 28; refine (iw1 _).mono ?_; rintro e w4 ⟨g', cap', rfl, hg', c3, h4⟩))
  have hgw : g < w4.heap.size := Nat.lt_of_lt_of_le hg h4.size
  have H : Hid (∀ w', Below w4.heap.size w4 w' → w'.cell? ⟨g, 0, none⟩ = some (.int .i64 0) ∧ w'.cell? ⟨g, 1, none⟩ = some (.int .i64 13) ∧ w'.cell? ⟨g, 2, none⟩ = some (.int .i64 6) ∧ w'.cell? ⟨g', 13, none⟩ = some (.int .i64 1)) := by
    intro w' hb
    have hk : ∀ o, w'.cell? ⟨g, o, none⟩ = w3.cell? ⟨g, o, none⟩ := fun o => (hb.cell (p := ⟨g, o, none⟩) hgw).trans (h4.cell (p := ⟨g, o, none⟩) hg)
    exact ⟨(hk 0).trans c0, (hk 1).trans c1, (hk 2).trans c2, (hb.cell (p := ⟨g', 13, none⟩) hg').trans c3⟩
  have hw4 : Below w.heap.size w w4 := ((h1.trans (h2.mono h1.size)).trans (h3.mono (Nat.le_trans h1.size h2.size))).trans (h4.mono (Nat.le_trans h1.size (Nat.le_trans h2.size h3.size)))
  have hch := Below.refl w4.heap.size w4
  clear h1 h2 h3 h4 c0 c1 c2 c3 hg hg' hgw
  go_wp2_with (first
    | (go_at_call 32; ((with_reducible refine (fw1 _).mono ?_); rintro e wn ⟨rfl, hn⟩; have hch := hch.trans (hn.mono hch.size); obtain ⟨k0, k1, k2, k3⟩ := H.out _ hch))
    | (go_at_call 32; ((with_reducible refine (fw2 _).mono ?_); rintro e wn ⟨rfl, hn⟩; have hch := hch.trans (hn.mono hch.size); obtain ⟨k0, k1, k2, k3⟩ := H.out _ hch))
    | (go_at_call 50; ((with_reducible refine (pw1 _).mono ?_); rintro e wn ⟨rfl, hn⟩; have hch := hch.trans (hn.mono hch.size); obtain ⟨k0, k1, k2, k3⟩ := H.out _ hch))
    | (go_at_call 50; ((with_reducible refine (pw2 _).mono ?_); rintro e wn ⟨rfl, hn⟩; have hch := hch.trans (hn.mono hch.size); obtain ⟨k0, k1, k2, k3⟩ := H.out _ hch))
    | (go_at_call 50; ((with_reducible refine (pw3 _).mono ?_); rintro e wn ⟨rfl, hn⟩; have hch := hch.trans (hn.mono hch.size); obtain ⟨k0, k1, k2, k3⟩ := H.out _ hch))
    | (go_at_call 51; ((with_reducible refine (aw1 _).mono ?_); rintro e wn ⟨rfl, hn⟩; have hch := hch.trans (hn.mono hch.size); obtain ⟨k0, k1, k2, k3⟩ := H.out _ hch))
    | (go_at_call 51; ((with_reducible refine (aw2 _).mono ?_); rintro e wn ⟨rfl, hn⟩; have hch := hch.trans (hn.mono hch.size); obtain ⟨k0, k1, k2, k3⟩ := H.out _ hch))
    | (go_at_call 51; ((with_reducible refine (aw3 _).mono ?_); rintro e wn ⟨rfl, hn⟩; have hch := hch.trans (hn.mono hch.size); obtain ⟨k0, k1, k2, k3⟩ := H.out _ hch))
    | (go_at_call 24; refine (num_any _ _).mono ?_; rintro e wn ⟨rfl, rfl⟩))
  go_ret
  exact ⟨rfl, hw4.trans (hch.mono hw4.size)⟩
end Go.Proofs.Ytekgahigbeceeaa
