/- compress: kind. -/
import Derived.Test.YtejadoadpgcpjaaGX
namespace Go.Proofs.Ytejadoadpgcpjaa
open Go.RowKit

attribute [local go_sem ↓] Go.wp_at_zero Go.wp_at_succ

def kN (x : Rx) (h6 : Int) : Int := (h6 - x.ident) % 65536
def kT (x : Rx) (h7 : Int) : Int := (h7 - x.time) % 16777216
def noKind (x : Rx) (h0 h1 h2 h3 h4 h6 : Int) : Bool := !x.used || (x.need || (!sameFlow x.f0 x.f1 x.f2 x.f3 x.f4 h0 h1 h2 h3 h4 || (decide (kN x h6 < 1) || decide (255 < kN x h6))))
def kindOf (x : Rx) (h0 h1 h2 h3 h4 h5 h6 h7 : Int) : Int :=
  if noKind x h0 h1 h2 h3 h4 h6 then 0
  else if h5 = x.hops ∧ kT x h7 = x.step * kN x h6 % 16777216 then 2
  else if kT x h7 < 65536 then 1 else 0
/-- what a context always holds -/
structure Rx.Ok (x : Rx) : Prop where
  hops : 0 ≤ x.hops ∧ x.hops < 256
  ident : 0 ≤ x.ident ∧ x.ident < 65536
  time : 0 ≤ x.time ∧ x.time < 16777216
  gen : 0 ≤ x.gen ∧ x.gen < 256
  step : 0 ≤ x.step ∧ x.step < 65536

set_option maxRecDepth 100000 in
set_option maxHeartbeats 3200000 in
theorem kind_ok (g i o : Nat) (made : Bool) (S : Nat → Rx) (T : Int) (h0 h1 h2 h3 h4 h5 h6 h7 h8 : Int) (hi : i < 16) (ho : o = 1 + 14 * i) (hok : (S i).Ok) (b6 : 0 ≤ h6 ∧ h6 < 65536) (b7 : 0 ≤ h7 ∧ h7 < 16777216) (w : World) (h : CB w g made S T) :
    Calls Try.prog 65 #[.pointer (some ⟨g, o, none⟩), .agg #[.int .i64 h0, .int .i64 h1, .int .i64 h2, .int .i64 h3, .int .i64 h4, .int .i64 h5, .int .i64 h6, .int .i64 h7, .int .i64 h8]] w fun e w' => e = .returned (.int .i64 (kindOf (S i) h0 h1 h2 h3 h4 h5 h6 h7)) ∧ Below w.heap.size w w' := by
  obtain ⟨x, hx⟩ : ∃ x, x = S i := ⟨_, rfl⟩
  rw [← hx] at hok ⊢
  obtain ⟨oh, oi, ot, og, os⟩ := hok
  have w1 : IntKind.i64.wrap (h6 - x.ident) = h6 - x.ident := IntWalk.i64_in _ (by omega)
  have w2 : IntKind.i64.wrap (h7 - x.time) = h7 - x.time := IntWalk.i64_in _ (by omega)
  have HA := Lib.hid (fun W => apart_ok x.hops x.ident x.time h0 h1 h2 h3 h4 h5 h6 h7 h8 W w1 w2)
  obtain ⟨k, hk⟩ : ∃ k, k = kindOf x h0 h1 h2 h3 h4 h5 h6 h7 := ⟨_, rfl⟩
  rw [← hk]
  unfold kindOf at hk
  obtain ⟨n, hn⟩ : ∃ n, n = kN x h6 := ⟨_, rfl⟩
  obtain ⟨t, ht⟩ : ∃ t, t = kT x h7 := ⟨_, rfl⟩
  obtain ⟨nk, hnk⟩ : ∃ nk, nk = noKind x h0 h1 h2 h3 h4 h6 := ⟨_, rfl⟩
  rw [← hn, ← ht, ← hnk] at hk
  unfold noKind at hnk
  rw [← hn] at hnk
  have n0 : 0 ≤ n ∧ n < 65536 := by rw [hn]; unfold kN; omega
  have t0 : 0 ≤ t ∧ t < 16777216 := by rw [ht]; unfold kT; omega
  have hp0 : 0 ≤ x.step * n := Int.mul_nonneg os.1 n0.1
  have hp1 : x.step * n ≤ 65536 * 65536 := Int.mul_le_mul (by omega) (by omega) n0.1 (by decide)
  obtain ⟨p, hp⟩ : ∃ p, p = x.step * n := ⟨_, rfl⟩
  rw [← hp] at hk hp0 hp1
  have kw : IntKind.i64.wrap (x.step * n) = p := by rw [← hp]; exact IntWalk.i64_in _ (by omega)
  have kb := and_low24 p
  have hA2 : Hid (∀ W : World, Calls Try.prog 93 #[.agg #[.int .i64 x.hops, .int .i64 x.ident, .int .i64 x.time], .agg #[.int .i64 h0, .int .i64 h1, .int .i64 h2, .int .i64 h3, .int .i64 h4, .int .i64 h5, .int .i64 h6, .int .i64 h7, .int .i64 h8]] W fun e w' => e = .returned (.tuple #[.int .i64 n, .int .i64 t]) ∧ Below W.heap.size W w') := by rw [hn, ht]; exact HA
  have hneq := flow_neq x.f0 x.f1 x.f2 x.f3 x.f4 h0 h1 h2 h3 h4
  obtain ⟨sf, hsf⟩ : ∃ sf, sf = sameFlow x.f0 x.f1 x.f2 x.f3 x.f4 h0 h1 h2 h3 h4 := ⟨_, rfl⟩
  rw [← hsf] at hneq hnk
  obtain ⟨n1, n2⟩ := n0
  have HX := Lib.hid hx
  have HK := Lib.hid hk
  have HNK := Lib.hid hnk
  have HKW := Lib.hid kw
  have HKB := Lib.hid kb
  have HO := Lib.hid ho
  have HB := Lib.hid h
  have HNE := Lib.hid hneq
  have HP := Lib.hid hp
  clear HA hx hk hnk hsf hp kw kb ho h w1 w2 hn ht hneq
  go_enter Try.func65, Try.ntmps65
  go_wp2
  obtain ⟨hb, hhb⟩ : ∃ hb, hb = w.heap.size := ⟨_, rfl⟩
  obtain ⟨W1, hW1⟩ : ∃ W1, W1 = w.alloc (.cells #[.int .i64 h0, .int .i64 h1, .int .i64 h2, .int .i64 h3, .int .i64 h4, .int .i64 h5, .int .i64 h6, .int .i64 h7, .int .i64 h8] 25) := ⟨_, rfl⟩
  have K1 := Lib.hid (show CB W1 g made S T by rw [hW1]; exact HB.out.alloc _)
  have H1 := Lib.hid (show Blk W1 hb 25 #[.int .i64 h0, .int .i64 h1, .int .i64 h2, .int .i64 h3, .int .i64 h4, .int .i64 h5, .int .i64 h6, .int .i64 h7, .int .i64 h8] by rw [hW1, hhb]; exact Blk.new _ _ _)
  have BW1 := Lib.hid (show Below w.heap.size w W1 by rw [hW1]; exact (Below.refl _ w).alloc (Nat.le_refl _) _)
  rw [← hW1, ← hhb]
  have HHB := Lib.hid hhb
  clear hW1 hhb
  obtain ⟨c0, c1, c2, c3, c4, c5, c6, c7, c8, c9, c10, c11, c12, c13⟩ := K1.out.cells hi HO.out
  rw [← HX.out] at c0 c1 c2 c3 c4 c5 c6 c7 c8 c9 c10 c11 c12 c13
  obtain ⟨q0, q1, q2, q3, q4, q5, q6, q7, q8⟩ := H1.out.nine
  go_region_held3 (fun w' => w'.cell? ⟨g, o, none⟩ = some (.int .i64 x.hops) ∧ w'.cell? ⟨g, o + 1, none⟩ = some (.int .i64 x.ident) ∧ w'.cell? ⟨g, o + 2, none⟩ = some (.int .i64 x.time) ∧ w'.cell? ⟨hb, 0, none⟩ = some (.int .i64 h0) ∧ w'.cell? ⟨hb, 1, none⟩ = some (.int .i64 h1) ∧ w'.cell? ⟨hb, 2, none⟩ = some (.int .i64 h2) ∧ w'.cell? ⟨hb, 3, none⟩ = some (.int .i64 h3) ∧ w'.cell? ⟨hb, 4, none⟩ = some (.int .i64 h4) ∧ w'.cell? ⟨hb, 5, none⟩ = some (.int .i64 h5) ∧ w'.cell? ⟨hb, 6, none⟩ = some (.int .i64 h6) ∧ w'.cell? ⟨hb, 7, none⟩ = some (.int .i64 h7) ∧ w'.cell? ⟨hb, 8, none⟩ = some (.int .i64 h8)) (go_keep) ((go_at_call 93; refine (hA2.out _).mono ?_; rintro e w2 ⟨rfl, b2⟩; have K2 := Lib.hid (K1.out.drew.below b2 K1.out.lt); have H2 := Lib.hid (H1.out.drew.below b2 H1.out.lt); have B2 := Lib.hid (below_step BW1.out.drew b2); clear b2; obtain ⟨d0, d1, d2, d3, d4, d5, d6, d7, d8, d9, d10, d11, d12, d13⟩ := K2.out.cells hi HO.out; obtain ⟨r0, r1, r2, r3, r4, r5, r6, r7, r8⟩ := H2.out.nine; rw [← HX.out] at d0 d1 d2 d3 d4 d5 d6 d7 d8 d9 d10 d11 d12 d13))
  have hgl := K2.out.lt
  have hbl := H2.out.lt
  have x3 : ∀ e : ExtW w2, e.v.cell? ⟨g, o + 3, none⟩ = some (.bool x.used) := fun e => e.cell d3 hgl
  have x12 : ∀ e : ExtW w2, e.v.cell? ⟨g, o + 12, none⟩ = some (.bool x.need) := fun e => e.cell d12 hgl
  have x4 : ∀ e : ExtW w2, e.v.cell? ⟨g, o + 4, none⟩ = some (.int .i64 x.f0) := fun e => e.cell d4 hgl
  have x5 : ∀ e : ExtW w2, e.v.cell? ⟨g, o + 5, none⟩ = some (.int .i64 x.f1) := fun e => e.cell d5 hgl
  have x6 : ∀ e : ExtW w2, e.v.cell? ⟨g, o + 6, none⟩ = some (.int .i64 x.f2) := fun e => e.cell d6 hgl
  have x7 : ∀ e : ExtW w2, e.v.cell? ⟨g, o + 7, none⟩ = some (.int .i64 x.f3) := fun e => e.cell d7 hgl
  have x8 : ∀ e : ExtW w2, e.v.cell? ⟨g, o + 8, none⟩ = some (.int .i64 x.f4) := fun e => e.cell d8 hgl
  have y0 : ∀ e : ExtW w2, e.v.cell? ⟨hb, 0, none⟩ = some (.int .i64 h0) := fun e => e.cell r0 hbl
  have y1 : ∀ e : ExtW w2, e.v.cell? ⟨hb, 1, none⟩ = some (.int .i64 h1) := fun e => e.cell r1 hbl
  have y2 : ∀ e : ExtW w2, e.v.cell? ⟨hb, 2, none⟩ = some (.int .i64 h2) := fun e => e.cell r2 hbl
  have y3 : ∀ e : ExtW w2, e.v.cell? ⟨hb, 3, none⟩ = some (.int .i64 h3) := fun e => e.cell r3 hbl
  have y4 : ∀ e : ExtW w2, e.v.cell? ⟨hb, 4, none⟩ = some (.int .i64 h4) := fun e => e.cell r4 hbl
  have y5 : ∀ e : ExtW w2, e.v.cell? ⟨hb, 5, none⟩ = some (.int .i64 h5) := fun e => e.cell r5 hbl
  have y6 : ∀ e : ExtW w2, e.v.cell? ⟨hb, 6, none⟩ = some (.int .i64 h6) := fun e => e.cell r6 hbl
  have y7 : ∀ e : ExtW w2, e.v.cell? ⟨hb, 7, none⟩ = some (.int .i64 h7) := fun e => e.cell r7 hbl
  have y8 : ∀ e : ExtW w2, e.v.cell? ⟨hb, 8, none⟩ = some (.int .i64 h8) := fun e => e.cell r8 hbl
  have BX : Hid (∀ e : ExtW w2, Below w.heap.size w e.v) := Lib.hid fun e => below_step B2.out e.h
  obtain ⟨u, hu⟩ : ∃ u, u = x.used := ⟨_, rfl⟩
  obtain ⟨nd, hnd⟩ : ∃ nd, nd = x.need := ⟨_, rfl⟩
  rw [← hu] at x3
  rw [← hnd] at x12
  have HU := Lib.hid hu
  have HND := Lib.hid hnd
  clear hu hnd c0 c1 c2 c3 c4 c5 c6 c7 c8 c9 c10 c11 c12 c13 q0 q1 q2 q3 q4 q5 q6 q7 q8 d3 d12 d4 d5 d6 d7 d8
  have hneq := HNE.out
  go_wp2
  cases u
  · have hk0 : k = 0 := by rw [HK.out, HNK.out, ← HU.out]; rfl
    subst hk0
    refine wp_region_ext (by kernel_rfl) (by kernel_rfl) ?_
    repeat (go_big_quiet_step (fail))
    refine wpQuiet_nil ?_
    rintro _ ⟨ex, rfl⟩
    go_wp2
    go_ret
    exact ⟨rfl, BX.out ex⟩
  cases nd
  rotate_left
  · have hk0 : k = 0 := by rw [HK.out, HNK.out, ← HU.out, ← HND.out]; rfl
    subst hk0
    refine wp_region_ext (by kernel_rfl) (by kernel_rfl) ?_
    repeat (go_big_quiet_step (fail))
    refine wpQuiet_nil ?_
    rintro _ ⟨ex, rfl⟩
    go_wp2
    go_ret
    exact ⟨rfl, BX.out ex⟩
  cases sf
  · have hk0 : k = 0 := by rw [HK.out, HNK.out, ← HU.out, ← HND.out]; rfl
    subst hk0
    refine wp_region_ext (by kernel_rfl) (by kernel_rfl) ?_
    repeat (go_big_quiet_step (exact Calls.ext_of (static_ok h0 h1 h2 h3 h4 h5 h6 h7 h8 _)))
    refine wpQuiet_nil ?_
    rintro _ ⟨ex, rfl⟩
    go_wp2
    go_ret
    exact ⟨rfl, BX.out ex⟩
  by_cases hn1 : n < 1
  · have hk0 : k = 0 := by rw [HK.out, HNK.out, ← HU.out, ← HND.out]; simp [hn1]
    subst hk0
    refine wp_region_ext (by kernel_rfl) (by kernel_rfl) ?_
    repeat (go_big_quiet_step (exact Calls.ext_of (static_ok h0 h1 h2 h3 h4 h5 h6 h7 h8 _)))
    refine wpQuiet_nil ?_
    rintro _ ⟨ex, rfl⟩
    go_wp2
    go_ret
    exact ⟨rfl, BX.out ex⟩
  by_cases hn2 : 255 < n
  · have hk0 : k = 0 := by rw [HK.out, HNK.out, ← HU.out, ← HND.out]; simp [hn2]
    subst hk0
    refine wp_region_ext (by kernel_rfl) (by kernel_rfl) ?_
    repeat (go_big_quiet_step (exact Calls.ext_of (static_ok h0 h1 h2 h3 h4 h5 h6 h7 h8 _)))
    refine wpQuiet_nil ?_
    rintro _ ⟨ex, rfl⟩
    go_wp2
    go_ret
    exact ⟨rfl, BX.out ex⟩
  refine wp_region_ext (by kernel_rfl) (by kernel_rfl) ?_
  repeat (go_big_quiet_step (exact Calls.ext_of (static_ok h0 h1 h2 h3 h4 h5 h6 h7 h8 _)))
  refine wpQuiet_nil ?_
  rintro _ ⟨ex, rfl⟩
  have hge : g < ex.v.heap.size := Nat.lt_of_lt_of_le hgl ex.h.size
  have hbe : hb < ex.v.heap.size := Nat.lt_of_lt_of_le hbl ex.h.size
  have z0 : ∀ e : ExtW ex.v, e.v.cell? ⟨g, o, none⟩ = some (.int .i64 x.hops) := fun e => e.cell (ex.cell d0 hgl) hge
  have z11 : ∀ e : ExtW ex.v, e.v.cell? ⟨g, o + 11, none⟩ = some (.int .i64 x.step) := fun e => e.cell (ex.cell d11 hgl) hge
  have z5 : ∀ e : ExtW ex.v, e.v.cell? ⟨hb, 5, none⟩ = some (.int .i64 h5) := fun e => e.cell (y5 ex) hbe
  have BZ : Hid (∀ e : ExtW ex.v, Below w.heap.size w e.v) := Lib.hid fun e => below_step (BX.out ex) e.h
  have kw := HKW.out
  have kb := HKB.out
  have hnk0 : nk = false := by rw [HNK.out, ← HU.out, ← HND.out]; simp [hn1, hn2]
  have HK2 := Lib.hid (by have := HK.out; rw [hnk0] at this; exact this)
  clear x3 x12 x4 x5 x6 x7 x8 y0 y1 y2 y3 y4 y5 y6 y7 y8 hneq hnk0
  go_wp2
  by_cases hh : h5 = x.hops
  · have hh1 : (h5 == x.hops) = true := by simpa using hh
    by_cases htt : t = p % 16777216
    · have ht1 : (t == p % 16777216) = true := by simpa using htt
      have hk2 : k = 2 := by rw [HK2.out, if_neg (by decide), if_pos ⟨hh, htt⟩]
      have HHH := Lib.hid hh
      have HTT := Lib.hid htt
      clear hh htt
      subst hk2
      refine wp_region_ext (by kernel_rfl) (by kernel_rfl) ?_
      repeat (go_big_quiet_step (fail))
      refine wpQuiet_nil ?_
      rintro _ ⟨ex2, rfl⟩
      go_wp2
      go_ret
      exact ⟨rfl, BZ.out ex2⟩
    · have ht1 : (t == p % 16777216) = false := by simpa using htt
      have hk2 := HK2.out
      rw [if_neg (by decide), if_neg (fun hc => htt hc.2)] at hk2
      have HHH := Lib.hid hh
      clear hh
      by_cases h16 : t < 65536
      · rw [if_pos h16] at hk2
        subst hk2
        refine wp_region_ext (by kernel_rfl) (by kernel_rfl) ?_
        repeat (go_big_quiet_step (fail))
        refine wpQuiet_nil ?_
        rintro _ ⟨ex2, rfl⟩
        go_wp2
        go_ret
        exact ⟨rfl, BZ.out ex2⟩
      · rw [if_neg h16] at hk2
        subst hk2
        refine wp_region_ext (by kernel_rfl) (by kernel_rfl) ?_
        repeat (go_big_quiet_step (fail))
        refine wpQuiet_nil ?_
        rintro _ ⟨ex2, rfl⟩
        go_wp2
        go_ret
        exact ⟨rfl, BZ.out ex2⟩
  · have hh1 : (h5 == x.hops) = false := by simpa using hh
    have hk2 := HK2.out
    rw [if_neg (by decide), if_neg (fun hc => hh hc.1)] at hk2
    by_cases h16 : t < 65536
    · rw [if_pos h16] at hk2
      subst hk2
      refine wp_region_ext (by kernel_rfl) (by kernel_rfl) ?_
      repeat (go_big_quiet_step (fail))
      refine wpQuiet_nil ?_
      rintro _ ⟨ex2, rfl⟩
      go_wp2
      go_ret
      exact ⟨rfl, BZ.out ex2⟩
    · rw [if_neg h16] at hk2
      subst hk2
      refine wp_region_ext (by kernel_rfl) (by kernel_rfl) ?_
      repeat (go_big_quiet_step (fail))
      refine wpQuiet_nil ?_
      rintro _ ⟨ex2, rfl⟩
      go_wp2
      go_ret
      exact ⟨rfl, BZ.out ex2⟩
end Go.Proofs.Ytejadoadpgcpjaa
