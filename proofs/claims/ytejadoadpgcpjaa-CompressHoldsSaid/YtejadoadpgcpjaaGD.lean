/- compress: compact, delta, full. -/
import Derived.Test.YtejadoadpgcpjaaGC
import Derived.Deep.AppendLies
import Derived.StillTailTactics
namespace Go.Proofs.Ytejadoadpgcpjaa
open Go.RowKit

attribute [local go_sem ↓] Go.wp_at_zero Go.wp_at_succ

/-- a header's bytes are handed back; the compressor is left in the state S -/
def HOut (len : Nat) (y : Nat → Int) (g : Nat) (made : Bool) (S : Nat → Rx) (T : Int) (w : World) (e : Ending) (w' : World) : Prop :=
  ∃ A c, e = .returned (.slice A len c) ∧ len ≤ c ∧ Row w' w'.heap.size A len (fun j => .int .u8 (y j)) ∧ CB w' g made S T ∧ Keep1 g w w'
theorem keep_of_below {g : Nat} {w w' : World} (h : Below w.heap.size w w') : Keep1 g w w' := ⟨h.os, h.tape, h.output, h.size, fun i hi _ => h.block i hi⟩
theorem Keep1.trans {g : Nat} {a b c : World} (h : Keep1 g a b) (k : Keep1 g b c) : Keep1 g a c := World.grownBy.trans h k
theorem keep_own {g H n c : Nat} {w a b : World} (h : Keep1 g w a) (k : a.grownBy b (Value.slice (some ⟨H, 0, none⟩) n c).ownBlock) (hH : w.heap.size ≤ H) : Keep1 g w b :=
  ⟨k.os.trans h.os, k.tape.trans h.tape, k.output.trans h.output, Nat.le_trans h.size k.size, fun i hi hne => (k.block i (Nat.lt_of_lt_of_le hi h.size) (fun e => by
    have : i = H := by simpa [Value.ownBlock] using e
    omega)).trans (h.block i hi hne)⟩
theorem Keep1.blk {g b : Nat} {t : TypeId} {cs : Array Value} {w w' : World} (h : Keep1 g w w') (hB : Blk w b t cs) (hne : b ≠ g) : Blk w' b t cs := (h.block b hB.lt (fun e => by cases e; exact hne rfl)).trans hB
theorem Keep1.row {g B n : Nat} {A : Option Addr} {v : Nat → Value} {w w' : World} (h : Keep1 g w w') (hr : Row w B A n v) (hB : B ≤ w.heap.size) (hg : ∀ a, A = some a → a.block ≠ g) : Row w' B A n v := fun hn => by
  obtain ⟨b, off, e, hb, hc⟩ := hr hn
  subst e
  exact ⟨b, off, rfl, hb, fun j hj => (World.cell?_of_block (h.block b (by omega) (fun e => by cases e; exact hg _ rfl rfl))).trans (hc j hj)⟩

set_option maxRecDepth 100000 in
set_option maxHeartbeats 3200000 in
theorem compact_ok (g i o : Nat) (made : Bool) (S : Nat → Rx) (T : Int) (h0 h1 h2 h3 h4 h5 h6 h7 h8 : Int) (Z : Value) (hi : i < 16) (ho : o = 1 + 14 * i) (hok : (S i).Ok) (b6 : 0 ≤ h6 ∧ h6 < 65536) (b7 : 0 ≤ h7 ∧ h7 < 16777216) (hn1 : 1 ≤ kN (S i) h6) (hn2 : kN (S i) h6 ≤ 255) (w : World) (h : CB w g made S T) :
    Calls Try.prog 68 #[.pointer (some ⟨g, o, none⟩), .agg #[.int .i64 h0, .int .i64 h1, .int .i64 h2, .int .i64 h3, .int .i64 h4, .int .i64 h5, .int .i64 h6, .int .i64 h7, .int .i64 h8], Z] w (HOut 2 (fun j => ([(S i).gen, kN (S i) h6] : List Int).getD j 0) g made S T w) := by
  obtain ⟨x, hx⟩ : ∃ x, x = S i := ⟨_, rfl⟩
  rw [← hx] at hok hn1 hn2 ⊢
  obtain ⟨oh, oi, ot, og, os⟩ := hok
  have w1 : IntKind.i64.wrap (h6 - x.ident) = h6 - x.ident := IntWalk.i64_in _ (by omega)
  have w2 : IntKind.i64.wrap (h7 - x.time) = h7 - x.time := IntWalk.i64_in _ (by omega)
  have HA := Lib.hid (fun W => apart_ok x.hops x.ident x.time h0 h1 h2 h3 h4 h5 h6 h7 h8 W w1 w2)
  obtain ⟨n, hn⟩ : ∃ n, n = kN x h6 := ⟨_, rfl⟩
  obtain ⟨t, ht⟩ : ∃ t, t = kT x h7 := ⟨_, rfl⟩
  rw [← hn] at hn1 hn2 ⊢
  have hA2 : Hid (∀ W : World, Calls Try.prog 93 #[.agg #[.int .i64 x.hops, .int .i64 x.ident, .int .i64 x.time], .agg #[.int .i64 h0, .int .i64 h1, .int .i64 h2, .int .i64 h3, .int .i64 h4, .int .i64 h5, .int .i64 h6, .int .i64 h7, .int .i64 h8]] W fun e w' => e = .returned (.tuple #[.int .i64 n, .int .i64 t]) ∧ Below W.heap.size W w') := by rw [hn, ht]; exact HA
  have HX := Lib.hid hx
  have HO := Lib.hid ho
  have HB := Lib.hid h
  have HT := Lib.hid ht
  clear HA hx ho h w1 w2 hn ht
  go_enter Try.func68, Try.ntmps68
  go_wp2
  obtain ⟨hb, hhb⟩ : ∃ hb, hb = w.heap.size := ⟨_, rfl⟩
  obtain ⟨W1, hW1⟩ : ∃ W1, W1 = w.alloc (.cells #[.int .i64 h0, .int .i64 h1, .int .i64 h2, .int .i64 h3, .int .i64 h4, .int .i64 h5, .int .i64 h6, .int .i64 h7, .int .i64 h8] 25) := ⟨_, rfl⟩
  have K1 := Lib.hid (show CB W1 g made S T by rw [hW1]; exact HB.out.alloc _)
  have H1 := Lib.hid (show Blk W1 hb 25 #[.int .i64 h0, .int .i64 h1, .int .i64 h2, .int .i64 h3, .int .i64 h4, .int .i64 h5, .int .i64 h6, .int .i64 h7, .int .i64 h8] by rw [hW1, hhb]; exact Blk.new _ _ _)
  have BW1 := Lib.hid (show Below w.heap.size w W1 by rw [hW1]; exact (Below.refl _ w).alloc (Nat.le_refl _) _)
  rw [← hW1, ← hhb]
  have HHB := Lib.hid hhb
  have hgl := K1.out.lt
  have hbl := H1.out.lt
  have hgh : g < w.heap.size := HB.out.lt
  clear hW1 hhb
  obtain ⟨c0, c1, c2, c3, c4, c5, c6, c7, c8, c9, c10, c11, c12, c13⟩ := K1.out.cells hi HO.out
  rw [← HX.out] at c0 c1 c2
  obtain ⟨q0, q1, q2, q3, q4, q5, q6, q7, q8⟩ := H1.out.nine
  have x0 : ∀ e : ExtW W1, e.v.cell? ⟨g, o, none⟩ = some (.int .i64 x.hops) := fun e => e.cell c0 hgl
  have x1 : ∀ e : ExtW W1, e.v.cell? ⟨g, o + 1, none⟩ = some (.int .i64 x.ident) := fun e => e.cell c1 hgl
  have x2 : ∀ e : ExtW W1, e.v.cell? ⟨g, o + 2, none⟩ = some (.int .i64 x.time) := fun e => e.cell c2 hgl
  have y0 : ∀ e : ExtW W1, e.v.cell? ⟨hb, 0, none⟩ = some (.int .i64 h0) := fun e => e.cell q0 hbl
  have y1 : ∀ e : ExtW W1, e.v.cell? ⟨hb, 1, none⟩ = some (.int .i64 h1) := fun e => e.cell q1 hbl
  have y2 : ∀ e : ExtW W1, e.v.cell? ⟨hb, 2, none⟩ = some (.int .i64 h2) := fun e => e.cell q2 hbl
  have y3 : ∀ e : ExtW W1, e.v.cell? ⟨hb, 3, none⟩ = some (.int .i64 h3) := fun e => e.cell q3 hbl
  have y4 : ∀ e : ExtW W1, e.v.cell? ⟨hb, 4, none⟩ = some (.int .i64 h4) := fun e => e.cell q4 hbl
  have y5 : ∀ e : ExtW W1, e.v.cell? ⟨hb, 5, none⟩ = some (.int .i64 h5) := fun e => e.cell q5 hbl
  have y6 : ∀ e : ExtW W1, e.v.cell? ⟨hb, 6, none⟩ = some (.int .i64 h6) := fun e => e.cell q6 hbl
  have y7 : ∀ e : ExtW W1, e.v.cell? ⟨hb, 7, none⟩ = some (.int .i64 h7) := fun e => e.cell q7 hbl
  have y8 : ∀ e : ExtW W1, e.v.cell? ⟨hb, 8, none⟩ = some (.int .i64 h8) := fun e => e.cell q8 hbl
  clear c0 c1 c2 c3 c4 c5 c6 c7 c8 c9 c10 c11 c12 c13 q0 q1 q2 q3 q4 q5 q6 q7 q8
  refine wp_region_ext (by kernel_rfl) (by kernel_rfl) ?_
  repeat (go_big_quiet_step (exact Calls.ext_of (hA2.out _)))
  refine wpQuiet_nil ?_
  rintro _ ⟨ex, rfl⟩
  have K2 := Lib.hid (K1.out.below ex.h hgl)
  obtain ⟨d0, d1, d2, d3, d4, d5, d6, d7, d8, d9, d10, d11, d12, d13⟩ := K2.out.cells hi HO.out
  rw [← HX.out] at d10
  clear d0 d1 d2 d3 d4 d5 d6 d7 d8 d9 d11 d12 d13 x0 x1 x2 y0 y1 y2 y3 y4 y5 y6 y7 y8
  have B2 := Lib.hid (below_step BW1.out ex.h)
  go_wp2
  go_ret
  exact ⟨_, _, rfl, Nat.le_refl _, lit_bytes [x.gen, n] (Blk.new ex.v 5 #[.int .u8 x.gen, .int .u8 n]) (by simp), K2.out.alloc _, keep_of_below (below_new B2.out _)⟩
set_option maxRecDepth 100000 in
set_option maxHeartbeats 3200000 in
theorem delta_ok (g i o : Nat) (made : Bool) (S : Nat → Rx) (T : Int) (h0 h1 h2 h3 h4 h5 h6 h7 h8 : Int) (Z : Value) (hi : i < 16) (ho : o = 1 + 14 * i) (hok : (S i).Ok) (b5 : 0 ≤ h5 ∧ h5 < 256) (b6 : 0 ≤ h6 ∧ h6 < 65536) (b7 : 0 ≤ h7 ∧ h7 < 16777216) (hn1 : 1 ≤ kN (S i) h6) (hn2 : kN (S i) h6 ≤ 255) (ht1 : kT (S i) h7 < 65536) (w : World) (h : CB w g made S T) :
    Calls Try.prog 67 #[.pointer (some ⟨g, o, none⟩), .agg #[.int .i64 h0, .int .i64 h1, .int .i64 h2, .int .i64 h3, .int .i64 h4, .int .i64 h5, .int .i64 h6, .int .i64 h7, .int .i64 h8], Z] w (HOut 5 (fun j => ([(begun (S i) h5 h6 h7 (kT (S i) h7 / kN (S i) h6)).gen, kN (S i) h6, kT (S i) h7 / 256, kT (S i) h7 % 256, h5] : List Int).getD j 0) g made (upd S i (begun (S i) h5 h6 h7 (kT (S i) h7 / kN (S i) h6))) T w) := by
  obtain ⟨x, hx⟩ : ∃ x, x = S i := ⟨_, rfl⟩
  rw [← hx] at hok hn1 hn2 ht1 ⊢
  obtain ⟨oh, oi, ot, og, os⟩ := hok
  have w1 : IntKind.i64.wrap (h6 - x.ident) = h6 - x.ident := IntWalk.i64_in _ (by omega)
  have w2 : IntKind.i64.wrap (h7 - x.time) = h7 - x.time := IntWalk.i64_in _ (by omega)
  have HA := Lib.hid (fun W => apart_ok x.hops x.ident x.time h0 h1 h2 h3 h4 h5 h6 h7 h8 W w1 w2)
  obtain ⟨n, hn⟩ : ∃ n, n = kN x h6 := ⟨_, rfl⟩
  obtain ⟨t, ht⟩ : ∃ t, t = kT x h7 := ⟨_, rfl⟩
  have ht0 : 0 ≤ kT x h7 := by unfold kT; omega
  rw [← hn] at hn1 hn2 ⊢
  rw [← ht] at ht0 ht1 ⊢
  have hA2 : Hid (∀ W : World, Calls Try.prog 93 #[.agg #[.int .i64 x.hops, .int .i64 x.ident, .int .i64 x.time], .agg #[.int .i64 h0, .int .i64 h1, .int .i64 h2, .int .i64 h3, .int .i64 h4, .int .i64 h5, .int .i64 h6, .int .i64 h7, .int .i64 h8]] W fun e w' => e = .returned (.tuple #[.int .i64 n, .int .i64 t]) ∧ Below W.heap.size W w') := by rw [hn, ht]; exact HA
  have HX := Lib.hid hx
  have HO := Lib.hid ho
  have HB := Lib.hid h
  have HT := Lib.hid ht
  have kq : t.tdiv n = t / n := Int.tdiv_eq_ediv_of_nonneg ht0
  have kq0 : 0 ≤ t / n := Int.ediv_nonneg ht0 (by omega)
  have kq1 : t / n ≤ t := Int.ediv_le_self _ ht0
  have kq2 : IntKind.i64.wrap (t / n) = t / n := IntWalk.i64_in _ (by omega)
  have kq3 : (n == 0) = false := by simp; omega
  have kq4 : ¬ n = 0 := by omega
  obtain ⟨q, hq⟩ : ∃ q, q = t / n := ⟨_, rfl⟩
  rw [← hq] at kq kq0 kq1 kq2 ⊢
  have HQ := Lib.hid hq
  have KQ := Lib.hid kq
  have KQ2 := Lib.hid kq2
  have KQ3 := Lib.hid kq3
  have HBG := Lib.hid (fun W hC => begin_ok g i o made S T h0 h1 h2 h3 h4 h5 h6 h7 h8 q hi ho W hC)
  rw [← hx] at HBG
  obtain ⟨x', hx'⟩ : ∃ x', x' = begun x h5 h6 h7 q := ⟨_, rfl⟩
  rw [← hx'] at HBG ⊢
  clear HA hx ho h w1 w2 hn ht hq kq kq2 kq3 hx'
  go_enter Try.func67, Try.ntmps67
  go_wp2
  obtain ⟨hb, hhb⟩ : ∃ hb, hb = w.heap.size := ⟨_, rfl⟩
  obtain ⟨W1, hW1⟩ : ∃ W1, W1 = w.alloc (.cells #[.int .i64 h0, .int .i64 h1, .int .i64 h2, .int .i64 h3, .int .i64 h4, .int .i64 h5, .int .i64 h6, .int .i64 h7, .int .i64 h8] 25) := ⟨_, rfl⟩
  have K1 := Lib.hid (show CB W1 g made S T by rw [hW1]; exact HB.out.alloc _)
  have H1 := Lib.hid (show Blk W1 hb 25 #[.int .i64 h0, .int .i64 h1, .int .i64 h2, .int .i64 h3, .int .i64 h4, .int .i64 h5, .int .i64 h6, .int .i64 h7, .int .i64 h8] by rw [hW1, hhb]; exact Blk.new _ _ _)
  have BW1 := Lib.hid (show Below w.heap.size w W1 by rw [hW1]; exact (Below.refl _ w).alloc (Nat.le_refl _) _)
  rw [← hW1, ← hhb]
  have HHB := Lib.hid hhb
  have hgl := K1.out.lt
  have hbl := H1.out.lt
  have hgh : g < w.heap.size := HB.out.lt
  clear hW1 hhb
  obtain ⟨c0, c1, c2, c3, c4, c5, c6, c7, c8, c9, c10, c11, c12, c13⟩ := K1.out.cells hi HO.out
  rw [← HX.out] at c0 c1 c2
  obtain ⟨q0, q1, q2, q3, q4, q5, q6, q7, q8⟩ := H1.out.nine
  have x0 : ∀ e : ExtW W1, e.v.cell? ⟨g, o, none⟩ = some (.int .i64 x.hops) := fun e => e.cell c0 hgl
  have x1 : ∀ e : ExtW W1, e.v.cell? ⟨g, o + 1, none⟩ = some (.int .i64 x.ident) := fun e => e.cell c1 hgl
  have x2 : ∀ e : ExtW W1, e.v.cell? ⟨g, o + 2, none⟩ = some (.int .i64 x.time) := fun e => e.cell c2 hgl
  have y0 : ∀ e : ExtW W1, e.v.cell? ⟨hb, 0, none⟩ = some (.int .i64 h0) := fun e => e.cell q0 hbl
  have y1 : ∀ e : ExtW W1, e.v.cell? ⟨hb, 1, none⟩ = some (.int .i64 h1) := fun e => e.cell q1 hbl
  have y2 : ∀ e : ExtW W1, e.v.cell? ⟨hb, 2, none⟩ = some (.int .i64 h2) := fun e => e.cell q2 hbl
  have y3 : ∀ e : ExtW W1, e.v.cell? ⟨hb, 3, none⟩ = some (.int .i64 h3) := fun e => e.cell q3 hbl
  have y4 : ∀ e : ExtW W1, e.v.cell? ⟨hb, 4, none⟩ = some (.int .i64 h4) := fun e => e.cell q4 hbl
  have y5 : ∀ e : ExtW W1, e.v.cell? ⟨hb, 5, none⟩ = some (.int .i64 h5) := fun e => e.cell q5 hbl
  have y6 : ∀ e : ExtW W1, e.v.cell? ⟨hb, 6, none⟩ = some (.int .i64 h6) := fun e => e.cell q6 hbl
  have y7 : ∀ e : ExtW W1, e.v.cell? ⟨hb, 7, none⟩ = some (.int .i64 h7) := fun e => e.cell q7 hbl
  have y8 : ∀ e : ExtW W1, e.v.cell? ⟨hb, 8, none⟩ = some (.int .i64 h8) := fun e => e.cell q8 hbl
  clear c0 c1 c2 c3 c4 c5 c6 c7 c8 c9 c10 c11 c12 c13 q0 q1 q2 q3 q4 q5 q6 q7 q8
  refine wp_region_ext (by kernel_rfl) (by kernel_rfl) ?_
  repeat (go_big_quiet_step (exact Calls.ext_of (hA2.out _)))
  refine wpQuiet_nil ?_
  rintro _ ⟨ex, rfl⟩
  obtain ⟨W2, hW2⟩ : ∃ W2, W2 = ex.v := ⟨_, rfl⟩
  have hbx := ex.h
  rw [← hW2] at hbx ⊢
  have K2 := Lib.hid (K1.out.below hbx hgl)
  have H2 := Lib.hid (H1.out.below hbx hbl)
  have B2 := Lib.hid (below_step BW1.out hbx)
  have hne1 : hb ≠ g := by have := HHB.out; omega
  clear hW2 hbx ex x0 x1 x2 y0 y1 y2 y3 y4 y5 y6 y7 y8
  obtain ⟨r0, r1, r2, r3, r4, r5, r6, r7, r8⟩ := H2.out.nine
  have kq := KQ.out
  have kq2 := KQ2.out
  have kq3 := KQ3.out
  go_wp2
  go_region_held3 (fun w' => w'.cell? ⟨hb, 0, none⟩ = some (.int .i64 h0) ∧ w'.cell? ⟨hb, 1, none⟩ = some (.int .i64 h1) ∧ w'.cell? ⟨hb, 2, none⟩ = some (.int .i64 h2) ∧ w'.cell? ⟨hb, 3, none⟩ = some (.int .i64 h3) ∧ w'.cell? ⟨hb, 4, none⟩ = some (.int .i64 h4) ∧ w'.cell? ⟨hb, 5, none⟩ = some (.int .i64 h5) ∧ w'.cell? ⟨hb, 6, none⟩ = some (.int .i64 h6) ∧ w'.cell? ⟨hb, 7, none⟩ = some (.int .i64 h7) ∧ w'.cell? ⟨hb, 8, none⟩ = some (.int .i64 h8)) (go_keep) ((go_at_call 94; refine (HBG.out _ K2.out.drew).mono ?_; rintro e w3 ⟨rfl, k3, e3⟩; have K3 := Lib.hid k3; have E3 := Lib.hid ((keep_of_below B2.out.drew).trans e3); have H3 := Lib.hid (e3.blk H2.out.drew hne1); clear k3 e3; obtain ⟨s0, s1, s2, s3, s4, s5, s6, s7, s8⟩ := H3.out.nine))
  clear kq kq2 kq3 r0 r1 r2 r3 r4 r5 r6 r7 r8
  obtain ⟨d0, d1, d2, d3, d4, d5, d6, d7, d8, d9, d10, d11, d12, d13⟩ := K3.out.cellsU hi HO.out
  clear d0 d1 d2 d3 d4 d5 d6 d7 d8 d9 d11 d12 d13 s0 s1 s2 s3 s4 s6 s7 s8
  have v1 : IntKind.u8.wrap n = n := by rw [IntKind.wrap_u8]; omega
  have v2 : IntKind.u8.wrap (t / 256) = t / 256 := by rw [IntKind.wrap_u8]; omega
  have v3 : IntKind.u8.wrap t = t % 256 := by rw [IntKind.wrap_u8]
  have v4 : IntKind.u8.wrap h5 = h5 := by rw [IntKind.wrap_u8]; omega
  go_wp2
  refine wp_region_still_tail 14 (by kernel_rfl) (by kernel_rfl) ?_
  simp only [List.take_succ_cons, List.take_zero, List.drop_succ_cons, List.drop_zero]
  change wpStill _ _ w3.drew (fun a' => wpList _ _ _ _ a' w3.drew) _ _
  obtain ⟨WD, hWD⟩ : ∃ WD, WD = w3.drew := ⟨_, rfl⟩
  have t10 : WD.cell? ⟨g, o + 10, none⟩ = some (.int .u8 x'.gen) := by rw [hWD]; exact d10
  have t5 : WD.cell? ⟨hb, 5, none⟩ = some (.int .i64 h5) := by rw [hWD]; exact s5
  have KD := Lib.hid (show CB WD g made (upd S i x') T by rw [hWD]; exact K3.out)
  have ED := Lib.hid (show Keep1 g w WD by rw [hWD]; exact grownBy_drew E3.out)
  rw [← hWD]
  clear hWD d10 s5
  repeat still_step
  refine wpStill_nil ?_
  go_wp2
  go_ret
  exact ⟨_, _, rfl, Nat.le_refl _, lit_bytes [x'.gen, n, t / 256, t % 256, h5] (Blk.new WD 5 #[.int .u8 x'.gen, .int .u8 n, .int .u8 (t / 256), .int .u8 (t % 256), .int .u8 h5]) (by simp), KD.out.alloc _, ED.out.trans (World.grownBy_alloc _ _ _)⟩
/-- a context behind full -/
def fulled (c : Rx) (h0 h1 h2 h3 h4 h5 h6 h7 : Int) : Rx := { begun c h5 h6 h7 0 with used := true, f0 := h0, f1 := h1, f2 := h2, f3 := h3, f4 := h4, need := false }
theorem slice18 (lb lo n c : Nat) (h18 : 18 ≤ c) : ∀ w, (Instr.slice 22 (.slice (some ⟨lb, lo, none⟩) n c) none (some (.int .i64 18)) (some (.int .i64 18))).run Try.prog w = .ok (.slice (some ⟨lb, lo, none⟩) 18 18) w := fun w => by
  have hm0 : (18 : Int) ≤ (c : Int) := by omega
  simp [go_sem, hm0]
theorem one_news (x : Value) (v : Nat → Value) (m : Nat) : ∀ j, j < 1 + m → ([x] ++ (List.range m).map v)[j]? = some (if j = 0 then x else v (j - 1)) := by
  intro j hj
  by_cases h0 : j = 0
  · subst h0; rfl
  · rw [if_neg h0, List.getElem?_append_right (by simp; omega)]
    have : j - 1 < m := by omega
    simp [this]

set_option maxRecDepth 100000 in
set_option maxHeartbeats 3200000 in
theorem full_ok (g i o : Nat) (made : Bool) (S : Nat → Rx) (T : Int) (h0 h1 h2 h3 h4 h5 h6 h7 h8 : Int) (lb lo nz c : Nat) (z : Nat → Int) (hi : i < 16) (ho : o = 1 + 14 * i) (h18 : 18 ≤ nz) (hnc : nz ≤ c) (w : World) (h : CB w g made S T) (hr : Row w w.heap.size (some ⟨lb, lo, none⟩) nz (fun j => .int .u8 (z j))) (hlg : lb ≠ g) :
    Calls Try.prog 66 #[.pointer (some ⟨g, o, none⟩), .agg #[.int .i64 h0, .int .i64 h1, .int .i64 h2, .int .i64 h3, .int .i64 h4, .int .i64 h5, .int .i64 h6, .int .i64 h7, .int .i64 h8], .slice (some ⟨lb, lo, none⟩) nz c] w (HOut 19 (fun j => if j = 0 then (fulled (S i) h0 h1 h2 h3 h4 h5 h6 h7).gen else z (j - 1)) g made (upd S i (fulled (S i) h0 h1 h2 h3 h4 h5 h6 h7)) T w) := by
  obtain ⟨i0, hi0, hz0, hz1, hz2⟩ := info_parts Try.infoByte
  have HBG := Lib.hid (fun W hC => begin_ok g i o made S T h0 h1 h2 h3 h4 h5 h6 h7 h8 0 hi ho W hC)
  have HFU := Lib.hid (show fulled (S i) h0 h1 h2 h3 h4 h5 h6 h7 = { begun (S i) h5 h6 h7 0 with used := true, f0 := h0, f1 := h1, f2 := h2, f3 := h3, f4 := h4, need := false } from rfl)
  obtain ⟨x', hx'⟩ : ∃ x', x' = begun (S i) h5 h6 h7 0 := ⟨_, rfl⟩
  obtain ⟨y', hy'⟩ : ∃ y', y' = fulled (S i) h0 h1 h2 h3 h4 h5 h6 h7 := ⟨_, rfl⟩
  rw [← hx'] at HBG HFU
  rw [← hy'] at HFU ⊢
  have hsl := slice18 lb lo nz c (by omega)
  have HO := Lib.hid ho
  have HB := Lib.hid h
  have HR := Lib.hid hr
  clear ho h hr hx' hy'
  go_enter Try.func66, Try.ntmps66
  go_wp2_with (first
    | (go_at_call 94; refine (HBG.out _ (HB.out.alloc _)).mono ?_; rintro e w2 ⟨rfl, k2, e2⟩; have K2 := Lib.hid k2; have E2 := Lib.hid ((keep_of_below ((Below.refl _ w).alloc (Nat.le_refl _) _)).trans e2); have hne : w.heap.size ≠ g := (by have := HB.out.lt; omega); have H2 := Lib.hid (e2.blk (Blk.new w 25 #[.int .i64 h0, .int .i64 h1, .int .i64 h2, .int .i64 h3, .int .i64 h4, .int .i64 h5, .int .i64 h6, .int .i64 h7, .int .i64 h8]) hne); clear k2 e2; obtain ⟨q0, q1, q2, q3, q4, q5, q6, q7, q8⟩ := H2.out.nine)
    | (go_at_call 28; refine (static_ok h0 h1 h2 h3 h4 h5 h6 h7 h8 _).mono ?_; rintro e w3 ⟨rfl, b3⟩; have K3 := Lib.hid (K2.out.below b3 K2.out.lt); have E3 := Lib.hid (E2.out.trans (keep_of_below b3)); clear b3; obtain ⟨d0, d1, d2, d3, d4, d5, d6, d7, d8, d9, d10, d11, d12, d13⟩ := K3.out.cellsU hi HO.out; have z3 := K3.out.fr (o + 3); have z4 := K3.out.fr (o + 4); have z5 := K3.out.fr (o + 5); have z6 := K3.out.fr (o + 6); have z7 := K3.out.fr (o + 7); have z8 := K3.out.fr (o + 8); have z12 := K3.out.fr (o + 12)))
  have hlt3 := K3.out.lt
  obtain ⟨W4, hW4⟩ : ∃ W4, W4 = ((((((w3.setCell ⟨g, o + 3, none⟩ (.bool true)).setCell ⟨g, o + 4, none⟩ (.int .i64 h0)).setCell ⟨g, o + 4 + 1, none⟩ (.int .i64 h1)).setCell ⟨g, o + 4 + 2, none⟩ (.int .i64 h2)).setCell ⟨g, o + 4 + 3, none⟩ (.int .i64 h3)).setCell ⟨g, o + 4 + 4, none⟩ (.int .i64 h4)).setCell ⟨g, o + 12, none⟩ (.bool false) := ⟨_, rfl⟩
  have K4 := Lib.hid (show CB W4 g made (upd S i y') T by rw [hW4]; exact cb_to ((((((((K3.out.used_ hi HO.out true).f0_ hi HO.out h0).f1_ hi HO.out h1).f2_ hi HO.out h2).f3_ hi HO.out h3).f4_ hi HO.out h4).need_ hi HO.out false)) HFU.out.symm)
  have E4 := Lib.hid (show Keep1 g w W4 by rw [hW4]; exact grownBy_set (grownBy_set (grownBy_set (grownBy_set (grownBy_set (grownBy_set (grownBy_set E3.out _ _) _ _) _ _) _ _) _ _) _ _) _ _)
  rw [← hW4]
  clear hW4 d0 d1 d2 d3 d4 d5 d6 d7 d8 d9 d10 d11 d12 d13 z3 z4 z5 z6 z7 z8 z12 q0 q1 q2 q3 q4 q5 q6 q7 q8
  have R4 := Lib.hid ((E4.out.row HR.out (Nat.le_refl _) (fun a e => by cases e; exact hlg)).take h18 |>.more E4.out.size)
  obtain ⟨d0, d1, d2, d3, d4, d5, d6, d7, d8, d9, d10, d11, d12, d13⟩ := K4.out.cellsU hi HO.out
  have hg4 := K4.out.lt
  go_region_held3 (fun w' => w'.cell? ⟨g, o + 10, none⟩ = some (.int .u8 y'.gen)) (go_keep) ((refine step_append_lies _ (by rfl) _ _ 22 (by rfl) W4.heap.size 5 i0 (.int .u8 0) 1 1 Try.underlying22 hi0 hz0 hz1 hz2 rfl (by decide) _ 1 [.int .u8 y'.gen] (by rfl) (World.ownsRow_lit (base := W4.heap.size) W4 #[.int .u8 y'.gen] 1 (Nat.le_refl _) (by decide) rfl).drew ⟨lb, lo, none⟩ 18 18 ((List.range 18).map (fun j => .int .u8 (z j))) (by rfl) (by simp) (row_cells (R4.out.alloc (Nat.le_refl _) _).drew rfl) (by simp; intro a _; rfl) (by decide) (by decide) (by decide) (by simp) _ rfl ?_; intro g6 c6 w6 hown6 hg6 hat6 hlt6; have K6 := Lib.hid (show CB w6 g made (upd S i y') T from Blk.grown (Blk.drew (Blk.alloc K4.out _)) hg6 (by simp [Value.ownBlock]; omega)); have p10 := (K6.out.cellsU hi HO.out).2.2.2.2.2.2.2.2.2.2.1; have HO6 := Lib.hid hown6; have HG6 := Lib.hid hg6; clear hown6 hg6))
  go_wp2
  go_ret
  obtain ⟨A, cap, hv, hc, _, _, hr6⟩ := own_any (f := fun j => if j = 0 then .int .u8 y'.gen else .int .u8 (z (j - 1))) HO6.out (one_news _ _ _)
  cases hv
  refine ⟨_, _, rfl, hc, hr6.congr (fun j hj => ?_), K6.out, ?_⟩
  · by_cases h0 : j = 0
    · simp [h0]
    · simp [h0]
  · exact keep_own (grownBy_drew (E4.out.trans (World.grownBy_alloc _ _ _))) HG6.out (by have := E4.out.size; simp; omega)
end Go.Proofs.Ytejadoadpgcpjaa
