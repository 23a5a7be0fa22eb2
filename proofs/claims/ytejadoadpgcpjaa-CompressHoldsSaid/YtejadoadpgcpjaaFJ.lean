/- header.Static, header.Join; the walk of HeaderJoins. -/
import Derived.Test.YtejadoadpgcpjaaFO
import Derived.Deep.RegionHeld3
import Derived.Deep.DrawnRows
namespace Go.Proofs.Ytejadoadpgcpjaa
open Go.RowKit

attribute [local go_sem ↓] Go.wp_at_zero Go.wp_at_succ

theorem static_ok (h0 h1 h2 h3 h4 h5 h6 h7 h8 : Int) (w : World) :
    Calls Try.prog 28 #[.agg #[.int .i64 h0, .int .i64 h1, .int .i64 h2, .int .i64 h3, .int .i64 h4, .int .i64 h5, .int .i64 h6, .int .i64 h7, .int .i64 h8]] w fun e w' => e = .returned (.agg #[.int .i64 h0, .int .i64 h1, .int .i64 h2, .int .i64 h3, .int .i64 h4]) ∧ Below w.heap.size w w' := by
  go_enter Try.func28, Try.ntmps28
  go_wp2
  exact bodyPost_ret (v := .agg #[.int .i64 h0, .int .i64 h1, .int .i64 h2, .int .i64 h3, .int .i64 h4]) (by simp [results, Try.results28, go_sem]) rfl ⟨rfl, ((Below.refl _ w).alloc (Nat.le_refl _) _).alloc (by simp) _⟩
theorem join_ok (h0 h1 h2 h3 h4 h5 h6 h7 h8 : Int) (w : World) :
    Calls Try.prog 29 #[.agg #[.int .i64 h0, .int .i64 h1, .int .i64 h2, .int .i64 h3, .int .i64 h4], .int .i64 h5, .int .i64 h6, .int .i64 h7, .int .i64 h8] w fun e w' => e = .returned (.agg #[.int .i64 h0, .int .i64 h1, .int .i64 h2, .int .i64 h3, .int .i64 h4, .int .i64 h5, .int .i64 h6, .int .i64 h7, .int .i64 h8]) ∧ Below w.heap.size w w' := by
  go_enter Try.func29, Try.ntmps29
  go_wp2
  exact bodyPost_ret (v := .agg #[.int .i64 h0, .int .i64 h1, .int .i64 h2, .int .i64 h3, .int .i64 h4, .int .i64 h5, .int .i64 h6, .int .i64 h7, .int .i64 h8]) (by simp [results, Try.results29, go_sem]) rfl ⟨rfl, ((Below.refl _ w).alloc (Nat.le_refl _) _).alloc (by simp) _⟩
theorem Blk.five {w : World} {g : Nat} {t : TypeId} {a0 a1 a2 a3 a4 : Value} (h : Blk w g t #[a0, a1, a2, a3, a4]) :
    w.cell? ⟨g, 0, none⟩ = some a0 ∧ w.cell? ⟨g, 1, none⟩ = some a1 ∧ w.cell? ⟨g, 2, none⟩ = some a2 ∧ w.cell? ⟨g, 3, none⟩ = some a3 ∧ w.cell? ⟨g, 4, none⟩ = some a4 :=
  ⟨h.cell 0, h.cell 1, h.cell 2, h.cell 3, h.cell 4⟩

/-- the world behind Static, and the cells that are read from it on -/
def JCells (H G : Nat) (h0 h1 h2 h3 h4 h5 h6 h7 h8 : Int) (w' : World) : Prop :=
  Blk w' H 25 #[.int .i64 h0, .int .i64 h1, .int .i64 h2, .int .i64 h3, .int .i64 h4, .int .i64 h5, .int .i64 h6, .int .i64 h7, .int .i64 h8] ∧ Blk w' G 52 #[.int .i64 h0, .int .i64 h1, .int .i64 h2, .int .i64 h3, .int .i64 h4]

set_option maxRecDepth 100000 in
set_option maxHeartbeats 1600000 in
theorem joins_walk (h : Nat → Int) (w : World) :
    Calls Try.prog 8 #[.agg (hdr h)] w fun e w' => e = .returned (.bool true) ∧ Below w.heap.size w w' := by
  unfold hdr
  generalize h 0 = h0
  generalize h 1 = h1
  generalize h 2 = h2
  generalize h 3 = h3
  generalize h 4 = h4
  generalize h 5 = h5
  generalize h 6 = h6
  generalize h 7 = h7
  generalize h 8 = h8
  clear h
  go_enter Try.func8, Try.ntmps8
  go_wp2_with (go_at_call 28; refine (static_ok h0 h1 h2 h3 h4 h5 h6 h7 h8 _).mono ?_; rintro e w1 ⟨rfl, hb1⟩; have HB1 := Lib.hid hb1; have HK1 := Lib.hid ((Blk.new w 25 #[.int .i64 h0, .int .i64 h1, .int .i64 h2, .int .i64 h3, .int .i64 h4, .int .i64 h5, .int .i64 h6, .int .i64 h7, .int .i64 h8]).below hb1 (by simp)); clear hb1)
  have HG := Lib.hid (Blk.new w1 52 #[.int .i64 h0, .int .i64 h1, .int .i64 h2, .int .i64 h3, .int .i64 h4])
  have HKA := Lib.hid (HK1.out.alloc (.cells #[.int .i64 h0, .int .i64 h1, .int .i64 h2, .int .i64 h3, .int .i64 h4] 52))
  obtain ⟨W1, hW1⟩ : ∃ W1, W1 = w1.alloc (.cells #[.int .i64 h0, .int .i64 h1, .int .i64 h2, .int .i64 h3, .int .i64 h4] 52) := ⟨_, rfl⟩
  rw [← hW1] at HG HKA ⊢
  have HW1 := Lib.hid hW1
  clear hW1
  obtain ⟨b0, b1, b2, b3, b4, b5, b6, b7, b8⟩ := HKA.out.nine
  obtain ⟨f0, f1, f2, f3, f4⟩ := HG.out.five
  go_region_held3 (fun w' => w'.cell? ⟨w.heap.size, 0, none⟩ = some (.int .i64 h0) ∧ w'.cell? ⟨w.heap.size, 1, none⟩ = some (.int .i64 h1) ∧ w'.cell? ⟨w.heap.size, 2, none⟩ = some (.int .i64 h2) ∧ w'.cell? ⟨w.heap.size, 3, none⟩ = some (.int .i64 h3) ∧ w'.cell? ⟨w.heap.size, 4, none⟩ = some (.int .i64 h4) ∧ w'.cell? ⟨w.heap.size, 5, none⟩ = some (.int .i64 h5) ∧ w'.cell? ⟨w.heap.size, 6, none⟩ = some (.int .i64 h6) ∧ w'.cell? ⟨w.heap.size, 7, none⟩ = some (.int .i64 h7) ∧ w'.cell? ⟨w.heap.size, 8, none⟩ = some (.int .i64 h8) ∧ w'.cell? ⟨w1.heap.size, 0, none⟩ = some (.int .i64 h0) ∧ w'.cell? ⟨w1.heap.size, 1, none⟩ = some (.int .i64 h1) ∧ w'.cell? ⟨w1.heap.size, 2, none⟩ = some (.int .i64 h2) ∧ w'.cell? ⟨w1.heap.size, 3, none⟩ = some (.int .i64 h3) ∧ w'.cell? ⟨w1.heap.size, 4, none⟩ = some (.int .i64 h4)) (go_keep)
    (first
    | (go_at_call 29; refine (join_ok h0 h1 h2 h3 h4 h5 h6 h7 h8 _).mono ?_; rintro e w2 ⟨rfl, hb2⟩; have HB2 := Lib.hid hb2; have HK2 := Lib.hid (HKA.out.drew.below hb2 HKA.out.lt); have HG2 := Lib.hid (HG.out.drew.below hb2 HG.out.lt); clear hb2; obtain ⟨a0, a1, a2, a3, a4, a5, a6, a7, a8⟩ := HK2.out.nine; obtain ⟨g0, g1, g2, g3, g4⟩ := HG2.out.five)
    | (go_at_call 15; refine (works_true _).mono ?_; rintro e w3 ⟨rfl, hb3⟩; have HB3 := Lib.hid hb3; have HK3 := Lib.hid (HK2.out.below hb3 HK2.out.lt); have HG3 := Lib.hid (HG2.out.below hb3 HG2.out.lt); clear hb3; obtain ⟨c0, c1, c2, c3, c4, c5, c6, c7, c8⟩ := HK3.out.nine; obtain ⟨d0, d1, d2, d3, d4⟩ := HG3.out.five))
  go_wp2
  go_ret
  have h1 : Below w.heap.size w W1 := by rw [HW1.out]; exact below_new (((Below.refl _ w).alloc (Nat.le_refl _) _).trans (HB1.out.mono (by simp))) _
  exact ⟨rfl, below_step (below_step h1.drew HB2.out) HB3.out⟩
end Go.Proofs.Ytejadoadpgcpjaa
