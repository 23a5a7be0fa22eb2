/- compress: stores into a context; begin; the comparison of two flows. -/
import Derived.Test.YtejadoadpgcpjaaGA
import Derived.Laws.StructEq
namespace Go.Proofs.Ytejadoadpgcpjaa
open Go.RowKit

attribute [local go_sem ↓] Go.wp_at_zero Go.wp_at_succ

/-- are two flows equal -/
def sameFlow (a0 a1 a2 a3 a4 b0 b1 b2 b3 b4 : Int) : Bool := a0 == b0 && (a1 == b1 && (a2 == b2 && (a3 == b3 && a4 == b4)))
theorem flow_eql (a0 a1 a2 a3 a4 b0 b1 b2 b3 b4 : Int) (W : World) : (binOp .eql 52 (.agg #[.int .i64 a0, .int .i64 a1, .int .i64 a2, .int .i64 a3, .int .i64 a4]) (.agg #[.int .i64 b0, .int .i64 b1, .int .i64 b2, .int .i64 b3, .int .i64 b4])).run Try.prog W = .ok (.bool (sameFlow a0 a1 a2 a3 a4 b0 b1 b2 b3 b4)) W := by
  unfold sameFlow
  by_cases h0 : a0 = b0 <;> by_cases h1 : a1 = b1 <;> by_cases h2 : a2 = b2 <;> by_cases h3 : a3 = b3 <;> by_cases h4 : a4 = b4 <;> simp [go_sem, h0, h1, h2, h3, h4]
theorem flow_neq (a0 a1 a2 a3 a4 b0 b1 b2 b3 b4 : Int) (W : World) : (binOp .neq 52 (.agg #[.int .i64 a0, .int .i64 a1, .int .i64 a2, .int .i64 a3, .int .i64 a4]) (.agg #[.int .i64 b0, .int .i64 b1, .int .i64 b2, .int .i64 b3, .int .i64 b4])).run Try.prog W = .ok (.bool (!sameFlow a0 a1 a2 a3 a4 b0 b1 b2 b3 b4)) W := by
  unfold sameFlow
  by_cases h0 : a0 = b0 <;> by_cases h1 : a1 = b1 <;> by_cases h2 : a2 = b2 <;> by_cases h3 : a3 = b3 <;> by_cases h4 : a4 = b4 <;> simp [go_sem, h0, h1, h2, h3, h4]

theorem fourteen {p : Nat → Prop} (h0 : p 0) (h1 : p 1) (h2 : p 2) (h3 : p 3) (h4 : p 4) (h5 : p 5) (h6 : p 6) (h7 : p 7) (h8 : p 8) (h9 : p 9) (h10 : p 10) (h11 : p 11) (h12 : p 12) (h13 : p 13) (k : Nat) (hk : k < 14) : p k := by
  match k, hk with
  | 0, _ => exact h0
  | 1, _ => exact h1
  | 2, _ => exact h2
  | 3, _ => exact h3
  | 4, _ => exact h4
  | 5, _ => exact h5
  | 6, _ => exact h6
  | 7, _ => exact h7
  | 8, _ => exact h8
  | 9, _ => exact h9
  | 10, _ => exact h10
  | 11, _ => exact h11
  | 12, _ => exact h12
  | 13, _ => exact h13

section
variable {w : World} {g : Nat} {made : Bool} {S : Nat → Rx} {T : Int} {i o : Nat} {c : Rx}
theorem CB.self (h : CB w g made S T) (i : Nat) : CB w g made (upd S i (S i)) T := by
  have : upd S i (S i) = S := by funext j; unfold upd; split <;> simp_all
  rw [this]; exact h
theorem CB.put (k : Nat) (d : Rx) (h : CB w g made (upd S i c) T) (hi : i < 16) (hk : k < 14) (ho : o = 1 + 14 * i) (hc : ∀ m, m < 14 → m ≠ k → d.cell m = c.cell m) {u : Value} (hu : u = d.cell k) :
    CB (w.setCell ⟨g, o + k, none⟩ u) g made (upd S i d) T := by
  have := CB.set h hi k hk ho d (by rw [upd_same]; exact hc) hu
  rwa [upd_upd] at this
theorem CB.hops_ (h : CB w g made (upd S i c) T) (hi : i < 16) (ho : o = 1 + 14 * i) (v : Int) : CB (w.setCell ⟨g, o, none⟩ (.int .i64 v)) g made (upd S i { c with hops := v }) T :=
  CB.put 0 { c with hops := v } h hi (by decide) ho (fun m hm => fourteen (p := fun m => m ≠ 0 → ({ c with hops := v } : Rx).cell m = c.cell m) (fun h => absurd rfl h) (fun _ => rfl) (fun _ => rfl) (fun _ => rfl) (fun _ => rfl) (fun _ => rfl) (fun _ => rfl) (fun _ => rfl) (fun _ => rfl) (fun _ => rfl) (fun _ => rfl) (fun _ => rfl) (fun _ => rfl) (fun _ => rfl) m hm) rfl
theorem CB.ident_ (h : CB w g made (upd S i c) T) (hi : i < 16) (ho : o = 1 + 14 * i) (v : Int) : CB (w.setCell ⟨g, o + 1, none⟩ (.int .i64 v)) g made (upd S i { c with ident := v }) T :=
  CB.put 1 { c with ident := v } h hi (by decide) ho (fun m hm => fourteen (p := fun m => m ≠ 1 → ({ c with ident := v } : Rx).cell m = c.cell m) (fun _ => rfl) (fun h => absurd rfl h) (fun _ => rfl) (fun _ => rfl) (fun _ => rfl) (fun _ => rfl) (fun _ => rfl) (fun _ => rfl) (fun _ => rfl) (fun _ => rfl) (fun _ => rfl) (fun _ => rfl) (fun _ => rfl) (fun _ => rfl) m hm) rfl
theorem CB.time_ (h : CB w g made (upd S i c) T) (hi : i < 16) (ho : o = 1 + 14 * i) (v : Int) : CB (w.setCell ⟨g, o + 2, none⟩ (.int .i64 v)) g made (upd S i { c with time := v }) T :=
  CB.put 2 { c with time := v } h hi (by decide) ho (fun m hm => fourteen (p := fun m => m ≠ 2 → ({ c with time := v } : Rx).cell m = c.cell m) (fun _ => rfl) (fun _ => rfl) (fun h => absurd rfl h) (fun _ => rfl) (fun _ => rfl) (fun _ => rfl) (fun _ => rfl) (fun _ => rfl) (fun _ => rfl) (fun _ => rfl) (fun _ => rfl) (fun _ => rfl) (fun _ => rfl) (fun _ => rfl) m hm) rfl
theorem CB.used_ (h : CB w g made (upd S i c) T) (hi : i < 16) (ho : o = 1 + 14 * i) (v : Bool) : CB (w.setCell ⟨g, o + 3, none⟩ (.bool v)) g made (upd S i { c with used := v }) T :=
  CB.put 3 { c with used := v } h hi (by decide) ho (fun m hm => fourteen (p := fun m => m ≠ 3 → ({ c with used := v } : Rx).cell m = c.cell m) (fun _ => rfl) (fun _ => rfl) (fun _ => rfl) (fun h => absurd rfl h) (fun _ => rfl) (fun _ => rfl) (fun _ => rfl) (fun _ => rfl) (fun _ => rfl) (fun _ => rfl) (fun _ => rfl) (fun _ => rfl) (fun _ => rfl) (fun _ => rfl) m hm) rfl
theorem CB.f0_ (h : CB w g made (upd S i c) T) (hi : i < 16) (ho : o = 1 + 14 * i) (v : Int) : CB (w.setCell ⟨g, o + 4, none⟩ (.int .i64 v)) g made (upd S i { c with f0 := v }) T :=
  CB.put 4 { c with f0 := v } h hi (by decide) ho (fun m hm => fourteen (p := fun m => m ≠ 4 → ({ c with f0 := v } : Rx).cell m = c.cell m) (fun _ => rfl) (fun _ => rfl) (fun _ => rfl) (fun _ => rfl) (fun h => absurd rfl h) (fun _ => rfl) (fun _ => rfl) (fun _ => rfl) (fun _ => rfl) (fun _ => rfl) (fun _ => rfl) (fun _ => rfl) (fun _ => rfl) (fun _ => rfl) m hm) rfl
theorem CB.f1_ (h : CB w g made (upd S i c) T) (hi : i < 16) (ho : o = 1 + 14 * i) (v : Int) : CB (w.setCell ⟨g, o + 5, none⟩ (.int .i64 v)) g made (upd S i { c with f1 := v }) T :=
  CB.put 5 { c with f1 := v } h hi (by decide) ho (fun m hm => fourteen (p := fun m => m ≠ 5 → ({ c with f1 := v } : Rx).cell m = c.cell m) (fun _ => rfl) (fun _ => rfl) (fun _ => rfl) (fun _ => rfl) (fun _ => rfl) (fun h => absurd rfl h) (fun _ => rfl) (fun _ => rfl) (fun _ => rfl) (fun _ => rfl) (fun _ => rfl) (fun _ => rfl) (fun _ => rfl) (fun _ => rfl) m hm) rfl
theorem CB.f2_ (h : CB w g made (upd S i c) T) (hi : i < 16) (ho : o = 1 + 14 * i) (v : Int) : CB (w.setCell ⟨g, o + 6, none⟩ (.int .i64 v)) g made (upd S i { c with f2 := v }) T :=
  CB.put 6 { c with f2 := v } h hi (by decide) ho (fun m hm => fourteen (p := fun m => m ≠ 6 → ({ c with f2 := v } : Rx).cell m = c.cell m) (fun _ => rfl) (fun _ => rfl) (fun _ => rfl) (fun _ => rfl) (fun _ => rfl) (fun _ => rfl) (fun h => absurd rfl h) (fun _ => rfl) (fun _ => rfl) (fun _ => rfl) (fun _ => rfl) (fun _ => rfl) (fun _ => rfl) (fun _ => rfl) m hm) rfl
theorem CB.f3_ (h : CB w g made (upd S i c) T) (hi : i < 16) (ho : o = 1 + 14 * i) (v : Int) : CB (w.setCell ⟨g, o + 7, none⟩ (.int .i64 v)) g made (upd S i { c with f3 := v }) T :=
  CB.put 7 { c with f3 := v } h hi (by decide) ho (fun m hm => fourteen (p := fun m => m ≠ 7 → ({ c with f3 := v } : Rx).cell m = c.cell m) (fun _ => rfl) (fun _ => rfl) (fun _ => rfl) (fun _ => rfl) (fun _ => rfl) (fun _ => rfl) (fun _ => rfl) (fun h => absurd rfl h) (fun _ => rfl) (fun _ => rfl) (fun _ => rfl) (fun _ => rfl) (fun _ => rfl) (fun _ => rfl) m hm) rfl
theorem CB.f4_ (h : CB w g made (upd S i c) T) (hi : i < 16) (ho : o = 1 + 14 * i) (v : Int) : CB (w.setCell ⟨g, o + 8, none⟩ (.int .i64 v)) g made (upd S i { c with f4 := v }) T :=
  CB.put 8 { c with f4 := v } h hi (by decide) ho (fun m hm => fourteen (p := fun m => m ≠ 8 → ({ c with f4 := v } : Rx).cell m = c.cell m) (fun _ => rfl) (fun _ => rfl) (fun _ => rfl) (fun _ => rfl) (fun _ => rfl) (fun _ => rfl) (fun _ => rfl) (fun _ => rfl) (fun h => absurd rfl h) (fun _ => rfl) (fun _ => rfl) (fun _ => rfl) (fun _ => rfl) (fun _ => rfl) m hm) rfl
theorem CB.began_ (h : CB w g made (upd S i c) T) (hi : i < 16) (ho : o = 1 + 14 * i) (v : Bool) : CB (w.setCell ⟨g, o + 9, none⟩ (.bool v)) g made (upd S i { c with began := v }) T :=
  CB.put 9 { c with began := v } h hi (by decide) ho (fun m hm => fourteen (p := fun m => m ≠ 9 → ({ c with began := v } : Rx).cell m = c.cell m) (fun _ => rfl) (fun _ => rfl) (fun _ => rfl) (fun _ => rfl) (fun _ => rfl) (fun _ => rfl) (fun _ => rfl) (fun _ => rfl) (fun _ => rfl) (fun h => absurd rfl h) (fun _ => rfl) (fun _ => rfl) (fun _ => rfl) (fun _ => rfl) m hm) rfl
theorem CB.gen_ (h : CB w g made (upd S i c) T) (hi : i < 16) (ho : o = 1 + 14 * i) (v : Int) : CB (w.setCell ⟨g, o + 10, none⟩ (.int .u8 v)) g made (upd S i { c with gen := v }) T :=
  CB.put 10 { c with gen := v } h hi (by decide) ho (fun m hm => fourteen (p := fun m => m ≠ 10 → ({ c with gen := v } : Rx).cell m = c.cell m) (fun _ => rfl) (fun _ => rfl) (fun _ => rfl) (fun _ => rfl) (fun _ => rfl) (fun _ => rfl) (fun _ => rfl) (fun _ => rfl) (fun _ => rfl) (fun _ => rfl) (fun h => absurd rfl h) (fun _ => rfl) (fun _ => rfl) (fun _ => rfl) m hm) rfl
theorem CB.step_ (h : CB w g made (upd S i c) T) (hi : i < 16) (ho : o = 1 + 14 * i) (v : Int) : CB (w.setCell ⟨g, o + 11, none⟩ (.int .i64 v)) g made (upd S i { c with step := v }) T :=
  CB.put 11 { c with step := v } h hi (by decide) ho (fun m hm => fourteen (p := fun m => m ≠ 11 → ({ c with step := v } : Rx).cell m = c.cell m) (fun _ => rfl) (fun _ => rfl) (fun _ => rfl) (fun _ => rfl) (fun _ => rfl) (fun _ => rfl) (fun _ => rfl) (fun _ => rfl) (fun _ => rfl) (fun _ => rfl) (fun _ => rfl) (fun h => absurd rfl h) (fun _ => rfl) (fun _ => rfl) m hm) rfl
theorem CB.need_ (h : CB w g made (upd S i c) T) (hi : i < 16) (ho : o = 1 + 14 * i) (v : Bool) : CB (w.setCell ⟨g, o + 12, none⟩ (.bool v)) g made (upd S i { c with need := v }) T :=
  CB.put 12 { c with need := v } h hi (by decide) ho (fun m hm => fourteen (p := fun m => m ≠ 12 → ({ c with need := v } : Rx).cell m = c.cell m) (fun _ => rfl) (fun _ => rfl) (fun _ => rfl) (fun _ => rfl) (fun _ => rfl) (fun _ => rfl) (fun _ => rfl) (fun _ => rfl) (fun _ => rfl) (fun _ => rfl) (fun _ => rfl) (fun _ => rfl) (fun h => absurd rfl h) (fun _ => rfl) m hm) rfl
theorem CB.turnc_ (h : CB w g made (upd S i c) T) (hi : i < 16) (ho : o = 1 + 14 * i) (v : Int) : CB (w.setCell ⟨g, o + 13, none⟩ (.int .i64 v)) g made (upd S i { c with turn := v }) T :=
  CB.put 13 { c with turn := v } h hi (by decide) ho (fun m hm => fourteen (p := fun m => m ≠ 13 → ({ c with turn := v } : Rx).cell m = c.cell m) (fun _ => rfl) (fun _ => rfl) (fun _ => rfl) (fun _ => rfl) (fun _ => rfl) (fun _ => rfl) (fun _ => rfl) (fun _ => rfl) (fun _ => rfl) (fun _ => rfl) (fun _ => rfl) (fun _ => rfl) (fun _ => rfl) (fun h => absurd rfl h) m hm) rfl
theorem CB.hops_b {v : Int} (t0 : Int) (h : CB w g made (upd S i { c with hops := t0 }) T) (hi : i < 16) (ho : o = 1 + 14 * i) (hv : c.hops = v) : CB (w.setCell ⟨g, o, none⟩ (.int .i64 v)) g made (upd S i c) T := by
  have := h.hops_ hi ho c.hops
  rw [← hv]; exact this
theorem CB.ident_b {v : Int} (t0 : Int) (h : CB w g made (upd S i { c with ident := t0 }) T) (hi : i < 16) (ho : o = 1 + 14 * i) (hv : c.ident = v) : CB (w.setCell ⟨g, o + 1, none⟩ (.int .i64 v)) g made (upd S i c) T := by
  have := h.ident_ hi ho c.ident
  rw [← hv]; exact this
theorem CB.time_b {v : Int} (t0 : Int) (h : CB w g made (upd S i { c with time := t0 }) T) (hi : i < 16) (ho : o = 1 + 14 * i) (hv : c.time = v) : CB (w.setCell ⟨g, o + 2, none⟩ (.int .i64 v)) g made (upd S i c) T := by
  have := h.time_ hi ho c.time
  rw [← hv]; exact this
theorem CB.used_b {v : Bool} (t0 : Bool) (h : CB w g made (upd S i { c with used := t0 }) T) (hi : i < 16) (ho : o = 1 + 14 * i) (hv : c.used = v) : CB (w.setCell ⟨g, o + 3, none⟩ (.bool v)) g made (upd S i c) T := by
  have := h.used_ hi ho c.used
  rw [← hv]; exact this
theorem CB.f0_b {v : Int} (t0 : Int) (h : CB w g made (upd S i { c with f0 := t0 }) T) (hi : i < 16) (ho : o = 1 + 14 * i) (hv : c.f0 = v) : CB (w.setCell ⟨g, o + 4, none⟩ (.int .i64 v)) g made (upd S i c) T := by
  have := h.f0_ hi ho c.f0
  rw [← hv]; exact this
theorem CB.f1_b {v : Int} (t0 : Int) (h : CB w g made (upd S i { c with f1 := t0 }) T) (hi : i < 16) (ho : o = 1 + 14 * i) (hv : c.f1 = v) : CB (w.setCell ⟨g, o + 5, none⟩ (.int .i64 v)) g made (upd S i c) T := by
  have := h.f1_ hi ho c.f1
  rw [← hv]; exact this
theorem CB.f2_b {v : Int} (t0 : Int) (h : CB w g made (upd S i { c with f2 := t0 }) T) (hi : i < 16) (ho : o = 1 + 14 * i) (hv : c.f2 = v) : CB (w.setCell ⟨g, o + 6, none⟩ (.int .i64 v)) g made (upd S i c) T := by
  have := h.f2_ hi ho c.f2
  rw [← hv]; exact this
theorem CB.f3_b {v : Int} (t0 : Int) (h : CB w g made (upd S i { c with f3 := t0 }) T) (hi : i < 16) (ho : o = 1 + 14 * i) (hv : c.f3 = v) : CB (w.setCell ⟨g, o + 7, none⟩ (.int .i64 v)) g made (upd S i c) T := by
  have := h.f3_ hi ho c.f3
  rw [← hv]; exact this
theorem CB.f4_b {v : Int} (t0 : Int) (h : CB w g made (upd S i { c with f4 := t0 }) T) (hi : i < 16) (ho : o = 1 + 14 * i) (hv : c.f4 = v) : CB (w.setCell ⟨g, o + 8, none⟩ (.int .i64 v)) g made (upd S i c) T := by
  have := h.f4_ hi ho c.f4
  rw [← hv]; exact this
theorem CB.began_b {v : Bool} (t0 : Bool) (h : CB w g made (upd S i { c with began := t0 }) T) (hi : i < 16) (ho : o = 1 + 14 * i) (hv : c.began = v) : CB (w.setCell ⟨g, o + 9, none⟩ (.bool v)) g made (upd S i c) T := by
  have := h.began_ hi ho c.began
  rw [← hv]; exact this
theorem CB.gen_b {v : Int} (t0 : Int) (h : CB w g made (upd S i { c with gen := t0 }) T) (hi : i < 16) (ho : o = 1 + 14 * i) (hv : c.gen = v) : CB (w.setCell ⟨g, o + 10, none⟩ (.int .u8 v)) g made (upd S i c) T := by
  have := h.gen_ hi ho c.gen
  rw [← hv]; exact this
theorem CB.step_b {v : Int} (t0 : Int) (h : CB w g made (upd S i { c with step := t0 }) T) (hi : i < 16) (ho : o = 1 + 14 * i) (hv : c.step = v) : CB (w.setCell ⟨g, o + 11, none⟩ (.int .i64 v)) g made (upd S i c) T := by
  have := h.step_ hi ho c.step
  rw [← hv]; exact this
theorem CB.need_b {v : Bool} (t0 : Bool) (h : CB w g made (upd S i { c with need := t0 }) T) (hi : i < 16) (ho : o = 1 + 14 * i) (hv : c.need = v) : CB (w.setCell ⟨g, o + 12, none⟩ (.bool v)) g made (upd S i c) T := by
  have := h.need_ hi ho c.need
  rw [← hv]; exact this
theorem CB.turn_b {v : Int} (t0 : Int) (h : CB w g made (upd S i { c with turn := t0 }) T) (hi : i < 16) (ho : o = 1 + 14 * i) (hv : c.turn = v) : CB (w.setCell ⟨g, o + 13, none⟩ (.int .i64 v)) g made (upd S i c) T := by
  have := h.turnc_ hi ho c.turn
  rw [← hv]; exact this
theorem CB.cells (h : CB w g made S T) (hi : i < 16) (ho : o = 1 + 14 * i) :
    w.cell? ⟨g, o, none⟩ = some (.int .i64 (S i).hops) ∧
    w.cell? ⟨g, o + 1, none⟩ = some (.int .i64 (S i).ident) ∧
    w.cell? ⟨g, o + 2, none⟩ = some (.int .i64 (S i).time) ∧
    w.cell? ⟨g, o + 3, none⟩ = some (.bool (S i).used) ∧
    w.cell? ⟨g, o + 4, none⟩ = some (.int .i64 (S i).f0) ∧
    w.cell? ⟨g, o + 5, none⟩ = some (.int .i64 (S i).f1) ∧
    w.cell? ⟨g, o + 6, none⟩ = some (.int .i64 (S i).f2) ∧
    w.cell? ⟨g, o + 7, none⟩ = some (.int .i64 (S i).f3) ∧
    w.cell? ⟨g, o + 8, none⟩ = some (.int .i64 (S i).f4) ∧
    w.cell? ⟨g, o + 9, none⟩ = some (.bool (S i).began) ∧
    w.cell? ⟨g, o + 10, none⟩ = some (.int .u8 (S i).gen) ∧
    w.cell? ⟨g, o + 11, none⟩ = some (.int .i64 (S i).step) ∧
    w.cell? ⟨g, o + 12, none⟩ = some (.bool (S i).need) ∧
    w.cell? ⟨g, o + 13, none⟩ = some (.int .i64 (S i).turn) :=
  ⟨h.ctx hi 0 (by decide) ho, h.ctx hi 1 (by decide) ho, h.ctx hi 2 (by decide) ho, h.ctx hi 3 (by decide) ho, h.ctx hi 4 (by decide) ho, h.ctx hi 5 (by decide) ho, h.ctx hi 6 (by decide) ho, h.ctx hi 7 (by decide) ho, h.ctx hi 8 (by decide) ho, h.ctx hi 9 (by decide) ho, h.ctx hi 10 (by decide) ho, h.ctx hi 11 (by decide) ho, h.ctx hi 12 (by decide) ho, h.ctx hi 13 (by decide) ho⟩
theorem CB.cellsU (h : CB w g made (upd S i c) T) (hi : i < 16) (ho : o = 1 + 14 * i) :
    w.cell? ⟨g, o, none⟩ = some (.int .i64 c.hops) ∧
    w.cell? ⟨g, o + 1, none⟩ = some (.int .i64 c.ident) ∧
    w.cell? ⟨g, o + 2, none⟩ = some (.int .i64 c.time) ∧
    w.cell? ⟨g, o + 3, none⟩ = some (.bool c.used) ∧
    w.cell? ⟨g, o + 4, none⟩ = some (.int .i64 c.f0) ∧
    w.cell? ⟨g, o + 5, none⟩ = some (.int .i64 c.f1) ∧
    w.cell? ⟨g, o + 6, none⟩ = some (.int .i64 c.f2) ∧
    w.cell? ⟨g, o + 7, none⟩ = some (.int .i64 c.f3) ∧
    w.cell? ⟨g, o + 8, none⟩ = some (.int .i64 c.f4) ∧
    w.cell? ⟨g, o + 9, none⟩ = some (.bool c.began) ∧
    w.cell? ⟨g, o + 10, none⟩ = some (.int .u8 c.gen) ∧
    w.cell? ⟨g, o + 11, none⟩ = some (.int .i64 c.step) ∧
    w.cell? ⟨g, o + 12, none⟩ = some (.bool c.need) ∧
    w.cell? ⟨g, o + 13, none⟩ = some (.int .i64 c.turn) := by
  have := h.cells hi ho
  rwa [upd_same] at this
end

theorem blk_new_at (w : World) (t : TypeId) (cs : Array Value) (n : Nat) (hn : w.heap.size = n) : Blk (w.alloc (.cells cs t)) n t cs := by subst hn; exact Blk.new w t cs
theorem World.grownBy_refl (w : World) (row : Option Nat) : w.grownBy w row := ⟨rfl, rfl, rfl, Nat.le_refl _, fun _ _ _ => rfl⟩
theorem cb_to {w : World} {g : Nat} {made : Bool} {S : Nat → Rx} {T : Int} {i : Nat} {c d : Rx} (h : CB w g made (upd S i d) T) (e : d = c) : CB w g made (upd S i c) T := e ▸ h
theorem CB.undrew {w : World} {g : Nat} {made : Bool} {S : Nat → Rx} {T : Int} (h : CB w g made S T) : CB w.drew g made S T := h
theorem grownBy_drew {w w' : World} {row : Option Nat} (h : w.grownBy w' row) : w.grownBy w'.drew row := ⟨h.os, h.tape, h.output, h.size, h.block⟩
/-- a context after begin -/
def begun (c : Rx) (h5 h6 h7 step : Int) : Rx := { c with gen := if c.began then (c.gen + 1) % 256 else c.gen, began := true, step := step, hops := h5, ident := h6, time := h7 }
def Keep1 (g : Nat) (w w' : World) : Prop := w.grownBy w' (some g)

set_option maxRecDepth 100000 in
set_option maxHeartbeats 3200000 in
theorem begin_ok (g i o : Nat) (made : Bool) (S : Nat → Rx) (T : Int) (h0 h1 h2 h3 h4 h5 h6 h7 h8 step : Int) (hi : i < 16) (ho : o = 1 + 14 * i) (w : World) (h : CB w g made S T) :
    Calls Try.prog 94 #[.pointer (some ⟨g, o, none⟩), .agg #[.int .i64 h0, .int .i64 h1, .int .i64 h2, .int .i64 h3, .int .i64 h4, .int .i64 h5, .int .i64 h6, .int .i64 h7, .int .i64 h8], .int .i64 step] w fun e w' =>
      e = .returned (.tuple #[]) ∧ CB w' g made (upd S i (begun (S i) h5 h6 h7 step)) T ∧ Keep1 g w w' := by
  have hgl := h.lt
  have hne : g ≠ w.heap.size := by omega
  have hne2 : w.heap.size ≠ g := by omega
  obtain ⟨c0, c1, c2, c3, c4, c5, c6, c7, c8, c9, c10, c11, c12, c13⟩ := h.cells hi ho
  have z0 := h.fr (o)
  have z1 := h.fr (o + 1)
  have z2 := h.fr (o + 2)
  have z5 := h.fr (o + 5)
  have z3 := h.fr (o + 3)
  have z9 := h.fr (o + 9)
  have z10 := h.fr (o + 10)
  have z11 := h.fr (o + 11)
  have HH := Lib.hid (h.self i)
  have HO := Lib.hid ho
  have HG := Lib.hid hgl
  obtain ⟨x, hx⟩ : ∃ x, x = S i := ⟨_, rfl⟩
  rw [← hx] at HH c0 c1 c2 c3 c4 c5 c6 c7 c8 c9 c10 c11 c12 c13 ⊢
  have HX := Lib.hid hx
  clear h ho hx
  obtain ⟨b, hb⟩ : ∃ b, b = x.began := ⟨_, rfl⟩
  rw [← hb] at c9
  have HB := Lib.hid hb
  clear hb
  have hbg : begun x h5 h6 h7 step = ⟨h5, h6, h7, x.used, x.f0, x.f1, x.f2, x.f3, x.f4, true, if b then (x.gen + 1) % 256 else x.gen, step, x.need, x.turn⟩ := by unfold begun; rw [HB.out]
  rw [hbg]
  clear hbg
  cases b
  · go_enter Try.func94, Try.ntmps94
    go_wp2
    obtain ⟨W1, hW1⟩ : ∃ W1, W1 = w.alloc (.cells #[.int .i64 h0, .int .i64 h1, .int .i64 h2, .int .i64 h3, .int .i64 h4, .int .i64 h5, .int .i64 h6, .int .i64 h7, .int .i64 h8] 25) := ⟨_, rfl⟩
    have KB := Lib.hid (show CB W1 g made (upd S i _) T by rw [hW1]; exact HH.out.alloc _)
    have KH : Blk W1 w.heap.size 25 #[.int .i64 h0, .int .i64 h1, .int .i64 h2, .int .i64 h3, .int .i64 h4, .int .i64 h5, .int .i64 h6, .int .i64 h7, .int .i64 h8] := by rw [hW1]; exact blk_new_at w _ _ _ rfl
    have KG := Lib.hid (show w.grownBy W1 (some g) by rw [hW1]; exact World.grownBy_alloc _ _ _)
    rw [← hW1]
    clear hW1 c0 c1 c2 c3 c4 c5 c6 c7 c8 c9 c10 c11 c12 c13 z0 z1 z2 z5 z3 z9 z10 z11
    obtain ⟨d0, d1, d2, d3, d4, d5, d6, d7, d8, d9, d10, d11, d12, d13⟩ := KB.out.cellsU hi HO.out
    have y0 := KB.out.fr (o)
    have y1 := KB.out.fr (o + 1)
    have y2 := KB.out.fr (o + 2)
    have y9 := KB.out.fr (o + 9)
    have y11 := KB.out.fr (o + 11)
    have p5 := KH.cell 5
    have p6 := KH.cell 6
    have p7 := KH.cell 7
    go_region_held3 (fun w' => w'.cell? ⟨w.heap.size, 5, none⟩ = some (.int .i64 h5) ∧ w'.cell? ⟨w.heap.size, 6, none⟩ = some (.int .i64 h6) ∧ w'.cell? ⟨w.heap.size, 7, none⟩ = some (.int .i64 h7)) (go_keep) ((fail))
    all_goals
      go_wp2
      go_end0
      refine ⟨rfl, ?_, ?_⟩
      · repeat (first | with_reducible exact KB.out | with_reducible refine CB.undrew ?_ | with_reducible refine CB.began_b x.began ?_ hi HO.out rfl | with_reducible refine CB.step_b x.step ?_ hi HO.out rfl | with_reducible refine CB.hops_b x.hops ?_ hi HO.out rfl | with_reducible refine CB.ident_b x.ident ?_ hi HO.out rfl | with_reducible refine CB.time_b x.time ?_ hi HO.out rfl)
      · unfold Keep1; repeat (first | with_reducible exact KG.out | with_reducible refine grownBy_set ?_ _ _ | with_reducible refine grownBy_drew ?_)
  · go_enter Try.func94, Try.ntmps94
    go_wp2
    obtain ⟨W1, hW1⟩ : ∃ W1, W1 = (w.setCell ⟨g, o + 10, none⟩ (.int .u8 ((x.gen + 1) % 256))).alloc (.cells #[.int .i64 h0, .int .i64 h1, .int .i64 h2, .int .i64 h3, .int .i64 h4, .int .i64 h5, .int .i64 h6, .int .i64 h7, .int .i64 h8] 25) := ⟨_, rfl⟩
    have KB := Lib.hid (show CB W1 g made (upd S i _) T by rw [hW1]; exact (HH.out.gen_ hi HO.out _).alloc _)
    have KH : Blk W1 w.heap.size 25 #[.int .i64 h0, .int .i64 h1, .int .i64 h2, .int .i64 h3, .int .i64 h4, .int .i64 h5, .int .i64 h6, .int .i64 h7, .int .i64 h8] := by rw [hW1]; exact blk_new_at _ _ _ _ (by simp)
    have KG := Lib.hid (show w.grownBy W1 (some g) by rw [hW1]; exact (grownBy_set (World.grownBy_refl w _) _ _).trans (World.grownBy_alloc _ _ _))
    rw [← hW1]
    clear hW1 c0 c1 c2 c3 c4 c5 c6 c7 c8 c9 c10 c11 c12 c13 z0 z1 z2 z5 z3 z9 z10 z11
    obtain ⟨d0, d1, d2, d3, d4, d5, d6, d7, d8, d9, d10, d11, d12, d13⟩ := KB.out.cellsU hi HO.out
    have y0 := KB.out.fr (o)
    have y1 := KB.out.fr (o + 1)
    have y2 := KB.out.fr (o + 2)
    have y9 := KB.out.fr (o + 9)
    have y11 := KB.out.fr (o + 11)
    have p5 := KH.cell 5
    have p6 := KH.cell 6
    have p7 := KH.cell 7
    go_region_held3 (fun w' => w'.cell? ⟨w.heap.size, 5, none⟩ = some (.int .i64 h5) ∧ w'.cell? ⟨w.heap.size, 6, none⟩ = some (.int .i64 h6) ∧ w'.cell? ⟨w.heap.size, 7, none⟩ = some (.int .i64 h7)) (go_keep) ((fail))
    all_goals
      go_wp2
      go_end0
      refine ⟨rfl, ?_, ?_⟩
      · repeat (first | with_reducible exact KB.out | with_reducible refine CB.undrew ?_ | with_reducible refine CB.began_b x.began ?_ hi HO.out rfl | with_reducible refine CB.step_b x.step ?_ hi HO.out rfl | with_reducible refine CB.hops_b x.hops ?_ hi HO.out rfl | with_reducible refine CB.ident_b x.ident ?_ hi HO.out rfl | with_reducible refine CB.time_b x.time ?_ hi HO.out rfl)
      · unfold Keep1; repeat (first | with_reducible exact KG.out | with_reducible refine grownBy_set ?_ _ _ | with_reducible refine grownBy_drew ?_)
end Go.Proofs.Ytejadoadpgcpjaa
