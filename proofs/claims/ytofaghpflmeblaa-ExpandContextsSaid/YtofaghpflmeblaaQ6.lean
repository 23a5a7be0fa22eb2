/- expand: the Expander in memory; the closures that Expand defers. expand: what Expand computes; its ends. expand: Expand. -/
import Derived.Test.YtofaghpflmeblaaQ5
import Derived.Test.YtofaghpflmeblaaQ3
namespace Go.Proofs.Ytofaghpflmeblaa
open Go.RowKit
set_option linter.unusedVariables false

attribute [local go_sem] Oper.semAt_some
attribute [local go_sem ↓] Go.wp_at_zero Go.wp_at_succ

def updE (S : Nat → Ec) (i : Nat) (c : Ec) : Nat → Ec := fun j => if j = i then c else S j
theorem updE_same (S : Nat → Ec) (i : Nat) (c : Ec) : updE S i c i = c := if_pos rfl
theorem updE_upd (S : Nat → Ec) (i : Nat) (c d : Ec) : updE (updE S i c) i d = updE S i d := by
  funext j; unfold updE; split <;> rfl
theorem updE_self (S : Nat → Ec) (i : Nat) : updE S i (S i) = S := by funext j; unfold updE; split <;> simp_all
def eval_ (made : Bool) (S : Nat → Ec) (j : Nat) : Value := if j = 0 then .bool made else (S ((j - 1) / 11)).cell ((j - 1) % 11)
def esArr (made : Bool) (S : Nat → Ec) : Array Value := Array.ofFn (n := 177) fun j => eval_ made S j.1
theorem esArr_size (made : Bool) (S : Nat → Ec) : (esArr made S).size = 177 := by simp [esArr]
theorem esArr_at (made : Bool) (S : Nat → Ec) (j : Nat) (hj : j < 177) : (esArr made S)[j]? = some (eval_ made S j) := by
  unfold esArr; simp [hj]
theorem esArr_ctx (made : Bool) (S : Nat → Ec) (i k : Nat) (hi : i < 16) (hk : k < 11) : (esArr made S)[1 + i * 11 + k]? = some ((S i).cell k) := by
  rw [esArr_at _ _ _ (by omega)]
  unfold eval_
  rw [if_neg (by omega), show (1 + i * 11 + k - 1) / 11 = i by omega, show (1 + i * 11 + k - 1) % 11 = k by omega]
/-- block g is an Expander -/
def EB (w : World) (g : Nat) (made : Bool) (S : Nat → Ec) : Prop := Blk w g 62 (esArr made S)
theorem eleven {p : Nat → Prop} (h0 : p 0) (h1 : p 1) (h2 : p 2) (h3 : p 3) (h4 : p 4) (h5 : p 5) (h6 : p 6) (h7 : p 7) (h8 : p 8) (h9 : p 9) (h10 : p 10) (k : Nat) (hk : k < 11) : p k := by
  match k, hk with
  | 0, _ => exact h0
  | 1, _ => exact h1
  | 2, _ => exact h2
  | 3, _ => exact h3
  | 4, _ => exact h4
  | 5, _ => exact h5
  | 6, _ => exact h6
  | 7, _ => exact h7
  | 8, _ => exact h8
  | 9, _ => exact h9
  | 10, _ => exact h10
section
variable {w : World} {g : Nat} {made : Bool} {S : Nat → Ec} {i : Nat} {c : Ec}
theorem EB.made_ (h : EB w g made S) : w.cell? ⟨g, 0, none⟩ = some (.bool made) := (Blk.cell h 0).trans (esArr_at _ _ 0 (by decide))
theorem EB.ctx (h : EB w g made S) (hi : i < 16) (k : Nat) (hk : k < 11) : w.cell? ⟨g, 1 + i * 11 + k, none⟩ = some ((S i).cell k) := (Blk.cell h _).trans (esArr_ctx _ _ i k hi hk)
theorem EB.fr (h : EB w g made S) (j : Nat) : w.frozen? ⟨g, j, none⟩ = false := Blk.frozen h j
theorem EB.set (h : EB w g made (updE S i c)) (hi : i < 16) (k : Nat) (hk : k < 11) (d : Ec) (hc : ∀ m, m < 11 → m ≠ k → d.cell m = c.cell m) {u : Value} (hu : u = d.cell k) :
    EB (w.setCell ⟨g, 1 + i * 11 + k, none⟩ u) g made (updE S i d) := by
  subst hu
  have h2 := Blk.set_ h (1 + i * 11 + k) (d.cell k)
  unfold EB
  have e : (esArr made (updE S i c)).setIfInBounds (1 + i * 11 + k) (d.cell k) = esArr made (updE S i d) := by
    apply Array.ext_getElem?
    intro j
    rw [Array.getElem?_setIfInBounds]
    by_cases hj : j < 177
    · rw [esArr_at _ _ j hj, esArr_at _ _ j hj]
      by_cases hjk : 1 + i * 11 + k = j
      · subst hjk
        rw [if_pos rfl, if_pos (by rw [esArr_size]; omega)]
        unfold eval_
        rw [if_neg (by omega), show (1 + i * 11 + k - 1) / 11 = i by omega, show (1 + i * 11 + k - 1) % 11 = k by omega, updE_same]
      · rw [if_neg hjk]
        unfold eval_
        by_cases h0 : j = 0
        · rw [if_pos h0, if_pos h0]
        · rw [if_neg h0, if_neg h0]
          by_cases hi2 : (j - 1) / 11 = i
          · rw [hi2, updE_same, updE_same, hc _ (by omega) (by omega)]
          · unfold updE; rw [if_neg hi2, if_neg hi2]
    · rw [Array.getElem?_eq_none (by rw [esArr_size]; omega), Array.getElem?_eq_none (by rw [esArr_size]; omega)]
      split
      · rename_i hh; rw [if_neg (by rw [esArr_size]; omega)]
      · rfl
  rw [e] at h2
  exact h2
theorem EB.drew_ (h : EB w g made S) : EB w.drew g made S := h
theorem EB.alloc (h : EB w g made S) (o : Obj) : EB (w.alloc o) g made S := Blk.alloc h o
theorem EB.far (h : EB w g made S) {p : Addr} (hp : g ≠ p.block) (u : Value) : EB (w.setCell p u) g made S := Blk.far h hp u
theorem EB.below {w' : World} {B : Nat} (h : EB w g made S) (hb : Below B w w') (hg : g < B) : EB w' g made S := Blk.below h hb hg
theorem EB.lt (h : EB w g made S) : g < w.heap.size := Blk.lt h
theorem EB.cells (h : EB w g made S) (hi : i < 16) : w.cell? ⟨g, 1 + i * 11, none⟩ = some (.int .i64 (S i).hops) ∧ w.cell? ⟨g, 1 + i * 11 + 1, none⟩ = some (.int .i64 (S i).ident) ∧ w.cell? ⟨g, 1 + i * 11 + 2, none⟩ = some (.int .i64 (S i).time) ∧ w.cell? ⟨g, 1 + i * 11 + 3, none⟩ = some (.bool (S i).valid) ∧ w.cell? ⟨g, 1 + i * 11 + 4, none⟩ = some (.int .i64 (S i).f0) ∧ w.cell? ⟨g, 1 + i * 11 + 5, none⟩ = some (.int .i64 (S i).f1) ∧ w.cell? ⟨g, 1 + i * 11 + 6, none⟩ = some (.int .i64 (S i).f2) ∧ w.cell? ⟨g, 1 + i * 11 + 7, none⟩ = some (.int .i64 (S i).f3) ∧ w.cell? ⟨g, 1 + i * 11 + 8, none⟩ = some (.int .i64 (S i).f4) ∧ w.cell? ⟨g, 1 + i * 11 + 9, none⟩ = some (.int .u8 (S i).gen) ∧ w.cell? ⟨g, 1 + i * 11 + 10, none⟩ = some (.int .i64 (S i).step) :=
  ⟨h.ctx hi 0 (by decide), h.ctx hi 1 (by decide), h.ctx hi 2 (by decide), h.ctx hi 3 (by decide), h.ctx hi 4 (by decide), h.ctx hi 5 (by decide), h.ctx hi 6 (by decide), h.ctx hi 7 (by decide), h.ctx hi 8 (by decide), h.ctx hi 9 (by decide), h.ctx hi 10 (by decide)⟩
theorem EB.all (h : EB w g made S) (hi : i < 16) (c : Ec) : EB (((((((((((w.setCell ⟨g, 1 + i * 11, none⟩ (.int .i64 c.hops)).setCell ⟨g, 1 + i * 11 + 1, none⟩ (.int .i64 c.ident)).setCell ⟨g, 1 + i * 11 + 2, none⟩ (.int .i64 c.time)).setCell ⟨g, 1 + i * 11 + 3, none⟩ (.bool c.valid)).setCell ⟨g, 1 + i * 11 + 4, none⟩ (.int .i64 c.f0)).setCell ⟨g, 1 + i * 11 + 5, none⟩ (.int .i64 c.f1)).setCell ⟨g, 1 + i * 11 + 6, none⟩ (.int .i64 c.f2)).setCell ⟨g, 1 + i * 11 + 7, none⟩ (.int .i64 c.f3)).setCell ⟨g, 1 + i * 11 + 8, none⟩ (.int .i64 c.f4)).setCell ⟨g, 1 + i * 11 + 9, none⟩ (.int .u8 c.gen)).setCell ⟨g, 1 + i * 11 + 10, none⟩ (.int .i64 c.step)) g made (updE S i c) := by
  have h0 : EB w g made (updE S i (S i)) := by rw [updE_self]; exact h
  have h1 := EB.set h0 hi 0 (by decide) ({ (S i) with hops := c.hops } : Ec) (eleven (p := fun m => m ≠ 0 → ({ (S i) with hops := c.hops } : Ec).cell m = ((S i) : Ec).cell m) (fun h => absurd rfl h) (fun _ => rfl) (fun _ => rfl) (fun _ => rfl) (fun _ => rfl) (fun _ => rfl) (fun _ => rfl) (fun _ => rfl) (fun _ => rfl) (fun _ => rfl) (fun _ => rfl)) (u := .int .i64 c.hops) rfl
  have h2 := EB.set h1 hi 1 (by decide) ({ (S i) with hops := c.hops, ident := c.ident } : Ec) (eleven (p := fun m => m ≠ 1 → ({ (S i) with hops := c.hops, ident := c.ident } : Ec).cell m = ({ (S i) with hops := c.hops } : Ec).cell m) (fun _ => rfl) (fun h => absurd rfl h) (fun _ => rfl) (fun _ => rfl) (fun _ => rfl) (fun _ => rfl) (fun _ => rfl) (fun _ => rfl) (fun _ => rfl) (fun _ => rfl) (fun _ => rfl)) (u := .int .i64 c.ident) rfl
  have h3 := EB.set h2 hi 2 (by decide) ({ (S i) with hops := c.hops, ident := c.ident, time := c.time } : Ec) (eleven (p := fun m => m ≠ 2 → ({ (S i) with hops := c.hops, ident := c.ident, time := c.time } : Ec).cell m = ({ (S i) with hops := c.hops, ident := c.ident } : Ec).cell m) (fun _ => rfl) (fun _ => rfl) (fun h => absurd rfl h) (fun _ => rfl) (fun _ => rfl) (fun _ => rfl) (fun _ => rfl) (fun _ => rfl) (fun _ => rfl) (fun _ => rfl) (fun _ => rfl)) (u := .int .i64 c.time) rfl
  have h4 := EB.set h3 hi 3 (by decide) ({ (S i) with hops := c.hops, ident := c.ident, time := c.time, valid := c.valid } : Ec) (eleven (p := fun m => m ≠ 3 → ({ (S i) with hops := c.hops, ident := c.ident, time := c.time, valid := c.valid } : Ec).cell m = ({ (S i) with hops := c.hops, ident := c.ident, time := c.time } : Ec).cell m) (fun _ => rfl) (fun _ => rfl) (fun _ => rfl) (fun h => absurd rfl h) (fun _ => rfl) (fun _ => rfl) (fun _ => rfl) (fun _ => rfl) (fun _ => rfl) (fun _ => rfl) (fun _ => rfl)) (u := .bool c.valid) rfl
  have h5 := EB.set h4 hi 4 (by decide) ({ (S i) with hops := c.hops, ident := c.ident, time := c.time, valid := c.valid, f0 := c.f0 } : Ec) (eleven (p := fun m => m ≠ 4 → ({ (S i) with hops := c.hops, ident := c.ident, time := c.time, valid := c.valid, f0 := c.f0 } : Ec).cell m = ({ (S i) with hops := c.hops, ident := c.ident, time := c.time, valid := c.valid } : Ec).cell m) (fun _ => rfl) (fun _ => rfl) (fun _ => rfl) (fun _ => rfl) (fun h => absurd rfl h) (fun _ => rfl) (fun _ => rfl) (fun _ => rfl) (fun _ => rfl) (fun _ => rfl) (fun _ => rfl)) (u := .int .i64 c.f0) rfl
  have h6 := EB.set h5 hi 5 (by decide) ({ (S i) with hops := c.hops, ident := c.ident, time := c.time, valid := c.valid, f0 := c.f0, f1 := c.f1 } : Ec) (eleven (p := fun m => m ≠ 5 → ({ (S i) with hops := c.hops, ident := c.ident, time := c.time, valid := c.valid, f0 := c.f0, f1 := c.f1 } : Ec).cell m = ({ (S i) with hops := c.hops, ident := c.ident, time := c.time, valid := c.valid, f0 := c.f0 } : Ec).cell m) (fun _ => rfl) (fun _ => rfl) (fun _ => rfl) (fun _ => rfl) (fun _ => rfl) (fun h => absurd rfl h) (fun _ => rfl) (fun _ => rfl) (fun _ => rfl) (fun _ => rfl) (fun _ => rfl)) (u := .int .i64 c.f1) rfl
  have h7 := EB.set h6 hi 6 (by decide) ({ (S i) with hops := c.hops, ident := c.ident, time := c.time, valid := c.valid, f0 := c.f0, f1 := c.f1, f2 := c.f2 } : Ec) (eleven (p := fun m => m ≠ 6 → ({ (S i) with hops := c.hops, ident := c.ident, time := c.time, valid := c.valid, f0 := c.f0, f1 := c.f1, f2 := c.f2 } : Ec).cell m = ({ (S i) with hops := c.hops, ident := c.ident, time := c.time, valid := c.valid, f0 := c.f0, f1 := c.f1 } : Ec).cell m) (fun _ => rfl) (fun _ => rfl) (fun _ => rfl) (fun _ => rfl) (fun _ => rfl) (fun _ => rfl) (fun h => absurd rfl h) (fun _ => rfl) (fun _ => rfl) (fun _ => rfl) (fun _ => rfl)) (u := .int .i64 c.f2) rfl
  have h8 := EB.set h7 hi 7 (by decide) ({ (S i) with hops := c.hops, ident := c.ident, time := c.time, valid := c.valid, f0 := c.f0, f1 := c.f1, f2 := c.f2, f3 := c.f3 } : Ec) (eleven (p := fun m => m ≠ 7 → ({ (S i) with hops := c.hops, ident := c.ident, time := c.time, valid := c.valid, f0 := c.f0, f1 := c.f1, f2 := c.f2, f3 := c.f3 } : Ec).cell m = ({ (S i) with hops := c.hops, ident := c.ident, time := c.time, valid := c.valid, f0 := c.f0, f1 := c.f1, f2 := c.f2 } : Ec).cell m) (fun _ => rfl) (fun _ => rfl) (fun _ => rfl) (fun _ => rfl) (fun _ => rfl) (fun _ => rfl) (fun _ => rfl) (fun h => absurd rfl h) (fun _ => rfl) (fun _ => rfl) (fun _ => rfl)) (u := .int .i64 c.f3) rfl
  have h9 := EB.set h8 hi 8 (by decide) ({ (S i) with hops := c.hops, ident := c.ident, time := c.time, valid := c.valid, f0 := c.f0, f1 := c.f1, f2 := c.f2, f3 := c.f3, f4 := c.f4 } : Ec) (eleven (p := fun m => m ≠ 8 → ({ (S i) with hops := c.hops, ident := c.ident, time := c.time, valid := c.valid, f0 := c.f0, f1 := c.f1, f2 := c.f2, f3 := c.f3, f4 := c.f4 } : Ec).cell m = ({ (S i) with hops := c.hops, ident := c.ident, time := c.time, valid := c.valid, f0 := c.f0, f1 := c.f1, f2 := c.f2, f3 := c.f3 } : Ec).cell m) (fun _ => rfl) (fun _ => rfl) (fun _ => rfl) (fun _ => rfl) (fun _ => rfl) (fun _ => rfl) (fun _ => rfl) (fun _ => rfl) (fun h => absurd rfl h) (fun _ => rfl) (fun _ => rfl)) (u := .int .i64 c.f4) rfl
  have h10 := EB.set h9 hi 9 (by decide) ({ (S i) with hops := c.hops, ident := c.ident, time := c.time, valid := c.valid, f0 := c.f0, f1 := c.f1, f2 := c.f2, f3 := c.f3, f4 := c.f4, gen := c.gen } : Ec) (eleven (p := fun m => m ≠ 9 → ({ (S i) with hops := c.hops, ident := c.ident, time := c.time, valid := c.valid, f0 := c.f0, f1 := c.f1, f2 := c.f2, f3 := c.f3, f4 := c.f4, gen := c.gen } : Ec).cell m = ({ (S i) with hops := c.hops, ident := c.ident, time := c.time, valid := c.valid, f0 := c.f0, f1 := c.f1, f2 := c.f2, f3 := c.f3, f4 := c.f4 } : Ec).cell m) (fun _ => rfl) (fun _ => rfl) (fun _ => rfl) (fun _ => rfl) (fun _ => rfl) (fun _ => rfl) (fun _ => rfl) (fun _ => rfl) (fun _ => rfl) (fun h => absurd rfl h) (fun _ => rfl)) (u := .int .u8 c.gen) rfl
  have h11 := EB.set h10 hi 10 (by decide) (c : Ec) (eleven (p := fun m => m ≠ 10 → (c : Ec).cell m = ({ (S i) with hops := c.hops, ident := c.ident, time := c.time, valid := c.valid, f0 := c.f0, f1 := c.f1, f2 := c.f2, f3 := c.f3, f4 := c.f4, gen := c.gen } : Ec).cell m) (fun _ => rfl) (fun _ => rfl) (fun _ => rfl) (fun _ => rfl) (fun _ => rfl) (fun _ => rfl) (fun _ => rfl) (fun _ => rfl) (fun _ => rfl) (fun _ => rfl) (fun h => absurd rfl h)) (u := .int .i64 c.step) rfl
  exact h11
end

theorem enone_ok (g : Nat) (made : Bool) (S : Nat → Ec) (w : World) (h : EB w g made S) :
    Calls Try.prog 28 #[.pointer (some ⟨g, 0, none⟩)] w fun e w' => e = .returned (.bool (!made)) ∧ w = w' := by
  have h0 := h.made_
  clear h
  go_enter Try.func28, Try.ntmps28
  go_wp2
  go_ret
  exact ⟨rfl, rfl⟩
theorem enone_nil (w : World) :
    Calls Try.prog 28 #[.pointer none] w fun e w' => e = .returned (.bool true) ∧ w = w' := by
  go_enter Try.func28, Try.ntmps28
  go_wp2
  go_ret
  exact ⟨rfl, rfl⟩

theorem slice_nil_neq (w : World) : (binOp .neq 24 (.slice none 0 0) (.slice none 0 0)).run Try.prog w = .ok (.bool false) w := by kernel_rfl
theorem slice_some_neq (P : Addr) (n c : Nat) (w : World) : (binOp .neq 24 (.slice (some P) n c) (.slice none 0 0)).run Try.prog w = .ok (.bool true) w := by kernel_rfl
/-- the arguments of the closure that stores the context -/
@[reducible] def saveArgs (eb pb kb xb ab : Nat) : Array Value := #[.pointer (some ⟨eb, 0, none⟩), .pointer (some ⟨pb, 0, none⟩), .pointer (some ⟨kb, 0, none⟩), .pointer (some ⟨xb, 0, none⟩), .pointer (some ⟨ab, 0, none⟩)]
set_option maxRecDepth 100000 in
set_option maxHeartbeats 400000 in
theorem save_err (eb pb kb xb ab : Nat) (x : Int) (hx : x ≠ 0) (u : FrameMode) (w : World) (hE : w.cell? ⟨eb, 0, none⟩ = some (.int .i64 x)) :
    CallsD Try.prog 31 (saveArgs eb pb kb xb ab) u w fun e u' w' => u' = u ∧ (e = .returned (.tuple #[]) ∧ w' = w) := by
  have h1 : (x == 0) = false := by simpa using hx
  clear hx
  refine callsD_of_wp Try.func31 rfl ?_
  simp only [Try.ntmps31, List.size_toArray, List.length_cons, List.length_nil, Nat.reduceAdd, Nat.reduceSub, Array.replicate_succ, Array.replicate_zero, List.push_toArray, List.append_toArray, List.nil_append, List.cons_append]
  go_wp2
  go_end0
  exact ⟨rfl, rfl⟩
set_option maxRecDepth 100000 in
set_option maxHeartbeats 400000 in
theorem save_nil (eb pb kb xb ab : Nat) (u : FrameMode) (w : World) (hE : w.cell? ⟨eb, 0, none⟩ = some (.int .i64 0)) (hP : w.cell? ⟨pb, 0, none⟩ = some (.slice none 0 0)) :
    CallsD Try.prog 31 (saveArgs eb pb kb xb ab) u w fun e u' w' => u' = u ∧ (e = .returned (.tuple #[]) ∧ w' = w) := by
  have hnn := slice_nil_neq
  refine callsD_of_wp Try.func31 rfl ?_
  simp only [Try.ntmps31, List.size_toArray, List.length_cons, List.length_nil, Nat.reduceAdd, Nat.reduceSub, Array.replicate_succ, Array.replicate_zero, List.push_toArray, List.append_toArray, List.nil_append, List.cons_append]
  go_wp2
  go_end0
  exact ⟨rfl, rfl⟩
set_option maxRecDepth 100000 in
set_option maxHeartbeats 1600000 in
theorem save_yes (eb pb kb xb ab g : Nat) (S : Nat → Ec) (c : Ec) (i : Nat) (P : Addr) (n cp : Nat) (u : FrameMode) (w : World) (hi : i < 16) (hE : w.cell? ⟨eb, 0, none⟩ = some (.int .i64 0)) (hP : w.cell? ⟨pb, 0, none⟩ = some (.slice (some P) n cp))
    (hX : w.cell? ⟨xb, 0, none⟩ = some (.pointer (some ⟨g, 0, none⟩))) (hA : w.cell? ⟨ab, 0, none⟩ = some (.int .u8 (i : Int))) (hK : KB w kb c) (hB : EB w g true S) (n1 : kb ≠ g) (n2 : xb ≠ g) (n3 : ab ≠ g) :
    CallsD Try.prog 31 (saveArgs eb pb kb xb ab) u w fun e u' w' => u' = u ∧ (e = .returned (.tuple #[]) ∧ EB w' g true (updE S i c) ∧ Keep1 g w w') := by
  have hnn := slice_some_neq P n cp
  have HK := Lib.hid hK
  have HB := Lib.hid hB
  have m1 : ¬ g = kb := fun e => n1 e.symm
  have m2 : ¬ g = xb := fun e => n2 e.symm
  have m3 : ¬ g = ab := fun e => n3 e.symm
  have i0 : (0 : Int) ≤ (i : Int) := by omega
  have i1 : (i : Int) < 16 := by omega
  obtain ⟨k0, k1, k2, k3, k4, k5, k6, k7, k8, k9, k10⟩ := hK.cells
  obtain ⟨e0, e1, e2, e3, e4, e5, e6, e7, e8, e9, e10⟩ := hB.cells hi
  have f0 := hB.fr (1 + i * 11)
  have f1 := hB.fr (1 + i * 11 + 1)
  have f2 := hB.fr (1 + i * 11 + 2)
  have f3 := hB.fr (1 + i * 11 + 3)
  have f4 := hB.fr (1 + i * 11 + 4)
  have f5 := hB.fr (1 + i * 11 + 5)
  have f6 := hB.fr (1 + i * 11 + 6)
  have f7 := hB.fr (1 + i * 11 + 7)
  have f8 := hB.fr (1 + i * 11 + 8)
  have f9 := hB.fr (1 + i * 11 + 9)
  have f10 := hB.fr (1 + i * 11 + 10)
  clear hK hB
  refine callsD_of_wp Try.func31 rfl ?_
  simp only [Try.ntmps31, List.size_toArray, List.length_cons, List.length_nil, Nat.reduceAdd, Nat.reduceSub, Array.replicate_succ, Array.replicate_zero, List.push_toArray, List.append_toArray, List.nil_append, List.cons_append]
  go_wp2
  go_region_held3 (fun w' => w'.cell? ⟨kb, 0, none⟩ = some (.int .i64 c.hops) ∧ w'.cell? ⟨kb, 1, none⟩ = some (.int .i64 c.ident) ∧ w'.cell? ⟨kb, 2, none⟩ = some (.int .i64 c.time) ∧ w'.cell? ⟨kb, 3, none⟩ = some (.bool c.valid) ∧ w'.cell? ⟨kb, 4, none⟩ = some (.int .i64 c.f0) ∧ w'.cell? ⟨kb, 5, none⟩ = some (.int .i64 c.f1) ∧ w'.cell? ⟨kb, 6, none⟩ = some (.int .i64 c.f2) ∧ w'.cell? ⟨kb, 7, none⟩ = some (.int .i64 c.f3) ∧ w'.cell? ⟨kb, 8, none⟩ = some (.int .i64 c.f4) ∧ w'.cell? ⟨kb, 9, none⟩ = some (.int .u8 c.gen) ∧ w'.cell? ⟨kb, 10, none⟩ = some (.int .i64 c.step) ∧ w'.cell? ⟨xb, 0, none⟩ = some (.pointer (some ⟨g, 0, none⟩)) ∧ w'.cell? ⟨ab, 0, none⟩ = some (.int .u8 (i : Int))) (go_keep) ((fail))
  all_goals
    go_wp2
    go_end0
    refine ⟨rfl, ?_, ?_⟩
    · exact EB.drew_ (EB.all HB.out hi c)
    · exact grownBy_drew (grownBy_set (grownBy_set (grownBy_set (grownBy_set (grownBy_set (grownBy_set (grownBy_set (grownBy_set (grownBy_set (grownBy_set (grownBy_set (World.grownBy_refl _ _) _ _) _ _) _ _) _ _) _ _) _ _) _ _) _ _) _ _) _ _) _ _)
end Go.Proofs.Ytofaghpflmeblaa
namespace Go.Proofs.Ytofaghpflmeblaa
open Go.RowKit
set_option linter.unusedVariables false

attribute [local go_sem] Oper.semAt_some
attribute [local go_sem ↓] Go.wp_at_zero Go.wp_at_succ

def xKind (z : Nat → Int) : Int := z 0 / 64
def xAt (z : Nat → Int) : Nat := (z 0 / 4 % 16).toNat
def xHead (k : Int) : Nat := if k = 0 then 20 else if k = 1 then 6 else if k = 2 then 3 else 2
def xGen (c : Ec) (k : Int) : Int := if k = 1 then (c.gen + 1) % 256 else c.gen
def xErr (S : Nat → Ec) (n : Nat) (z : Nat → Int) : Int :=
  if n = 0 then 5
  else if z 0 % 4 ≠ 0 ∨ (xKind z = 3 ∧ xAt z ≠ 0) then 9
  else if n < xHead (xKind z) then 5
  else if xKind z = 3 then (if 9001 < n then 4 else 0)
  else if xKind z = 0 then fuErr n z
  else acErr (S (xAt z)) n z (xHead (xKind z)) (xGen (S (xAt z)) (xKind z))
def xLen (S : Nat → Ec) (n : Nat) (z : Nat → Int) : Nat :=
  if xErr S n z ≠ 0 then 0 else if xKind z = 3 then n - 1 else if xKind z = 0 then n else if xKind z = 1 then 20 + (n - 6) else 20 + (n - 3)
def xY (S : Nat → Ec) (n : Nat) (z : Nat → Int) : Nat → Int :=
  if xKind z = 3 then (fun j => z (1 + j)) else if xKind z = 0 then fullY n z else if xKind z = 1 then deltaY (S (xAt z)) n z else compactY (S (xAt z)) n z
def xFb (S : Nat → Ec) (n : Nat) (z : Nat → Int) : Nat := if xErr S n z = 11 then 1 else 0
def xS (S : Nat → Ec) (n : Nat) (z : Nat → Int) : Nat → Ec :=
  if xErr S n z = 11 then updE S (xAt z) Ec.zero else if xErr S n z ≠ 0 then S else if xKind z = 0 then updE S (xAt z) (fullC n z) else if xKind z = 1 then updE S (xAt z) (deltaC (S (xAt z)) z) else S
/-- the end of Expand -/
def XOut (S : Nat → Ec) (n : Nat) (z : Nat → Int) (g : Nat) (w : World) (e : Ending) (w' : World) : Prop :=
  ∃ B d C f, e = .returned (.tuple #[.slice B (xLen S n z) d, .slice C (xFb S n z) f, .int .i64 (xErr S n z)]) ∧ xLen S n z ≤ d ∧ xFb S n z ≤ f ∧ Fresh w.heap.size B ∧ Fresh w.heap.size C ∧
    Row w' w'.heap.size B (xLen S n z) (fun j => .int .u8 (xY S n z j)) ∧ Row w' w'.heap.size C (xFb S n z) (fun _ => .int .u8 (160 + (xAt z : Int))) ∧ EB w' g true (xS S n z) ∧ Keep1 g w w'

@[reducible] def xDefers (eb pb kb xb ab : Nat) : List Deferred :=
  [{ target := .fn (.func 31) (saveArgs eb pb kb xb ab), args := #[] }, { target := .fn (.func 29) #[], args := #[.pointer (some ⟨eb, 0, none⟩), .func (.func 30) #[] #[.pointer (some ⟨pb, 0, none⟩)]] }]
set_option maxRecDepth 100000 in
set_option maxHeartbeats 1000000 in
theorem xbad (R : Ending → World → Prop) (W : World) (eb pb kb xb ab : Nat) (x : Int) (tmps : Array Value) (hP : Blk W pb 24 #[.slice none 0 0]) (hE : Blk W eb 28 #[.int .i64 0]) (hne : pb ≠ eb)
    (h4 : tmps.getD 4 undef = .pointer (some ⟨pb, 0, none⟩)) (h5 : tmps.getD 5 undef = .slice none 0 0) (h6 : tmps.getD 6 undef = .pointer (some ⟨eb, 0, none⟩))
    (hR : ∀ w', w' = (W.setCell ⟨pb, 0, none⟩ (.slice none 0 0)).setCell ⟨eb, 0, none⟩ (.int .i64 x) → R (.returned (.tuple #[.slice none 0 0, .slice none 0 0, .int .i64 x])) w') :
    bodyPostD Try.prog Try.f14 R (Exit.panic [{ v := .iface 28 (.int .i64 x), recovered := false }]) { tmps := tmps, defers := xDefers eb pb kb xb ab } W := by
  have E1 : Blk (W.setCell ⟨pb, 0, none⟩ (.slice none 0 0)) eb 28 #[.int .i64 0] := hE.far (p := ⟨pb, 0, none⟩) (Ne.symm hne) _
  refine leaves_cons (f := 31) (args := saveArgs eb pb kb xb ab) (by simp) (by simp [go_sem]) ?_
  refine (save_nil eb pb kb xb ab _ W (hE.cell 0) (hP.cell 0)).mono ?_
  rintro en u' w'' ⟨rfl, rfl, hw⟩
  obtain rfl := hw.symm
  refine leaves_cons (f := 29) (args := #[.pointer (some ⟨eb, 0, none⟩), .func (.func 30) #[] #[.pointer (some ⟨pb, 0, none⟩)]]) (by simp [settle]) (by simp [go_sem]) ?_
  refine (ecaught_clear ⟨eb, 0, none⟩ pb _ 0 x [] W hP (E1.cell 0) (E1.frozen 0)).mono ?_
  rintro en u' w'' ⟨rfl, rfl, hw⟩
  have y1 : w''.cell? ⟨pb, 0, none⟩ = some (.slice none 0 0) := by rw [hw]; exact ((hP.set_ 0 _).far (p := ⟨eb, 0, none⟩) hne _).cell 0
  have y2 : w''.cell? ⟨eb, 0, none⟩ = some (.int .i64 x) := by rw [hw]; exact (E1.set_ 0 _).cell 0
  have HR := Lib.hid (hR w'' hw)
  clear hw hR hP hE E1
  simp at h4 h5 h6
  simp [Leaves, settle, results, Try.results14, go_sem, h4, h5, h6, y1, y2]
  exact HR.out
set_option maxRecDepth 100000 in
set_option maxHeartbeats 1000000 in
theorem xcheck (R : Ending → World → Prop) (W : World) (eb pb kb xb ab : Nat) (x : Int) (hx : x ≠ 0) (F : Value) (tmps : Array Value) (hP : Blk W pb 24 #[.slice none 0 0]) (hE : Blk W eb 28 #[.int .i64 x])
    (h4 : tmps.getD 4 undef = .pointer (some ⟨pb, 0, none⟩)) (h5 : tmps.getD 5 undef = F) (h6 : tmps.getD 6 undef = .pointer (some ⟨eb, 0, none⟩))
    (hR : R (.returned (.tuple #[.slice none 0 0, F, .int .i64 x])) W) :
    bodyPostD Try.prog Try.f14 R Exit.ret { tmps := tmps, defers := xDefers eb pb kb xb ab } W := by
  refine leaves_cons (f := 31) (args := saveArgs eb pb kb xb ab) (by simp) (by simp [go_sem]) ?_
  refine (save_err eb pb kb xb ab x hx _ W (hE.cell 0)).mono ?_
  rintro en u' w'' ⟨rfl, rfl, hw⟩
  obtain rfl := hw.symm
  refine leaves_cons (f := 29) (args := #[.pointer (some ⟨eb, 0, none⟩), .func (.func 30) #[] #[.pointer (some ⟨pb, 0, none⟩)]]) (by simp [settle]) (by simp [go_sem]) ?_
  refine (ecaught_idle _ _ _).mono ?_
  rintro en u' w'' ⟨rfl, rfl, hw⟩
  obtain rfl := hw.symm
  have y1 : W.cell? ⟨pb, 0, none⟩ = some (.slice none 0 0) := hP.cell 0
  have y2 : W.cell? ⟨eb, 0, none⟩ = some (.int .i64 x) := hE.cell 0
  have HR := Lib.hid hR
  clear hR hP hE
  simp at h4 h5 h6
  simp [Leaves, settle, results, Try.results14, go_sem, h4, h5, h6, y1, y2]
  exact HR.out
set_option maxRecDepth 100000 in
set_option maxHeartbeats 1000000 in
theorem xgood (R : Ending → World → Prop) (W : World) (eb pb kb xb ab g : Nat) (S : Nat → Ec) (c : Ec) (i : Nat) (A : Addr) (n cp : Nat) (tmps : Array Value) (hi : i < 16) (hP : Blk W pb 24 #[.slice (some A) n cp]) (hE : Blk W eb 28 #[.int .i64 0])
    (hX : W.cell? ⟨xb, 0, none⟩ = some (.pointer (some ⟨g, 0, none⟩))) (hA : W.cell? ⟨ab, 0, none⟩ = some (.int .u8 (i : Int))) (hK : KB W kb c) (hB : EB W g true S) (n1 : kb ≠ g) (n2 : xb ≠ g) (n3 : ab ≠ g) (n4 : pb ≠ g) (n5 : eb ≠ g)
    (h4 : tmps.getD 4 undef = .pointer (some ⟨pb, 0, none⟩)) (h5 : tmps.getD 5 undef = .slice none 0 0) (h6 : tmps.getD 6 undef = .pointer (some ⟨eb, 0, none⟩))
    (hR : ∀ w', EB w' g true (updE S i c) → Keep1 g W w' → R (.returned (.tuple #[.slice (some A) n cp, .slice none 0 0, .int .i64 0])) w') :
    bodyPostD Try.prog Try.f14 R Exit.ret { tmps := tmps, defers := xDefers eb pb kb xb ab } W := by
  refine leaves_cons (f := 31) (args := saveArgs eb pb kb xb ab) (by simp) (by simp [go_sem]) ?_
  refine (save_yes eb pb kb xb ab g S c i A n cp _ W hi (hE.cell 0) (hP.cell 0) hX hA hK hB n1 n2 n3).mono ?_
  rintro en u' w1 ⟨rfl, rfl, hb1, hk1⟩
  refine leaves_cons (f := 29) (args := #[.pointer (some ⟨eb, 0, none⟩), .func (.func 30) #[] #[.pointer (some ⟨pb, 0, none⟩)]]) (by simp [settle]) (by simp [go_sem]) ?_
  refine (ecaught_idle _ _ _).mono ?_
  rintro en u' w'' ⟨rfl, rfl, hw⟩
  obtain rfl := hw.symm
  have y1 : w1.cell? ⟨pb, 0, none⟩ = some (.slice (some A) n cp) := (hk1.blk hP n4).cell 0
  have y2 : w1.cell? ⟨eb, 0, none⟩ = some (.int .i64 0) := (hk1.blk hE n5).cell 0
  have HR := Lib.hid (hR w1 hb1 hk1)
  clear hR hP hE hb1 hk1
  simp at h4 h5 h6
  simp [Leaves, settle, results, Try.results14, go_sem, h4, h5, h6, y1, y2]
  exact HR.out
set_option maxRecDepth 100000 in
set_option maxHeartbeats 1000000 in
theorem expand_none (g : Nat) (S : Nat → Ec) (Z : Value) (w : World) (h : EB w g false S) :
    Calls Try.prog 14 #[.pointer (some ⟨g, 0, none⟩), Z] w fun e w' => e = .returned (.tuple #[.slice none 0 0, .slice none 0 0, .int .i64 1]) ∧ Below w.heap.size w w' := by
  have HB := Lib.hid (fun o o1 o2 : Obj => enone_ok g false S _ (((h.alloc o).alloc o1).alloc o2))
  clear h
  go_enter_defers Try.func14, Try.ntmps14
  go_wp2_with (go_at_call 28; refine (HB.out _ _ _).mono ?_; rintro e w1 ⟨rfl, rfl⟩)
  have BB : Below w.heap.size w (((w.alloc (.cells #[.pointer (some ⟨g, 0, none⟩)] 22)).alloc (.cells #[.slice none 0 0] 24)).alloc (.cells #[.int .i64 1] 28)) := (((Below.refl _ w).alloc (Nat.le_refl _) _).alloc (by simp) _).alloc (by simp; omega) _
  simp [bodyPostD, Leaves, results, Try.results14, go_sem]
  exact BB
set_option maxRecDepth 100000 in
set_option maxHeartbeats 1000000 in
theorem expand_nil (Z : Value) (w : World) :
    Calls Try.prog 14 #[.pointer none, Z] w fun e w' => e = .returned (.tuple #[.slice none 0 0, .slice none 0 0, .int .i64 1]) ∧ Below w.heap.size w w' := by
  go_enter_defers Try.func14, Try.ntmps14
  go_wp2_with (go_at_call 28; refine (enone_nil _).mono ?_; rintro e w1 ⟨rfl, rfl⟩)
  have BB : Below w.heap.size w (((w.alloc (.cells #[.pointer none] 22)).alloc (.cells #[.slice none 0 0] 24)).alloc (.cells #[.int .i64 1] 28)) := (((Below.refl _ w).alloc (Nat.le_refl _) _).alloc (by simp) _).alloc (by simp; omega) _
  simp [bodyPostD, Leaves, results, Try.results14, go_sem]
  exact BB
set_option maxRecDepth 100000 in
set_option maxHeartbeats 1000000 in
theorem expand_empty (g : Nat) (S : Nat → Ec) (A : Option Addr) (cp : Nat) (w : World) (h : EB w g true S) :
    Calls Try.prog 14 #[.pointer (some ⟨g, 0, none⟩), .slice A 0 cp] w fun e w' => e = .returned (.tuple #[.slice none 0 0, .slice none 0 0, .int .i64 5]) ∧ Below w.heap.size w w' := by
  have HB := Lib.hid (fun o o1 o2 : Obj => enone_ok g true S _ (((h.alloc o).alloc o1).alloc o2))
  clear h
  go_enter_defers Try.func14, Try.ntmps14
  go_wp2_with (go_at_call 28; refine (HB.out _ _ _).mono ?_; rintro e w1 ⟨rfl, rfl⟩)
  have BB : Below w.heap.size w (((w.alloc (.cells #[.pointer (some ⟨g, 0, none⟩)] 22)).alloc (.cells #[.slice none 0 0] 24)).alloc (.cells #[.int .i64 5] 28)) := (((Below.refl _ w).alloc (Nat.le_refl _) _).alloc (by simp) _).alloc (by simp; omega) _
  simp [bodyPostD, Leaves, results, Try.results14, go_sem]
  exact BB
end Go.Proofs.Ytofaghpflmeblaa
namespace Go.Proofs.Ytofaghpflmeblaa
open Go.RowKit
set_option linter.unusedVariables false

attribute [local go_sem] Oper.semAt_some
attribute [local go_sem ↓] Go.wp_at_zero Go.wp_at_succ

theorem and15u (y : Int) (h0 : 0 ≤ y) (h1 : y < 64) : bits .and .u8 y 15 = y % 16 := by
  have := (by decide +kernel : ∀ x : Fin 64, bits .and .u8 ((x.1 : Nat) : Int) 15 = ((x.1 : Nat) : Int) % 16) ⟨y.toNat, by omega⟩
  rwa [show ((y.toNat : Nat) : Int) = y from Int.toNat_of_nonneg h0] at this
theorem and3u (y : Int) (h0 : 0 ≤ y) (h1 : y < 256) : bits .and .u8 y 3 = y % 4 := by
  have := (by decide +kernel : ∀ x : Fin 256, bits .and .u8 ((x.1 : Nat) : Int) 3 = ((x.1 : Nat) : Int) % 4) ⟨y.toNat, by omega⟩
  rwa [show ((y.toNat : Nat) : Int) = y from Int.toNat_of_nonneg h0] at this
/-- what holds behind the defers -/
structure XFr (w : World) (g H at_ : Nat) (S : Nat → Ec) (c : Ec) (W : World) : Prop where
  x : Blk W H 22 #[.pointer (some ⟨g, 0, none⟩)]
  p : Blk W (H + 1) 24 #[.slice none 0 0]
  e : Blk W (H + 1 + 1) 28 #[.int .i64 0]
  a : Blk W (H + 3) 5 #[.int .u8 (at_ : Int)]
  k : KB W (H + 4) c
  b : Below w.heap.size w W
theorem xErr_form (S : Nat → Ec) {n : Nat} {z : Nat → Int} (h0 : 0 < n) (h : z 0 % 4 ≠ 0 ∨ (xKind z = 3 ∧ xAt z ≠ 0)) : xErr S n z = 9 := by
  unfold xErr; rw [if_neg (by omega), if_pos h]
theorem xErr_short (S : Nat → Ec) {n : Nat} {z : Nat → Int} (h0 : 0 < n) (h : ¬ (z 0 % 4 ≠ 0 ∨ (xKind z = 3 ∧ xAt z ≠ 0))) (hs : n < xHead (xKind z)) : xErr S n z = 5 := by
  unfold xErr; rw [if_neg (by omega), if_neg h, if_pos hs]
theorem xErr_rest (S : Nat → Ec) {n : Nat} {z : Nat → Int} (h0 : 0 < n) (h : ¬ (z 0 % 4 ≠ 0 ∨ (xKind z = 3 ∧ xAt z ≠ 0))) (hs : ¬ n < xHead (xKind z)) : xErr S n z = if xKind z = 3 then (if 9001 < n then 4 else 0) else if xKind z = 0 then fuErr n z else acErr (S (xAt z)) n z (xHead (xKind z)) (xGen (S (xAt z)) (xKind z)) := by
  unfold xErr; rw [if_neg (by omega), if_neg h, if_neg hs]
theorem XOut.bad {S : Nat → Ec} {n : Nat} {z : Nat → Int} {g : Nat} {w w' : World} {x : Int} (h : EB w g true S) (hb : Below w.heap.size w w') (hx : xErr S n z = x) (h0 : x ≠ 0) (h11 : x ≠ 11) : XOut S n z g w (.returned (.tuple #[.slice none 0 0, .slice none 0 0, .int .i64 x])) w' := by
  have e1 : xLen S n z = 0 := by unfold xLen; rw [hx, if_pos h0]
  have e2 : xFb S n z = 0 := by unfold xFb; rw [hx, if_neg h11]
  have e3 : xS S n z = S := by unfold xS; rw [hx, if_neg h11, if_pos h0]
  refine ⟨none, 0, none, 0, by rw [e1, e2, hx], by omega, by omega, fresh_none _, fresh_none _, by rw [e1]; exact Row.nil, by rw [e2]; exact Row.nil, by rw [e3]; exact h.below hb h.lt, keep_of_below hb⟩
theorem XOut.good {S : Nat → Ec} {n m : Nat} {z y : Nat → Int} {g d : Nat} {w w' : World} {B : Addr} {S' : Nat → Ec} (hx : xErr S n z = 0) (e1 : xLen S n z = m) (hd : m ≤ d) (hF : Fresh w.heap.size (some B)) (ey : xY S n z = y) (hR : Row w' w'.heap.size (some B) m (fun j => .int .u8 (y j))) (e3 : xS S n z = S') (hB : EB w' g true S') (hK : Keep1 g w w') :
    XOut S n z g w (.returned (.tuple #[.slice (some B) m d, .slice none 0 0, .int .i64 0])) w' := by
  have e2 : xFb S n z = 0 := by unfold xFb; rw [hx, if_neg (by decide)]
  exact ⟨some B, d, none, 0, by rw [e1, e2, hx], by omega, by omega, hF, fresh_none _, by rw [e1, ey]; exact hR, by rw [e2]; exact Row.nil, by rw [e3]; exact hB, hK⟩
theorem XOut.check {S : Nat → Ec} {n i : Nat} {z : Nat → Int} {g f : Nat} {w w' : World} {C : Addr} (hx : xErr S n z = 11) (hi : xAt z = i) (hf : 1 ≤ f) (hF : Fresh w.heap.size (some C)) (hR : Row w' w'.heap.size (some C) 1 (fun _ => .int .u8 (160 + (i : Int)))) (hB : EB w' g true (updE S i Ec.zero)) (hK : Keep1 g w w') :
    XOut S n z g w (.returned (.tuple #[.slice none 0 0, .slice (some C) 1 f, .int .i64 11])) w' := by
  have e1 : xLen S n z = 0 := by unfold xLen; rw [hx, if_pos (by decide)]
  have e2 : xFb S n z = 1 := by unfold xFb; rw [hx, if_pos rfl]
  have e3 : xS S n z = updE S i Ec.zero := by unfold xS; rw [hx, if_pos rfl, hi]
  exact ⟨none, 0, some C, f, by rw [e1, e2, hx], by omega, by omega, fresh_none _, hF, by rw [e1]; exact Row.nil, by rw [e2, hi]; exact hR, by rw [e3]; exact hB, hK⟩
theorem XFr.bad {w W : World} {g H i : Nat} {S : Nat → Ec} {c : Ec} {tmps : Array Value} {n : Nat} {z : Nat → Int} {x : Int} (h : XFr w g H i S c W) (hw : w.heap.size = H) (hS : EB w g true S) (hx : xErr S n z = x) (h0 : x ≠ 0) (h11 : x ≠ 11)
    (h4 : tmps.getD 4 undef = .pointer (some ⟨H + 1, 0, none⟩)) (h5 : tmps.getD 5 undef = .slice none 0 0) (h6 : tmps.getD 6 undef = .pointer (some ⟨H + 1 + 1, 0, none⟩)) :
    bodyPostD Try.prog Try.f14 (XOut S n z g w) (Exit.panic [{ v := .iface 28 (.int .i64 x), recovered := false }]) { tmps := tmps, defers := xDefers (H + 1 + 1) (H + 1) (H + 4) H (H + 3) } W :=
  xbad _ W _ _ _ _ _ x tmps h.p h.e (by omega) h4 h5 h6 fun w' hw' => by
    subst hw'
    exact XOut.bad hS ((h.b.setCell (by show w.heap.size ≤ H + 1; omega) _).setCell (by show w.heap.size ≤ H + 1 + 1; omega) _) hx h0 h11
theorem XFr.good {w W w3 : World} {g H i m d n Bb Bo : Nat} {S : Nat → Ec} {c c3 : Ec} {tmps : Array Value} {z y : Nat → Int} (h : XFr w g H i S c W) (hw : w.heap.size = H) (hgH : g < H) (hi : i < 16) (K3 : Keep1 (H + 4) W w3) (C3 : KB w3 (H + 4) c3) (G3 : EB w3 g true S)
    (hd : m ≤ d) (hF : Fresh W.heap.size (some ⟨Bb, Bo, none⟩)) (hR : Row w3 w3.heap.size (some ⟨Bb, Bo, none⟩) m (fun j => .int .u8 (y j))) (hx : xErr S n z = 0) (e1 : xLen S n z = m) (ey : xY S n z = y) (e3 : xS S n z = updE S i c3)
    (h4 : tmps.getD 4 undef = .pointer (some ⟨H + 1, 0, none⟩)) (h5 : tmps.getD 5 undef = .slice none 0 0) (h6 : tmps.getD 6 undef = .pointer (some ⟨H + 1 + 1, 0, none⟩)) :
    bodyPostD Try.prog Try.f14 (XOut S n z g w) Exit.ret { tmps := tmps, defers := xDefers (H + 1 + 1) (H + 1) (H + 4) H (H + 3) } (((w3.setCell ⟨H + 1, 0, none⟩ (.slice (some ⟨Bb, Bo, none⟩) m d)).setCell ⟨H + 1, 0, none⟩ (.slice (some ⟨Bb, Bo, none⟩) m d)).setCell ⟨H + 1 + 1, 0, none⟩ (.int .i64 0)) := by
  have hl : H + 4 < W.heap.size := Blk.lt h.k
  have hB : W.heap.size ≤ Bb := hF _ rfl
  have P3 := K3.blk h.p (by omega)
  have E3 := K3.blk h.e (by omega)
  have X3 := K3.blk h.x (by omega)
  have A3 := K3.blk h.a (by omega)
  have B3 : Below w.heap.size w w3 := h.b.grown K3 h.b.size (fun k e => by cases e; omega)
  have B4 := ((B3.setCell (p := ⟨H + 1, 0, none⟩) (by show w.heap.size ≤ H + 1; omega) (.slice (some ⟨Bb, Bo, none⟩) m d)).setCell (p := ⟨H + 1, 0, none⟩) (by show w.heap.size ≤ H + 1; omega) (.slice (some ⟨Bb, Bo, none⟩) m d)).setCell (p := ⟨H + 1 + 1, 0, none⟩) (by show w.heap.size ≤ H + 1 + 1; omega) (.int .i64 0)
  have R4 := ((hR.far (p := ⟨H + 1, 0, none⟩) (by show Bb ≠ H + 1; omega) (.slice (some ⟨Bb, Bo, none⟩) m d)).far (p := ⟨H + 1, 0, none⟩) (by show Bb ≠ H + 1; omega) (.slice (some ⟨Bb, Bo, none⟩) m d)).far (p := ⟨H + 1 + 1, 0, none⟩) (by show Bb ≠ H + 1 + 1; omega) (.int .i64 0)
  refine xgood _ _ (H + 1 + 1) (H + 1) (H + 4) H (H + 3) g S c3 i ⟨Bb, Bo, none⟩ m d tmps hi (((P3.set_ 0 _).set_ 0 _).far (by show H + 1 ≠ H + 1 + 1; omega) _) (((E3.far (by show H + 1 + 1 ≠ H + 1; omega) _).far (by show H + 1 + 1 ≠ H + 1; omega) _).set_ 0 _)
    ((((X3.far (by show H ≠ H + 1; omega) _).far (by show H ≠ H + 1; omega) _).far (by show H ≠ H + 1 + 1; omega) _).cell 0) ((((A3.far (by show H + 3 ≠ H + 1; omega) _).far (by show H + 3 ≠ H + 1; omega) _).far (by show H + 3 ≠ H + 1 + 1; omega) _).cell 0)
    (Blk.far (Blk.far (Blk.far C3 (by show H + 4 ≠ H + 1; omega) _) (by show H + 4 ≠ H + 1; omega) _) (by show H + 4 ≠ H + 1 + 1; omega) _) (((G3.far (by show g ≠ H + 1; omega) _).far (by show g ≠ H + 1; omega) _).far (by show g ≠ H + 1 + 1; omega) _) (by omega) (by omega) (by omega) (by omega) (by omega) h4 h5 h6 fun w' hb hk => ?_
  exact XOut.good hx e1 hd (fun a e => Nat.le_trans h.b.size (hF a e)) ey ((hk.row R4 (Nat.le_refl _) (fun a e => by cases e; show Bb ≠ g; omega)).more hk.size) e3 hb ((keep_of_below B4).trans hk)
theorem fuErr_cases (n : Nat) (z : Nat → Int) : fuErr n z = 0 ∨ fuErr n z = 4 ∨ fuErr n z = 9 := by
  unfold fuErr; split
  · exact .inr (.inr rfl)
  · split
    · exact .inr (.inl rfl)
    · exact .inl rfl
theorem acErr_cases (c : Ec) (n : Nat) (z : Nat → Int) (k : Nat) (g : Int) : acErr c n z k g = 0 ∨ acErr c n z k g = 4 ∨ acErr c n z k g = 9 ∨ acErr c n z k g = 11 := by
  unfold acErr; split
  · exact .inr (.inr (.inl rfl))
  · split
    · exact .inr (.inl rfl)
    · split
      · exact .inl rfl
      · exact .inr (.inr (.inr rfl))
theorem XFr.next {w W W' : World} {g H i : Nat} {S : Nat → Ec} {c : Ec} (h : XFr w g H i S c W) (hb : Below W.heap.size W W') : XFr w g H i S c W' :=
  ⟨h.x.below hb h.x.lt, h.p.below hb h.p.lt, h.e.below hb h.e.lt, h.a.below hb h.a.lt, Blk.below h.k hb (Blk.lt h.k), below_step h.b hb⟩
theorem Keep1.setNew {g : Nat} {w w' : World} {p : Addr} {u : Value} (h : Keep1 g w w') (hp : w.heap.size ≤ p.block) : Keep1 g w (w'.setCell p u) :=
  ⟨h.os, h.tape, h.output, by simpa using h.size, fun k hk hne => (Below.heap_setCell _ _ _ k (by omega)).trans (h.block k hk hne)⟩
theorem or160 (i : Nat) (hi : i < 16) : bits .or .u8 160 (i : Int) = 160 + (i : Int) :=
  (by decide : ∀ i : Fin 16, bits .or .u8 160 (i.1 : Int) = 160 + (i.1 : Int)) ⟨i, hi⟩

set_option maxRecDepth 100000 in
set_option maxHeartbeats 1600000 in
theorem expand_walk3 (g : Nat) (S : Nat → Ec) (lb lo n cp : Nat) (z : Nat → Int) (w : World) (h : EB w g true S) (hok : ∀ i, i < 16 → (S i).Ok) (h0 : 0 < n) (hnc : n ≤ cp) (hm : n ≤ maxLen) (hz : ∀ j, j < n → 0 ≤ z j ∧ z j < 256) (hr : Row w w.heap.size (some ⟨lb, lo, none⟩) n (fun j => .int .u8 (z j))) (hlg : lb ≠ g) (hk : z 0 / 64 = 3) :
    Calls Try.prog 14 #[.pointer (some ⟨g, 0, none⟩), .slice (some ⟨lb, lo, none⟩) n cp] w (XOut S n z g w) := by
  unfold maxLen at hm
  have hgl := h.lt
  have HB := Lib.hid (fun o o1 o2 : Obj => enone_ok g true S _ (((h.alloc o).alloc o1).alloc o2))
  obtain ⟨lb', lo', hab, hlb, hc⟩ := hr (by omega)
  cases hab
  have c0 : w.cell? ⟨lb, lo, none⟩ = some (.int .u8 (z 0)) := hc 0 h0
  have b0 := hz 0 h0
  have hmf : ∀ (fn : Fn) (first cap : Array Value) (w : World), (Instr.makeFunc fn first cap).run Try.prog w = .ok (.func fn first cap) w := fun _ _ _ _ => rfl
  obtain ⟨i, hi⟩ : ∃ i, i = xAt z := ⟨_, rfl⟩
  have hi16 : i < 16 := by rw [hi]; unfold xAt; omega
  have ha : bits .and .u8 (z 0 / 4) 15 = (i : Int) := by rw [hi, and15u _ (by omega) (by omega)]; unfold xAt; omega
  have i0 : (0 : Int) ≤ (i : Int) := by omega
  have i1 : (i : Int) < 16 := by omega
  have hp0 : (0 : Int) < (n : Int) := by omega
  have hn0 : ((n : Int) == 0) = false := by simp; omega
  obtain ⟨H, hH⟩ : ∃ H, H = w.heap.size := ⟨_, rfl⟩
  have HHS := Lib.hid hH
  have HKB := Lib.hid h
  have HR := Lib.hid hr
  have HZ := Lib.hid hz
  have HOK := Lib.hid hok
  have HI := Lib.hid hi
  obtain ⟨c, hcc⟩ : ∃ c, c = S i := ⟨_, rfl⟩
  have HC := Lib.hid hcc
  clear h hr hz hok hc hi hcc
  go_enter_defers Try.func14, Try.ntmps14
  go_upto_region 5 with (go_at_call 28; refine (HB.out _ _ _).mono ?_; rintro e w1 ⟨rfl, rfl⟩)
  refine wp_world (fun W => Blk W H 22 #[.pointer (some ⟨g, 0, none⟩)] ∧ Blk W (H + 1) 24 #[.slice none 0 0] ∧ Blk W (H + 1 + 1) 28 #[.int .i64 0] ∧ Below w.heap.size w W ∧ W.heap.size = H + 3) ⟨by rw [hH]; exact ((Blk.new _ _ _).alloc _).alloc _, by rw [hH]; exact (blk_new_at _ _ _ _ (by simp)).alloc _, by rw [hH]; exact blk_new_at _ _ _ _ (by simp), (((Below.refl _ w).alloc (Nat.le_refl _) _).alloc (by simp) _).alloc (by simp; omega) _, by rw [hH]; simp⟩ ?_
  rw [← hH]
  rintro W1 ⟨x1, p1, e1, b1, s1⟩
  have X1 := Lib.hid x1
  have P1 := Lib.hid p1
  have E1 := Lib.hid e1
  have B1 := Lib.hid (show Below w.heap.size w W1 from by rw [← hH]; exact b1)
  have c0' := (B1.out.cell (p := ⟨lb, lo, none⟩) hlb).trans c0
  clear x1 p1 e1 b1 hH
  go_region_held3 (fun w' => w'.cell? ⟨lb, lo, none⟩ = some (.int .u8 (z 0))) (go_keep) ((fail))
  refine then_world (fun W => Blk W H 22 #[.pointer (some ⟨g, 0, none⟩)] ∧ Blk W (H + 1) 24 #[.slice none 0 0] ∧ Blk W (H + 1 + 1) 28 #[.int .i64 0] ∧ Blk W (H + 3) 5 #[.int .u8 (i : Int)] ∧ Below w.heap.size w W ∧ W.heap.size = H + 4) ⟨(X1.out.alloc _).drew, (P1.out.alloc _).drew, (E1.out.alloc _).drew, Blk.drew (blk_new_at _ _ _ _ s1), (below_new B1.out _).drew, by simp [s1]⟩ ?_
  rintro W2 ⟨x2, p2, r2, a2, b2, s2⟩
  have X2 := Lib.hid x2
  have P2 := Lib.hid p2
  have E2 := Lib.hid r2
  have A2 := Lib.hid a2
  have B2 := Lib.hid b2
  have G2 := Lib.hid (HKB.out.below b2 hgl)
  have x2' : W2.cell? ⟨H, 0, none⟩ = some (.pointer (some ⟨g, 0, none⟩)) := x2.cell 0
  have a2' : W2.cell? ⟨H + 3, 0, none⟩ = some (.int .u8 (i : Int)) := a2.cell 0
  obtain ⟨e0, e1, e2, e3, e4, e5, e6, e7, e8, e9, e10⟩ := G2.out.cells hi16
  rw [← HC.out] at e0 e1 e2 e3 e4 e5 e6 e7 e8 e9 e10
  clear x2 p2 r2 a2 b2 s1 c0' ha
  go_wp2
  go_region_held3 (fun w' => w'.cell? ⟨g, 1 + i * 11, none⟩ = some (.int .i64 c.hops) ∧ w'.cell? ⟨g, 1 + i * 11 + 1, none⟩ = some (.int .i64 c.ident) ∧ w'.cell? ⟨g, 1 + i * 11 + 2, none⟩ = some (.int .i64 c.time) ∧ w'.cell? ⟨g, 1 + i * 11 + 3, none⟩ = some (.bool c.valid) ∧ w'.cell? ⟨g, 1 + i * 11 + 4, none⟩ = some (.int .i64 c.f0) ∧ w'.cell? ⟨g, 1 + i * 11 + 5, none⟩ = some (.int .i64 c.f1) ∧ w'.cell? ⟨g, 1 + i * 11 + 6, none⟩ = some (.int .i64 c.f2) ∧ w'.cell? ⟨g, 1 + i * 11 + 7, none⟩ = some (.int .i64 c.f3) ∧ w'.cell? ⟨g, 1 + i * 11 + 8, none⟩ = some (.int .i64 c.f4) ∧ w'.cell? ⟨g, 1 + i * 11 + 9, none⟩ = some (.int .u8 c.gen) ∧ w'.cell? ⟨g, 1 + i * 11 + 10, none⟩ = some (.int .i64 c.step) ∧ w'.cell? ⟨H, 0, none⟩ = some (.pointer (some ⟨g, 0, none⟩)) ∧ w'.cell? ⟨H + 3, 0, none⟩ = some (.int .u8 (i : Int))) (go_keep) ((fail))
  refine then_world (fun W => XFr w g H i S c W) ⟨(X2.out.alloc _).drew, (P2.out.alloc _).drew, (E2.out.alloc _).drew, (A2.out.alloc _).drew, Blk.drew (blk_new_at _ _ _ _ s2), (below_new B2.out _).drew⟩ ?_
  rintro W hF
  have HF := Lib.hid hF
  have HWS := Lib.hid (HHS.out.symm)
  have ca : W.cell? ⟨H + 3, 0, none⟩ = some (.int .u8 (i : Int)) := hF.a.cell 0
  have c0' := (hF.b.cell (p := ⟨lb, lo, none⟩) hlb).trans c0
  clear hF x2' a2' e0 e1 e2 e3 e4 e5 e6 e7 e8 e9 e10 s2

  have r3 := and3u (z 0) b0.1 b0.2
  have hix : ∀ W : World, (Instr.index 78 (.agg #[.int .i64 20, .int .i64 6, .int .i64 3, .int .i64 2]) (.int .u8 3)).run Try.prog W = .ok (.int .i64 2) W := fun W => by kernel_rfl
  obtain ⟨r, hr⟩ : ∃ r, r = z 0 % 4 := ⟨_, rfl⟩
  rw [← hr] at r3
  have HRR := Lib.hid hr
  have HKK := Lib.hid hk
  obtain ⟨x0, hx0⟩ : ∃ x, x = z 0 := ⟨_, rfl⟩
  rw [← hx0] at c0' r3 c0 ⊢
  clear hr hk hx0 b0
  by_cases hr0 : r = 0
  rotate_left
  · have h1 : (r == 0) = false := by simpa using hr0
    have HE := Lib.hid (xErr_form S h0 (n := n) (z := z) (.inl (by rw [← HRR.out]; exact hr0)))
    clear hr0
    go_wp2_with (go_at_call 32; refine (emust_false 9 _).mono ?_; rintro e wq ⟨rfl, hq⟩; obtain rfl := hq.symm)
    exact HF.out.bad HWS.out HKB.out HE.out (by decide) (by decide) rfl rfl rfl
  by_cases hi0 : i = 0
  rotate_left
  · have h1 : (r == 0) = true := by simpa using hr0
    have h2 : ((i : Int) == 0) = false := by simp; omega
    have HE := Lib.hid (xErr_form S h0 (n := n) (z := z) (.inr ⟨HKK.out, by rw [← HI.out]; exact hi0⟩))
    clear hr0 hi0
    go_wp2_with (go_at_call 32; refine (emust_false 9 _).mono ?_; rintro e wq ⟨rfl, hq⟩; obtain rfl := hq.symm)
    exact HF.out.bad HWS.out HKB.out HE.out (by decide) (by decide) rfl rfl rfl
  have h2 : ((i : Int) == 0) = true := by simp; omega
  have HNF : Hid (¬ (z 0 % 4 ≠ 0 ∨ (xKind z = 3 ∧ xAt z ≠ 0))) := Lib.hid (by rw [← HRR.out, ← HI.out]; simp [hr0, hi0])
  clear hi0
  have h1 : (r == 0) = true := by simpa using hr0
  clear hr0
  by_cases hsh : n < 2
  · have h3 : decide ((2 : Int) ≤ (n : Int)) = false := by simp; omega
    have h3' : ¬ (2 : Int) ≤ (n : Int) := by omega
    have HE := Lib.hid (xErr_short S h0 HNF.out (n := n) (z := z) (by rw [show xKind z = 3 from HKK.out]; exact hsh))
    clear hsh
    go_wp2_with (first
      | (go_at_call 32; refine (emust_false 5 _).mono ?_; rintro e wq ⟨rfl, hq⟩; obtain rfl := hq.symm)
      | (go_at_call 32; refine (emust_true 9 _).mono ?_; rintro e wq ⟨rfl, hq⟩; obtain rfl := hq.symm))
    exact HF.out.bad HWS.out HKB.out HE.out (by decide) (by decide) rfl rfl rfl
  have h3 : decide ((2 : Int) ≤ (n : Int)) = true := by simp; omega
  have h3' : (2 : Int) ≤ (n : Int) := by omega
  have HE := Lib.hid (xErr_rest S h0 HNF.out (n := n) (z := z) (by rw [show xKind z = 3 from HKK.out]; exact hsh))
  rw [show xKind z = 3 from HKK.out] at HE
  have hix2 : ∀ W : World, (Instr.index 83 (.agg #[.func (.func 34) #[] #[], .func (.func 35) #[] #[], .func (.func 36) #[] #[], .func (.func 37) #[] #[]]) (.int .u8 3)).run Try.prog W = .ok (.func (.func 37) #[] #[]) W := fun W => by kernel_rfl
  have HRW := Lib.hid (show Row W W.heap.size (some ⟨lb, lo, none⟩) n (fun j => .int .u8 (z j)) from HR.out.next HF.out.b)
  have HGW := Lib.hid (HKB.out.below HF.out.b hgl)
  have hgH : g < H := by rw [HHS.out]; exact hgl
  rw [if_pos rfl] at HE
  by_cases h9 : 9001 < n
  · rw [if_pos h9] at HE

    go_wp2_with (first
      | (go_at_call 32; refine (emust_true _ _).mono ?_; rintro e wq ⟨rfl, hq⟩; obtain rfl := hq.symm)
      | (go_at_call 37; refine (eraw_bad _ (some ⟨lb, lo, none⟩) n cp h9 (by unfold maxLen; omega) W).mono ?_; rintro e wq ⟨rfl, hq⟩; obtain rfl := hq.symm))
    exact HF.out.bad HWS.out HKB.out HE.out (by decide) (by decide) rfl rfl rfl
  · rw [if_neg h9] at HE

    go_wp2_with (first
      | (go_at_call 32; refine (emust_true _ _).mono ?_; rintro e wq ⟨rfl, hq⟩; obtain rfl := hq.symm)
      | (go_at_call 37; refine (eraw_ok _ (some ⟨lb, lo, none⟩) n cp z (by omega) (by omega) hnc W HRW.out).mono ?_; rintro e w3 ⟨B, d, rfl, hd, hF3, hR3, b3⟩;
         obtain ⟨Bb, Bo, rfl, _, _⟩ := hR3 (by omega);
         have K3 := Lib.hid (show Keep1 (H + 4) W w3 from keep_of_below b3); have C3 := Lib.hid (show KB w3 (H + 4) c from Blk.below HF.out.k b3 (Blk.lt HF.out.k)); clear b3;
         have P3 := Lib.hid (K3.out.blk HF.out.p (by omega)); have E3 := Lib.hid (K3.out.blk HF.out.e (by omega)); have X3 := Lib.hid (K3.out.blk HF.out.x (by omega)); have A3 := Lib.hid (K3.out.blk HF.out.a (by omega));
         have G3 := Lib.hid (show EB w3 g true S from K3.out.blk HGW.out (by omega));
         have HD := Lib.hid hd; have HF3 := Lib.hid hF3; have R3 := Lib.hid hR3; clear hd hF3 hR3;
         have y1 : w3.cell? ⟨H + 1, 0, none⟩ = some (.slice none 0 0) := P3.out.cell 0; have y2 := P3.out.frozen 0; have y3 : w3.cell? ⟨H + 1 + 1, 0, none⟩ = some (.int .i64 0) := E3.out.cell 0; have y4 := E3.out.frozen 0))
    exact HF.out.good HWS.out hgH hi16 K3.out C3.out G3.out HD.out HF3.out R3.out HE.out (by unfold xLen; rw [HE.out, if_neg (by decide), if_pos (show xKind z = 3 from HKK.out)]) (by unfold xY; rw [if_pos (show xKind z = 3 from HKK.out)]) (by unfold xS; rw [HE.out, if_neg (by decide), if_neg (by decide), if_neg (by rw [show xKind z = 3 from HKK.out]; decide), if_neg (by rw [show xKind z = 3 from HKK.out]; decide), HC.out, updE_self]) rfl rfl rfl

set_option maxRecDepth 100000 in
set_option maxHeartbeats 1600000 in
theorem expand_walk0 (g : Nat) (S : Nat → Ec) (lb lo n cp : Nat) (z : Nat → Int) (w : World) (h : EB w g true S) (hok : ∀ i, i < 16 → (S i).Ok) (h0 : 0 < n) (hnc : n ≤ cp) (hm : n ≤ maxLen) (hz : ∀ j, j < n → 0 ≤ z j ∧ z j < 256) (hr : Row w w.heap.size (some ⟨lb, lo, none⟩) n (fun j => .int .u8 (z j))) (hlg : lb ≠ g) (hk : z 0 / 64 = 0) :
    Calls Try.prog 14 #[.pointer (some ⟨g, 0, none⟩), .slice (some ⟨lb, lo, none⟩) n cp] w (XOut S n z g w) := by
  unfold maxLen at hm
  have hgl := h.lt
  have HB := Lib.hid (fun o o1 o2 : Obj => enone_ok g true S _ (((h.alloc o).alloc o1).alloc o2))
  obtain ⟨lb', lo', hab, hlb, hc⟩ := hr (by omega)
  cases hab
  have c0 : w.cell? ⟨lb, lo, none⟩ = some (.int .u8 (z 0)) := hc 0 h0
  have b0 := hz 0 h0
  have hmf : ∀ (fn : Fn) (first cap : Array Value) (w : World), (Instr.makeFunc fn first cap).run Try.prog w = .ok (.func fn first cap) w := fun _ _ _ _ => rfl
  obtain ⟨i, hi⟩ : ∃ i, i = xAt z := ⟨_, rfl⟩
  have hi16 : i < 16 := by rw [hi]; unfold xAt; omega
  have ha : bits .and .u8 (z 0 / 4) 15 = (i : Int) := by rw [hi, and15u _ (by omega) (by omega)]; unfold xAt; omega
  have i0 : (0 : Int) ≤ (i : Int) := by omega
  have i1 : (i : Int) < 16 := by omega
  have hp0 : (0 : Int) < (n : Int) := by omega
  have hn0 : ((n : Int) == 0) = false := by simp; omega
  obtain ⟨H, hH⟩ : ∃ H, H = w.heap.size := ⟨_, rfl⟩
  have HHS := Lib.hid hH
  have HKB := Lib.hid h
  have HR := Lib.hid hr
  have HZ := Lib.hid hz
  have HOK := Lib.hid hok
  have HI := Lib.hid hi
  obtain ⟨c, hcc⟩ : ∃ c, c = S i := ⟨_, rfl⟩
  have HC := Lib.hid hcc
  clear h hr hz hok hc hi hcc
  go_enter_defers Try.func14, Try.ntmps14
  go_upto_region 5 with (go_at_call 28; refine (HB.out _ _ _).mono ?_; rintro e w1 ⟨rfl, rfl⟩)
  refine wp_world (fun W => Blk W H 22 #[.pointer (some ⟨g, 0, none⟩)] ∧ Blk W (H + 1) 24 #[.slice none 0 0] ∧ Blk W (H + 1 + 1) 28 #[.int .i64 0] ∧ Below w.heap.size w W ∧ W.heap.size = H + 3) ⟨by rw [hH]; exact ((Blk.new _ _ _).alloc _).alloc _, by rw [hH]; exact (blk_new_at _ _ _ _ (by simp)).alloc _, by rw [hH]; exact blk_new_at _ _ _ _ (by simp), (((Below.refl _ w).alloc (Nat.le_refl _) _).alloc (by simp) _).alloc (by simp; omega) _, by rw [hH]; simp⟩ ?_
  rw [← hH]
  rintro W1 ⟨x1, p1, e1, b1, s1⟩
  have X1 := Lib.hid x1
  have P1 := Lib.hid p1
  have E1 := Lib.hid e1
  have B1 := Lib.hid (show Below w.heap.size w W1 from by rw [← hH]; exact b1)
  have c0' := (B1.out.cell (p := ⟨lb, lo, none⟩) hlb).trans c0
  clear x1 p1 e1 b1 hH
  go_region_held3 (fun w' => w'.cell? ⟨lb, lo, none⟩ = some (.int .u8 (z 0))) (go_keep) ((fail))
  refine then_world (fun W => Blk W H 22 #[.pointer (some ⟨g, 0, none⟩)] ∧ Blk W (H + 1) 24 #[.slice none 0 0] ∧ Blk W (H + 1 + 1) 28 #[.int .i64 0] ∧ Blk W (H + 3) 5 #[.int .u8 (i : Int)] ∧ Below w.heap.size w W ∧ W.heap.size = H + 4) ⟨(X1.out.alloc _).drew, (P1.out.alloc _).drew, (E1.out.alloc _).drew, Blk.drew (blk_new_at _ _ _ _ s1), (below_new B1.out _).drew, by simp [s1]⟩ ?_
  rintro W2 ⟨x2, p2, r2, a2, b2, s2⟩
  have X2 := Lib.hid x2
  have P2 := Lib.hid p2
  have E2 := Lib.hid r2
  have A2 := Lib.hid a2
  have B2 := Lib.hid b2
  have G2 := Lib.hid (HKB.out.below b2 hgl)
  have x2' : W2.cell? ⟨H, 0, none⟩ = some (.pointer (some ⟨g, 0, none⟩)) := x2.cell 0
  have a2' : W2.cell? ⟨H + 3, 0, none⟩ = some (.int .u8 (i : Int)) := a2.cell 0
  obtain ⟨e0, e1, e2, e3, e4, e5, e6, e7, e8, e9, e10⟩ := G2.out.cells hi16
  rw [← HC.out] at e0 e1 e2 e3 e4 e5 e6 e7 e8 e9 e10
  clear x2 p2 r2 a2 b2 s1 c0' ha
  go_wp2
  go_region_held3 (fun w' => w'.cell? ⟨g, 1 + i * 11, none⟩ = some (.int .i64 c.hops) ∧ w'.cell? ⟨g, 1 + i * 11 + 1, none⟩ = some (.int .i64 c.ident) ∧ w'.cell? ⟨g, 1 + i * 11 + 2, none⟩ = some (.int .i64 c.time) ∧ w'.cell? ⟨g, 1 + i * 11 + 3, none⟩ = some (.bool c.valid) ∧ w'.cell? ⟨g, 1 + i * 11 + 4, none⟩ = some (.int .i64 c.f0) ∧ w'.cell? ⟨g, 1 + i * 11 + 5, none⟩ = some (.int .i64 c.f1) ∧ w'.cell? ⟨g, 1 + i * 11 + 6, none⟩ = some (.int .i64 c.f2) ∧ w'.cell? ⟨g, 1 + i * 11 + 7, none⟩ = some (.int .i64 c.f3) ∧ w'.cell? ⟨g, 1 + i * 11 + 8, none⟩ = some (.int .i64 c.f4) ∧ w'.cell? ⟨g, 1 + i * 11 + 9, none⟩ = some (.int .u8 c.gen) ∧ w'.cell? ⟨g, 1 + i * 11 + 10, none⟩ = some (.int .i64 c.step) ∧ w'.cell? ⟨H, 0, none⟩ = some (.pointer (some ⟨g, 0, none⟩)) ∧ w'.cell? ⟨H + 3, 0, none⟩ = some (.int .u8 (i : Int))) (go_keep) ((fail))
  refine then_world (fun W => XFr w g H i S c W) ⟨(X2.out.alloc _).drew, (P2.out.alloc _).drew, (E2.out.alloc _).drew, (A2.out.alloc _).drew, Blk.drew (blk_new_at _ _ _ _ s2), (below_new B2.out _).drew⟩ ?_
  rintro W hF
  have HF := Lib.hid hF
  have HWS := Lib.hid (HHS.out.symm)
  have ca : W.cell? ⟨H + 3, 0, none⟩ = some (.int .u8 (i : Int)) := hF.a.cell 0
  have c0' := (hF.b.cell (p := ⟨lb, lo, none⟩) hlb).trans c0
  clear hF x2' a2' e0 e1 e2 e3 e4 e5 e6 e7 e8 e9 e10 s2

  have r3 := and3u (z 0) b0.1 b0.2
  have hix : ∀ W : World, (Instr.index 78 (.agg #[.int .i64 20, .int .i64 6, .int .i64 3, .int .i64 2]) (.int .u8 0)).run Try.prog W = .ok (.int .i64 20) W := fun W => by kernel_rfl
  obtain ⟨r, hr⟩ : ∃ r, r = z 0 % 4 := ⟨_, rfl⟩
  rw [← hr] at r3
  have HRR := Lib.hid hr
  have HKK := Lib.hid hk
  obtain ⟨x0, hx0⟩ : ∃ x, x = z 0 := ⟨_, rfl⟩
  rw [← hx0] at c0' r3 c0 ⊢
  clear hr hk hx0 b0
  by_cases hr0 : r = 0
  rotate_left
  · have h1 : (r == 0) = false := by simpa using hr0
    have HE := Lib.hid (xErr_form S h0 (n := n) (z := z) (.inl (by rw [← HRR.out]; exact hr0)))
    clear hr0
    go_wp2_with (go_at_call 32; refine (emust_false 9 _).mono ?_; rintro e wq ⟨rfl, hq⟩; obtain rfl := hq.symm)
    exact HF.out.bad HWS.out HKB.out HE.out (by decide) (by decide) rfl rfl rfl
  have HNF : Hid (¬ (z 0 % 4 ≠ 0 ∨ (xKind z = 3 ∧ xAt z ≠ 0))) := Lib.hid (by rw [← HRR.out]; simp [hr0, show xKind z = 0 from HKK.out])
  have h1 : (r == 0) = true := by simpa using hr0
  clear hr0
  by_cases hsh : n < 20
  · have h3 : decide ((20 : Int) ≤ (n : Int)) = false := by simp; omega
    have h3' : ¬ (20 : Int) ≤ (n : Int) := by omega
    have HE := Lib.hid (xErr_short S h0 HNF.out (n := n) (z := z) (by rw [show xKind z = 0 from HKK.out]; exact hsh))
    clear hsh
    go_wp2_with (first
      | (go_at_call 32; refine (emust_false 5 _).mono ?_; rintro e wq ⟨rfl, hq⟩; obtain rfl := hq.symm)
      | (go_at_call 32; refine (emust_true 9 _).mono ?_; rintro e wq ⟨rfl, hq⟩; obtain rfl := hq.symm))
    exact HF.out.bad HWS.out HKB.out HE.out (by decide) (by decide) rfl rfl rfl
  have h3 : decide ((20 : Int) ≤ (n : Int)) = true := by simp; omega
  have h3' : (20 : Int) ≤ (n : Int) := by omega
  have HE := Lib.hid (xErr_rest S h0 HNF.out (n := n) (z := z) (by rw [show xKind z = 0 from HKK.out]; exact hsh))
  rw [show xKind z = 0 from HKK.out] at HE
  have hix2 : ∀ W : World, (Instr.index 83 (.agg #[.func (.func 34) #[] #[], .func (.func 35) #[] #[], .func (.func 36) #[] #[], .func (.func 37) #[] #[]]) (.int .u8 0)).run Try.prog W = .ok (.func (.func 34) #[] #[]) W := fun W => by kernel_rfl
  have HRW := Lib.hid (show Row W W.heap.size (some ⟨lb, lo, none⟩) n (fun j => .int .u8 (z j)) from HR.out.next HF.out.b)
  have HGW := Lib.hid (HKB.out.below HF.out.b hgl)
  have hgH : g < H := by rw [HHS.out]; exact hgl
  rw [if_neg (by decide), if_pos rfl] at HE
  have hlk : lb ≠ H + 4 := (by have := HHS.out; omega)
  by_cases hf : fuErr n z = 0
  rotate_left
  · obtain ⟨x, hx⟩ : ∃ x, x = fuErr n z := ⟨_, rfl⟩
    have h11 : x ≠ 11 := (by have := fuErr_cases n z; omega)
    have hx0' : x ≠ 0 := (by omega)
    rw [← hx] at HE
    have HX := Lib.hid hx.symm
    clear hx hf
    go_wp2_with (first
      | (go_at_call 32; refine (emust_true _ _).mono ?_; rintro e wq ⟨rfl, hq⟩; obtain rfl := hq.symm)
      | (go_at_call 34; refine (efull_bad _ (some ⟨lb, lo, none⟩) n cp z x (by omega) hnc (by unfold maxLen; omega) HZ.out HX.out hx0' W HRW.out).mono ?_; rintro e wq ⟨rfl, hq⟩; obtain rfl := hq.symm))
    exact HF.out.bad HWS.out HKB.out HE.out hx0' h11 rfl rfl rfl
  · rw [hf] at HE
    have HFF := Lib.hid hf
    clear hf

    go_wp2_with (first
      | (go_at_call 32; refine (emust_true _ _).mono ?_; rintro e wq ⟨rfl, hq⟩; obtain rfl := hq.symm)
      | (go_at_call 34; refine (efull_ok (H + 4) lb lo c n cp z (by omega) hnc HZ.out HFF.out hlk W HF.out.k HRW.out).mono ?_; rintro e w3 ⟨B, d, rfl, hd, hF3, hR3, k3x, e3x⟩;
         obtain ⟨Bb, Bo, rfl, _, _⟩ := hR3 (by omega);
         have K3 := Lib.hid e3x; have C3 := Lib.hid k3x; clear k3x e3x;
         have P3 := Lib.hid (K3.out.blk HF.out.p (by omega)); have E3 := Lib.hid (K3.out.blk HF.out.e (by omega)); have X3 := Lib.hid (K3.out.blk HF.out.x (by omega)); have A3 := Lib.hid (K3.out.blk HF.out.a (by omega));
         have G3 := Lib.hid (show EB w3 g true S from K3.out.blk HGW.out (by omega));
         have HD := Lib.hid hd; have HF3 := Lib.hid hF3; have R3 := Lib.hid hR3; clear hd hF3 hR3;
         have y1 : w3.cell? ⟨H + 1, 0, none⟩ = some (.slice none 0 0) := P3.out.cell 0; have y2 := P3.out.frozen 0; have y3 : w3.cell? ⟨H + 1 + 1, 0, none⟩ = some (.int .i64 0) := E3.out.cell 0; have y4 := E3.out.frozen 0))
    exact HF.out.good HWS.out hgH hi16 K3.out C3.out G3.out HD.out HF3.out R3.out HE.out (by unfold xLen; rw [HE.out, if_neg (by decide), if_neg (by rw [show xKind z = 0 from HKK.out]; decide), if_pos (show xKind z = 0 from HKK.out)]) (by unfold xY; rw [if_neg (by rw [show xKind z = 0 from HKK.out]; decide), if_pos (show xKind z = 0 from HKK.out)]) (by unfold xS; rw [HE.out, if_neg (by decide), if_neg (by decide), if_pos (show xKind z = 0 from HKK.out), ← HI.out]) rfl rfl rfl

set_option maxRecDepth 100000 in
set_option maxHeartbeats 1600000 in
theorem expand_walk1 (g : Nat) (S : Nat → Ec) (lb lo n cp : Nat) (z : Nat → Int) (w : World) (h : EB w g true S) (hok : ∀ i, i < 16 → (S i).Ok) (h0 : 0 < n) (hnc : n ≤ cp) (hm : n ≤ maxLen) (hz : ∀ j, j < n → 0 ≤ z j ∧ z j < 256) (hr : Row w w.heap.size (some ⟨lb, lo, none⟩) n (fun j => .int .u8 (z j))) (hlg : lb ≠ g) (hk : z 0 / 64 = 1) :
    Calls Try.prog 14 #[.pointer (some ⟨g, 0, none⟩), .slice (some ⟨lb, lo, none⟩) n cp] w (XOut S n z g w) := by
  unfold maxLen at hm
  have hgl := h.lt
  have HB := Lib.hid (fun o o1 o2 : Obj => enone_ok g true S _ (((h.alloc o).alloc o1).alloc o2))
  obtain ⟨lb', lo', hab, hlb, hc⟩ := hr (by omega)
  cases hab
  have c0 : w.cell? ⟨lb, lo, none⟩ = some (.int .u8 (z 0)) := hc 0 h0
  have b0 := hz 0 h0
  have hmf : ∀ (fn : Fn) (first cap : Array Value) (w : World), (Instr.makeFunc fn first cap).run Try.prog w = .ok (.func fn first cap) w := fun _ _ _ _ => rfl
  obtain ⟨i, hi⟩ : ∃ i, i = xAt z := ⟨_, rfl⟩
  have hi16 : i < 16 := by rw [hi]; unfold xAt; omega
  have ha : bits .and .u8 (z 0 / 4) 15 = (i : Int) := by rw [hi, and15u _ (by omega) (by omega)]; unfold xAt; omega
  have i0 : (0 : Int) ≤ (i : Int) := by omega
  have i1 : (i : Int) < 16 := by omega
  have hp0 : (0 : Int) < (n : Int) := by omega
  have hn0 : ((n : Int) == 0) = false := by simp; omega
  obtain ⟨H, hH⟩ : ∃ H, H = w.heap.size := ⟨_, rfl⟩
  have HHS := Lib.hid hH
  have HKB := Lib.hid h
  have HR := Lib.hid hr
  have HZ := Lib.hid hz
  have HOK := Lib.hid hok
  have HI := Lib.hid hi
  obtain ⟨c, hcc⟩ : ∃ c, c = S i := ⟨_, rfl⟩
  have HC := Lib.hid hcc
  clear h hr hz hok hc hi hcc
  go_enter_defers Try.func14, Try.ntmps14
  go_upto_region 5 with (go_at_call 28; refine (HB.out _ _ _).mono ?_; rintro e w1 ⟨rfl, rfl⟩)
  refine wp_world (fun W => Blk W H 22 #[.pointer (some ⟨g, 0, none⟩)] ∧ Blk W (H + 1) 24 #[.slice none 0 0] ∧ Blk W (H + 1 + 1) 28 #[.int .i64 0] ∧ Below w.heap.size w W ∧ W.heap.size = H + 3) ⟨by rw [hH]; exact ((Blk.new _ _ _).alloc _).alloc _, by rw [hH]; exact (blk_new_at _ _ _ _ (by simp)).alloc _, by rw [hH]; exact blk_new_at _ _ _ _ (by simp), (((Below.refl _ w).alloc (Nat.le_refl _) _).alloc (by simp) _).alloc (by simp; omega) _, by rw [hH]; simp⟩ ?_
  rw [← hH]
  rintro W1 ⟨x1, p1, e1, b1, s1⟩
  have X1 := Lib.hid x1
  have P1 := Lib.hid p1
  have E1 := Lib.hid e1
  have B1 := Lib.hid (show Below w.heap.size w W1 from by rw [← hH]; exact b1)
  have c0' := (B1.out.cell (p := ⟨lb, lo, none⟩) hlb).trans c0
  clear x1 p1 e1 b1 hH
  go_region_held3 (fun w' => w'.cell? ⟨lb, lo, none⟩ = some (.int .u8 (z 0))) (go_keep) ((fail))
  refine then_world (fun W => Blk W H 22 #[.pointer (some ⟨g, 0, none⟩)] ∧ Blk W (H + 1) 24 #[.slice none 0 0] ∧ Blk W (H + 1 + 1) 28 #[.int .i64 0] ∧ Blk W (H + 3) 5 #[.int .u8 (i : Int)] ∧ Below w.heap.size w W ∧ W.heap.size = H + 4) ⟨(X1.out.alloc _).drew, (P1.out.alloc _).drew, (E1.out.alloc _).drew, Blk.drew (blk_new_at _ _ _ _ s1), (below_new B1.out _).drew, by simp [s1]⟩ ?_
  rintro W2 ⟨x2, p2, r2, a2, b2, s2⟩
  have X2 := Lib.hid x2
  have P2 := Lib.hid p2
  have E2 := Lib.hid r2
  have A2 := Lib.hid a2
  have B2 := Lib.hid b2
  have G2 := Lib.hid (HKB.out.below b2 hgl)
  have x2' : W2.cell? ⟨H, 0, none⟩ = some (.pointer (some ⟨g, 0, none⟩)) := x2.cell 0
  have a2' : W2.cell? ⟨H + 3, 0, none⟩ = some (.int .u8 (i : Int)) := a2.cell 0
  obtain ⟨e0, e1, e2, e3, e4, e5, e6, e7, e8, e9, e10⟩ := G2.out.cells hi16
  rw [← HC.out] at e0 e1 e2 e3 e4 e5 e6 e7 e8 e9 e10
  clear x2 p2 r2 a2 b2 s1 c0' ha
  go_wp2
  go_region_held3 (fun w' => w'.cell? ⟨g, 1 + i * 11, none⟩ = some (.int .i64 c.hops) ∧ w'.cell? ⟨g, 1 + i * 11 + 1, none⟩ = some (.int .i64 c.ident) ∧ w'.cell? ⟨g, 1 + i * 11 + 2, none⟩ = some (.int .i64 c.time) ∧ w'.cell? ⟨g, 1 + i * 11 + 3, none⟩ = some (.bool c.valid) ∧ w'.cell? ⟨g, 1 + i * 11 + 4, none⟩ = some (.int .i64 c.f0) ∧ w'.cell? ⟨g, 1 + i * 11 + 5, none⟩ = some (.int .i64 c.f1) ∧ w'.cell? ⟨g, 1 + i * 11 + 6, none⟩ = some (.int .i64 c.f2) ∧ w'.cell? ⟨g, 1 + i * 11 + 7, none⟩ = some (.int .i64 c.f3) ∧ w'.cell? ⟨g, 1 + i * 11 + 8, none⟩ = some (.int .i64 c.f4) ∧ w'.cell? ⟨g, 1 + i * 11 + 9, none⟩ = some (.int .u8 c.gen) ∧ w'.cell? ⟨g, 1 + i * 11 + 10, none⟩ = some (.int .i64 c.step) ∧ w'.cell? ⟨H, 0, none⟩ = some (.pointer (some ⟨g, 0, none⟩)) ∧ w'.cell? ⟨H + 3, 0, none⟩ = some (.int .u8 (i : Int))) (go_keep) ((fail))
  refine then_world (fun W => XFr w g H i S c W) ⟨(X2.out.alloc _).drew, (P2.out.alloc _).drew, (E2.out.alloc _).drew, (A2.out.alloc _).drew, Blk.drew (blk_new_at _ _ _ _ s2), (below_new B2.out _).drew⟩ ?_
  rintro W hF
  have HF := Lib.hid hF
  have HWS := Lib.hid (HHS.out.symm)
  have ca : W.cell? ⟨H + 3, 0, none⟩ = some (.int .u8 (i : Int)) := hF.a.cell 0
  have c0' := (hF.b.cell (p := ⟨lb, lo, none⟩) hlb).trans c0
  clear hF x2' a2' e0 e1 e2 e3 e4 e5 e6 e7 e8 e9 e10 s2

  have r3 := and3u (z 0) b0.1 b0.2
  have hix : ∀ W : World, (Instr.index 78 (.agg #[.int .i64 20, .int .i64 6, .int .i64 3, .int .i64 2]) (.int .u8 1)).run Try.prog W = .ok (.int .i64 6) W := fun W => by kernel_rfl
  obtain ⟨r, hr⟩ : ∃ r, r = z 0 % 4 := ⟨_, rfl⟩
  rw [← hr] at r3
  have HRR := Lib.hid hr
  have HKK := Lib.hid hk
  obtain ⟨x0, hx0⟩ : ∃ x, x = z 0 := ⟨_, rfl⟩
  rw [← hx0] at c0' r3 c0 ⊢
  clear hr hk hx0 b0
  by_cases hr0 : r = 0
  rotate_left
  · have h1 : (r == 0) = false := by simpa using hr0
    have HE := Lib.hid (xErr_form S h0 (n := n) (z := z) (.inl (by rw [← HRR.out]; exact hr0)))
    clear hr0
    go_wp2_with (go_at_call 32; refine (emust_false 9 _).mono ?_; rintro e wq ⟨rfl, hq⟩; obtain rfl := hq.symm)
    exact HF.out.bad HWS.out HKB.out HE.out (by decide) (by decide) rfl rfl rfl
  have HNF : Hid (¬ (z 0 % 4 ≠ 0 ∨ (xKind z = 3 ∧ xAt z ≠ 0))) := Lib.hid (by rw [← HRR.out]; simp [hr0, show xKind z = 1 from HKK.out])
  have h1 : (r == 0) = true := by simpa using hr0
  clear hr0
  by_cases hsh : n < 6
  · have h3 : decide ((6 : Int) ≤ (n : Int)) = false := by simp; omega
    have h3' : ¬ (6 : Int) ≤ (n : Int) := by omega
    have HE := Lib.hid (xErr_short S h0 HNF.out (n := n) (z := z) (by rw [show xKind z = 1 from HKK.out]; exact hsh))
    clear hsh
    go_wp2_with (first
      | (go_at_call 32; refine (emust_false 5 _).mono ?_; rintro e wq ⟨rfl, hq⟩; obtain rfl := hq.symm)
      | (go_at_call 32; refine (emust_true 9 _).mono ?_; rintro e wq ⟨rfl, hq⟩; obtain rfl := hq.symm))
    exact HF.out.bad HWS.out HKB.out HE.out (by decide) (by decide) rfl rfl rfl
  have h3 : decide ((6 : Int) ≤ (n : Int)) = true := by simp; omega
  have h3' : (6 : Int) ≤ (n : Int) := by omega
  have HE := Lib.hid (xErr_rest S h0 HNF.out (n := n) (z := z) (by rw [show xKind z = 1 from HKK.out]; exact hsh))
  rw [show xKind z = 1 from HKK.out] at HE
  have hix2 : ∀ W : World, (Instr.index 83 (.agg #[.func (.func 34) #[] #[], .func (.func 35) #[] #[], .func (.func 36) #[] #[], .func (.func 37) #[] #[]]) (.int .u8 1)).run Try.prog W = .ok (.func (.func 35) #[] #[]) W := fun W => by kernel_rfl
  have HRW := Lib.hid (show Row W W.heap.size (some ⟨lb, lo, none⟩) n (fun j => .int .u8 (z j)) from HR.out.next HF.out.b)
  have HGW := Lib.hid (HKB.out.below HF.out.b hgl)
  have hgH : g < H := by rw [HHS.out]; exact hgl
  rw [if_neg (by decide), if_neg (by decide), ← HI.out, ← HC.out, show xGen c 1 = (c.gen + 1) % 256 from rfl] at HE
  have hlk : lb ≠ H + 4 := (by have := HHS.out; omega)
  have HCO := Lib.hid (show c.Ok from (by rw [HC.out]; exact HOK.out i hi16))
  obtain ⟨X, hX⟩ : ∃ X, X = acErr c n z 6 ((c.gen + 1) % 256) := ⟨_, rfl⟩
  have HXC := Lib.hid (show X = 0 ∨ X = 4 ∨ X = 9 ∨ X = 11 from (by rw [hX]; exact acErr_cases _ _ _ _ _))
  have HCK := Lib.hid (fun (W : World) (hR : Row W W.heap.size (some ⟨lb, lo, none⟩) n (fun j => .int .u8 (z j))) => checked1_ok c (some ⟨lb, lo, none⟩) n cp z (by omega) (by unfold maxLen; omega) HZ.out HCO.out.gen W hR)
  rw [← hX] at HCK
  rw [show xHead 1 = 6 from rfl, ← hX] at HE
  have HX := Lib.hid hX.symm
  obtain ⟨k0, k1, k2, k3, k4, k5, k6, k7, k8, k9, k10⟩ := KB.cells HF.out.k
  clear hX
  go_upto_region 13 with (first
    | (go_at_call 32; refine (emust_true _ _).mono ?_; rintro e wq ⟨rfl, hq⟩; obtain rfl := hq.symm)
    | (go_at_call 33; refine (HCK.out W HRW.out).mono ?_; rintro e w2 ⟨rfl, b2⟩; have F2 := Lib.hid (HF.out.next b2); have G2' := Lib.hid (HGW.out.below b2 HGW.out.lt); have R2 := Lib.hid (HRW.out.next b2); clear b2))
  have ca2 : w2.cell? ⟨H + 3, 0, none⟩ = some (.int .u8 (i : Int)) := F2.out.a.cell 0
  have cx2 : w2.cell? ⟨H, 0, none⟩ = some (.pointer (some ⟨g, 0, none⟩)) := F2.out.x.cell 0
  clear k0 k1 k2 k3 k4 k5 k6 k7 k8 k9 k10 c0' ca
  by_cases h11 : X = 11
  · rw [h11] at HE
    have h11b : (X == 11) = true := (by simpa using h11)
    have HX11 := Lib.hid h11
    obtain ⟨e0, e1, e2, e3, e4, e5, e6, e7, e8, e9, e10⟩ := G2'.out.cells hi16
    have m1 : ¬ g = H := (by omega)
    have m2 : ¬ H = g := (by omega)
    have m3 : ¬ g = H + 3 := (by omega)
    have m4 : ¬ H + 3 = g := (by omega)
    have f0 := G2'.out.fr (1 + i * 11)
    have f1 := G2'.out.fr (1 + i * 11 + 1)
    have f2 := G2'.out.fr (1 + i * 11 + 2)
    have f3 := G2'.out.fr (1 + i * 11 + 3)
    have f4 := G2'.out.fr (1 + i * 11 + 4)
    have f5 := G2'.out.fr (1 + i * 11 + 5)
    have f6 := G2'.out.fr (1 + i * 11 + 6)
    have f7 := G2'.out.fr (1 + i * 11 + 7)
    have f8 := G2'.out.fr (1 + i * 11 + 8)
    have f9 := G2'.out.fr (1 + i * 11 + 9)
    have f10 := G2'.out.fr (1 + i * 11 + 10)
    clear h11
    go_wp2
    go_region_held3 (fun w' => w'.cell? ⟨H + 3, 0, none⟩ = some (.int .u8 (i : Int)) ∧ w'.cell? ⟨H, 0, none⟩ = some (.pointer (some ⟨g, 0, none⟩))) (go_keep) ((fail))
    refine then_world (fun W => EB W g true (updE S i Ec.zero) ∧ Keep1 g w2 W) ⟨EB.drew_ (EB.all G2'.out hi16 Ec.zero), grownBy_drew (grownBy_set (grownBy_set (grownBy_set (grownBy_set (grownBy_set (grownBy_set (grownBy_set (grownBy_set (grownBy_set (grownBy_set (grownBy_set (World.grownBy_refl _ _) _ _) _ _) _ _) _ _) _ _) _ _) _ _) _ _) _ _) _ _) _ _)⟩ ?_
    rintro W3 ⟨g3, k3⟩
    have G3 := Lib.hid g3
    have K3 := Lib.hid k3
    have P3 := Lib.hid (k3.blk F2.out.p (by omega))
    have E3 := Lib.hid (k3.blk F2.out.e (by omega))
    have ca3 : W3.cell? ⟨H + 3, 0, none⟩ = some (.int .u8 (i : Int)) := (k3.blk F2.out.a (by omega)).cell 0
    have y1 : W3.cell? ⟨H + 1, 0, none⟩ = some (.slice none 0 0) := P3.out.cell 0
    have y2 := P3.out.frozen 0
    have y3 : W3.cell? ⟨H + 1 + 1, 0, none⟩ = some (.int .i64 0) := E3.out.cell 0
    have y4 := E3.out.frozen 0
    have hor := or160 i hi16
    have hl3 : H + 4 < W3.heap.size := Nat.lt_of_lt_of_le (Blk.lt F2.out.k) k3.size
    have q1 : ¬ W3.heap.size = H + 1 := (by omega)
    have q2 : ¬ W3.heap.size = H + 1 + 1 := (by omega)
    have q3 : ¬ H + 1 = W3.heap.size := (by omega)
    have q4 : ¬ H + 1 + 1 = W3.heap.size := (by omega)
    have z1 : ∀ o : Obj, (W3.alloc o).cell? ⟨H + 1, 0, none⟩ = some (.slice none 0 0) := fun o => (P3.out.alloc o).cell 0
    have z2 : ∀ o : Obj, (W3.alloc o).frozen? ⟨H + 1, 0, none⟩ = false := fun o => (P3.out.alloc o).frozen 0
    have z3 : ∀ o : Obj, (W3.alloc o).cell? ⟨H + 1 + 1, 0, none⟩ = some (.int .i64 0) := fun o => (E3.out.alloc o).cell 0
    have z4 : ∀ o : Obj, (W3.alloc o).frozen? ⟨H + 1 + 1, 0, none⟩ = false := fun o => (E3.out.alloc o).frozen 0
    have z5 : ∀ (o : Obj) (v : Value), ((W3.alloc o).setCell ⟨H + 1, 0, none⟩ v).cell? ⟨H + 1 + 1, 0, none⟩ = some (.int .i64 0) := fun o v => ((E3.out.alloc o).far (by show H + 1 + 1 ≠ H + 1; omega) v).cell 0
    have z6 : ∀ (o : Obj) (v : Value), ((W3.alloc o).setCell ⟨H + 1, 0, none⟩ v).frozen? ⟨H + 1 + 1, 0, none⟩ = false := fun o v => ((E3.out.alloc o).far (by show H + 1 + 1 ≠ H + 1; omega) v).frozen 0
    have z7 : ∀ (o : Obj) (v : Value), ((W3.alloc o).setCell ⟨H + 1, 0, none⟩ v).cell? ⟨H + 3, 0, none⟩ = some (.int .u8 (i : Int)) := fun o v => (((k3.blk F2.out.a (by omega)).alloc o).far (by show H + 3 ≠ H + 1; omega) v).cell 0
    have z8 : ∀ (o : Obj), (W3.alloc o).cell? ⟨H + 3, 0, none⟩ = some (.int .u8 (i : Int)) := fun o => ((k3.blk F2.out.a (by omega)).alloc o).cell 0
    clear g3 k3 e0 e1 e2 e3 e4 e5 e6 e7 e8 e9 e10 f0 f1 f2 f3 f4 f5 f6 f7 f8 f9 f10 ca2 cx2
    have s1 : W3.setCell ⟨H + 1, 0, none⟩ (.slice none 0 0) = W3 := setCell_same P3.out rfl
    have s2 : ∀ o : Obj, (W3.alloc o).setCell ⟨H + 1, 0, none⟩ (.slice none 0 0) = W3.alloc o := fun o => setCell_same (P3.out.alloc o) rfl
    go_wp2
    go_region_held3 (fun w' => w'.cell? ⟨H + 3, 0, none⟩ = some (.int .u8 (i : Int))) (go_keep) ((fail))
    all_goals
      go_wp2
      refine xcheck _ _ (H + 1 + 1) (H + 1) (H + 4) H (H + 3) X (by rw [HX11.out]; decide) (.slice (some ⟨W3.heap.size, 0, none⟩) 1 1) _ (Blk.drew ((P3.out.alloc _).far (by show H + 1 ≠ H + 1 + 1; omega) _)) (Blk.drew ((E3.out.alloc _).set_ 0 _)) rfl rfl rfl ?_
      rw [HX11.out]
      refine XOut.check HE.out HI.out.symm (Nat.le_refl _) (fresh_some (by have := HWS.out; omega)) (Blk.one_row (Blk.drew ((Blk.new W3 _ _).far (by show W3.heap.size ≠ H + 1 + 1; omega) _)) (by simp)) (EB.drew_ ((G3.out.alloc _).far (by show g ≠ H + 1 + 1; omega) _)) ?_
      exact grownBy_drew (Keep1.setNew ((((keep_of_below F2.out.b).trans K3.out)).trans (World.grownBy_alloc _ _ _)) (by show w.heap.size ≤ H + 1 + 1; have := HWS.out; omega))
  · have h11b : (X == 11) = false := (by simpa using h11)
    have HN11 := Lib.hid h11
    clear h11
    by_cases hx0' : X = 0
    rotate_left
    · go_wp2_with (go_at_call 35; refine (edelta_bad (H + 4) c (some ⟨lb, lo, none⟩) n cp z X (by omega) (by unfold maxLen; omega) HZ.out HX.out hx0' w2 F2.out.k R2.out).mono ?_; rintro e wq ⟨rfl, hq⟩; obtain rfl := hq.symm)
      exact F2.out.bad HWS.out HKB.out HE.out hx0' HN11.out rfl rfl rfl
    · subst hx0'

      go_wp2_with (first
        | (go_at_call 32; refine (emust_true _ _).mono ?_; rintro e wq ⟨rfl, hq⟩; obtain rfl := hq.symm)
        | (go_at_call 35; refine (edelta_ok (H + 4) lb lo c n cp z (by omega) hnc HZ.out HX.out HCO.out hlk w2 F2.out.k R2.out).mono ?_; rintro e w3 ⟨B, d, rfl, hd, hF3, hR3, k3x, e3x⟩;
           obtain ⟨Bb, Bo, rfl, _, _⟩ := hR3 (by omega);
           have K3 := Lib.hid e3x; have C3 := Lib.hid k3x; clear k3x e3x;
           have P3 := Lib.hid (K3.out.blk F2.out.p (by omega)); have E3 := Lib.hid (K3.out.blk F2.out.e (by omega)); have X3 := Lib.hid (K3.out.blk F2.out.x (by omega)); have A3 := Lib.hid (K3.out.blk F2.out.a (by omega));
           have G3 := Lib.hid (show EB w3 g true S from K3.out.blk G2'.out (by omega));
           have HD := Lib.hid hd; have HF3 := Lib.hid hF3; have R3 := Lib.hid hR3; clear hd hF3 hR3;
           have y1 : w3.cell? ⟨H + 1, 0, none⟩ = some (.slice none 0 0) := P3.out.cell 0; have y2 := P3.out.frozen 0; have y3 : w3.cell? ⟨H + 1 + 1, 0, none⟩ = some (.int .i64 0) := E3.out.cell 0; have y4 := E3.out.frozen 0))
      exact F2.out.good HWS.out hgH hi16 K3.out C3.out G3.out HD.out HF3.out R3.out HE.out (by unfold xLen; rw [HE.out, if_neg (by decide), if_neg (by rw [show xKind z = 1 from HKK.out]; decide), if_neg (by rw [show xKind z = 1 from HKK.out]; decide), if_pos (show xKind z = 1 from HKK.out)]) (by unfold xY; rw [if_neg (by rw [show xKind z = 1 from HKK.out]; decide), if_neg (by rw [show xKind z = 1 from HKK.out]; decide), if_pos (show xKind z = 1 from HKK.out), ← HI.out, ← HC.out]) (by unfold xS; rw [HE.out, if_neg (by decide), if_neg (by decide), if_neg (by rw [show xKind z = 1 from HKK.out]; decide), if_pos (show xKind z = 1 from HKK.out), ← HI.out, ← HC.out]) rfl rfl rfl

set_option maxRecDepth 100000 in
set_option maxHeartbeats 1600000 in
theorem expand_walk2 (g : Nat) (S : Nat → Ec) (lb lo n cp : Nat) (z : Nat → Int) (w : World) (h : EB w g true S) (hok : ∀ i, i < 16 → (S i).Ok) (h0 : 0 < n) (hnc : n ≤ cp) (hm : n ≤ maxLen) (hz : ∀ j, j < n → 0 ≤ z j ∧ z j < 256) (hr : Row w w.heap.size (some ⟨lb, lo, none⟩) n (fun j => .int .u8 (z j))) (hlg : lb ≠ g) (hk : z 0 / 64 = 2) :
    Calls Try.prog 14 #[.pointer (some ⟨g, 0, none⟩), .slice (some ⟨lb, lo, none⟩) n cp] w (XOut S n z g w) := by
  unfold maxLen at hm
  have hgl := h.lt
  have HB := Lib.hid (fun o o1 o2 : Obj => enone_ok g true S _ (((h.alloc o).alloc o1).alloc o2))
  obtain ⟨lb', lo', hab, hlb, hc⟩ := hr (by omega)
  cases hab
  have c0 : w.cell? ⟨lb, lo, none⟩ = some (.int .u8 (z 0)) := hc 0 h0
  have b0 := hz 0 h0
  have hmf : ∀ (fn : Fn) (first cap : Array Value) (w : World), (Instr.makeFunc fn first cap).run Try.prog w = .ok (.func fn first cap) w := fun _ _ _ _ => rfl
  obtain ⟨i, hi⟩ : ∃ i, i = xAt z := ⟨_, rfl⟩
  have hi16 : i < 16 := by rw [hi]; unfold xAt; omega
  have ha : bits .and .u8 (z 0 / 4) 15 = (i : Int) := by rw [hi, and15u _ (by omega) (by omega)]; unfold xAt; omega
  have i0 : (0 : Int) ≤ (i : Int) := by omega
  have i1 : (i : Int) < 16 := by omega
  have hp0 : (0 : Int) < (n : Int) := by omega
  have hn0 : ((n : Int) == 0) = false := by simp; omega
  obtain ⟨H, hH⟩ : ∃ H, H = w.heap.size := ⟨_, rfl⟩
  have HHS := Lib.hid hH
  have HKB := Lib.hid h
  have HR := Lib.hid hr
  have HZ := Lib.hid hz
  have HOK := Lib.hid hok
  have HI := Lib.hid hi
  obtain ⟨c, hcc⟩ : ∃ c, c = S i := ⟨_, rfl⟩
  have HC := Lib.hid hcc
  clear h hr hz hok hc hi hcc
  go_enter_defers Try.func14, Try.ntmps14
  go_upto_region 5 with (go_at_call 28; refine (HB.out _ _ _).mono ?_; rintro e w1 ⟨rfl, rfl⟩)
  refine wp_world (fun W => Blk W H 22 #[.pointer (some ⟨g, 0, none⟩)] ∧ Blk W (H + 1) 24 #[.slice none 0 0] ∧ Blk W (H + 1 + 1) 28 #[.int .i64 0] ∧ Below w.heap.size w W ∧ W.heap.size = H + 3) ⟨by rw [hH]; exact ((Blk.new _ _ _).alloc _).alloc _, by rw [hH]; exact (blk_new_at _ _ _ _ (by simp)).alloc _, by rw [hH]; exact blk_new_at _ _ _ _ (by simp), (((Below.refl _ w).alloc (Nat.le_refl _) _).alloc (by simp) _).alloc (by simp; omega) _, by rw [hH]; simp⟩ ?_
  rw [← hH]
  rintro W1 ⟨x1, p1, e1, b1, s1⟩
  have X1 := Lib.hid x1
  have P1 := Lib.hid p1
  have E1 := Lib.hid e1
  have B1 := Lib.hid (show Below w.heap.size w W1 from by rw [← hH]; exact b1)
  have c0' := (B1.out.cell (p := ⟨lb, lo, none⟩) hlb).trans c0
  clear x1 p1 e1 b1 hH
  go_region_held3 (fun w' => w'.cell? ⟨lb, lo, none⟩ = some (.int .u8 (z 0))) (go_keep) ((fail))
  refine then_world (fun W => Blk W H 22 #[.pointer (some ⟨g, 0, none⟩)] ∧ Blk W (H + 1) 24 #[.slice none 0 0] ∧ Blk W (H + 1 + 1) 28 #[.int .i64 0] ∧ Blk W (H + 3) 5 #[.int .u8 (i : Int)] ∧ Below w.heap.size w W ∧ W.heap.size = H + 4) ⟨(X1.out.alloc _).drew, (P1.out.alloc _).drew, (E1.out.alloc _).drew, Blk.drew (blk_new_at _ _ _ _ s1), (below_new B1.out _).drew, by simp [s1]⟩ ?_
  rintro W2 ⟨x2, p2, r2, a2, b2, s2⟩
  have X2 := Lib.hid x2
  have P2 := Lib.hid p2
  have E2 := Lib.hid r2
  have A2 := Lib.hid a2
  have B2 := Lib.hid b2
  have G2 := Lib.hid (HKB.out.below b2 hgl)
  have x2' : W2.cell? ⟨H, 0, none⟩ = some (.pointer (some ⟨g, 0, none⟩)) := x2.cell 0
  have a2' : W2.cell? ⟨H + 3, 0, none⟩ = some (.int .u8 (i : Int)) := a2.cell 0
  obtain ⟨e0, e1, e2, e3, e4, e5, e6, e7, e8, e9, e10⟩ := G2.out.cells hi16
  rw [← HC.out] at e0 e1 e2 e3 e4 e5 e6 e7 e8 e9 e10
  clear x2 p2 r2 a2 b2 s1 c0' ha
  go_wp2
  go_region_held3 (fun w' => w'.cell? ⟨g, 1 + i * 11, none⟩ = some (.int .i64 c.hops) ∧ w'.cell? ⟨g, 1 + i * 11 + 1, none⟩ = some (.int .i64 c.ident) ∧ w'.cell? ⟨g, 1 + i * 11 + 2, none⟩ = some (.int .i64 c.time) ∧ w'.cell? ⟨g, 1 + i * 11 + 3, none⟩ = some (.bool c.valid) ∧ w'.cell? ⟨g, 1 + i * 11 + 4, none⟩ = some (.int .i64 c.f0) ∧ w'.cell? ⟨g, 1 + i * 11 + 5, none⟩ = some (.int .i64 c.f1) ∧ w'.cell? ⟨g, 1 + i * 11 + 6, none⟩ = some (.int .i64 c.f2) ∧ w'.cell? ⟨g, 1 + i * 11 + 7, none⟩ = some (.int .i64 c.f3) ∧ w'.cell? ⟨g, 1 + i * 11 + 8, none⟩ = some (.int .i64 c.f4) ∧ w'.cell? ⟨g, 1 + i * 11 + 9, none⟩ = some (.int .u8 c.gen) ∧ w'.cell? ⟨g, 1 + i * 11 + 10, none⟩ = some (.int .i64 c.step) ∧ w'.cell? ⟨H, 0, none⟩ = some (.pointer (some ⟨g, 0, none⟩)) ∧ w'.cell? ⟨H + 3, 0, none⟩ = some (.int .u8 (i : Int))) (go_keep) ((fail))
  refine then_world (fun W => XFr w g H i S c W) ⟨(X2.out.alloc _).drew, (P2.out.alloc _).drew, (E2.out.alloc _).drew, (A2.out.alloc _).drew, Blk.drew (blk_new_at _ _ _ _ s2), (below_new B2.out _).drew⟩ ?_
  rintro W hF
  have HF := Lib.hid hF
  have HWS := Lib.hid (HHS.out.symm)
  have ca : W.cell? ⟨H + 3, 0, none⟩ = some (.int .u8 (i : Int)) := hF.a.cell 0
  have c0' := (hF.b.cell (p := ⟨lb, lo, none⟩) hlb).trans c0
  clear hF x2' a2' e0 e1 e2 e3 e4 e5 e6 e7 e8 e9 e10 s2

  have r3 := and3u (z 0) b0.1 b0.2
  have hix : ∀ W : World, (Instr.index 78 (.agg #[.int .i64 20, .int .i64 6, .int .i64 3, .int .i64 2]) (.int .u8 2)).run Try.prog W = .ok (.int .i64 3) W := fun W => by kernel_rfl
  obtain ⟨r, hr⟩ : ∃ r, r = z 0 % 4 := ⟨_, rfl⟩
  rw [← hr] at r3
  have HRR := Lib.hid hr
  have HKK := Lib.hid hk
  obtain ⟨x0, hx0⟩ : ∃ x, x = z 0 := ⟨_, rfl⟩
  rw [← hx0] at c0' r3 c0 ⊢
  clear hr hk hx0 b0
  by_cases hr0 : r = 0
  rotate_left
  · have h1 : (r == 0) = false := by simpa using hr0
    have HE := Lib.hid (xErr_form S h0 (n := n) (z := z) (.inl (by rw [← HRR.out]; exact hr0)))
    clear hr0
    go_wp2_with (go_at_call 32; refine (emust_false 9 _).mono ?_; rintro e wq ⟨rfl, hq⟩; obtain rfl := hq.symm)
    exact HF.out.bad HWS.out HKB.out HE.out (by decide) (by decide) rfl rfl rfl
  have HNF : Hid (¬ (z 0 % 4 ≠ 0 ∨ (xKind z = 3 ∧ xAt z ≠ 0))) := Lib.hid (by rw [← HRR.out]; simp [hr0, show xKind z = 2 from HKK.out])
  have h1 : (r == 0) = true := by simpa using hr0
  clear hr0
  by_cases hsh : n < 3
  · have h3 : decide ((3 : Int) ≤ (n : Int)) = false := by simp; omega
    have h3' : ¬ (3 : Int) ≤ (n : Int) := by omega
    have HE := Lib.hid (xErr_short S h0 HNF.out (n := n) (z := z) (by rw [show xKind z = 2 from HKK.out]; exact hsh))
    clear hsh
    go_wp2_with (first
      | (go_at_call 32; refine (emust_false 5 _).mono ?_; rintro e wq ⟨rfl, hq⟩; obtain rfl := hq.symm)
      | (go_at_call 32; refine (emust_true 9 _).mono ?_; rintro e wq ⟨rfl, hq⟩; obtain rfl := hq.symm))
    exact HF.out.bad HWS.out HKB.out HE.out (by decide) (by decide) rfl rfl rfl
  have h3 : decide ((3 : Int) ≤ (n : Int)) = true := by simp; omega
  have h3' : (3 : Int) ≤ (n : Int) := by omega
  have HE := Lib.hid (xErr_rest S h0 HNF.out (n := n) (z := z) (by rw [show xKind z = 2 from HKK.out]; exact hsh))
  rw [show xKind z = 2 from HKK.out] at HE
  have hix2 : ∀ W : World, (Instr.index 83 (.agg #[.func (.func 34) #[] #[], .func (.func 35) #[] #[], .func (.func 36) #[] #[], .func (.func 37) #[] #[]]) (.int .u8 2)).run Try.prog W = .ok (.func (.func 36) #[] #[]) W := fun W => by kernel_rfl
  have HRW := Lib.hid (show Row W W.heap.size (some ⟨lb, lo, none⟩) n (fun j => .int .u8 (z j)) from HR.out.next HF.out.b)
  have HGW := Lib.hid (HKB.out.below HF.out.b hgl)
  have hgH : g < H := by rw [HHS.out]; exact hgl
  rw [if_neg (by decide), if_neg (by decide), ← HI.out, ← HC.out, show xGen c 2 = c.gen from rfl] at HE
  have hlk : lb ≠ H + 4 := (by have := HHS.out; omega)
  have HCO := Lib.hid (show c.Ok from (by rw [HC.out]; exact HOK.out i hi16))
  obtain ⟨X, hX⟩ : ∃ X, X = acErr c n z 3 (c.gen) := ⟨_, rfl⟩
  have HXC := Lib.hid (show X = 0 ∨ X = 4 ∨ X = 9 ∨ X = 11 from (by rw [hX]; exact acErr_cases _ _ _ _ _))
  have HCK := Lib.hid (fun (W : World) (hR : Row W W.heap.size (some ⟨lb, lo, none⟩) n (fun j => .int .u8 (z j))) => checked2_ok c (some ⟨lb, lo, none⟩) n cp z (by omega) (by unfold maxLen; omega) HZ.out HCO.out.gen W hR)
  rw [← hX] at HCK
  rw [show xHead 2 = 3 from rfl, ← hX] at HE
  have HX := Lib.hid hX.symm
  obtain ⟨k0, k1, k2, k3, k4, k5, k6, k7, k8, k9, k10⟩ := KB.cells HF.out.k
  clear hX
  go_upto_region 13 with (first
    | (go_at_call 32; refine (emust_true _ _).mono ?_; rintro e wq ⟨rfl, hq⟩; obtain rfl := hq.symm)
    | (go_at_call 33; refine (HCK.out W HRW.out).mono ?_; rintro e w2 ⟨rfl, b2⟩; have F2 := Lib.hid (HF.out.next b2); have G2' := Lib.hid (HGW.out.below b2 HGW.out.lt); have R2 := Lib.hid (HRW.out.next b2); clear b2))
  have ca2 : w2.cell? ⟨H + 3, 0, none⟩ = some (.int .u8 (i : Int)) := F2.out.a.cell 0
  have cx2 : w2.cell? ⟨H, 0, none⟩ = some (.pointer (some ⟨g, 0, none⟩)) := F2.out.x.cell 0
  clear k0 k1 k2 k3 k4 k5 k6 k7 k8 k9 k10 c0' ca
  by_cases h11 : X = 11
  · rw [h11] at HE
    have h11b : (X == 11) = true := (by simpa using h11)
    have HX11 := Lib.hid h11
    obtain ⟨e0, e1, e2, e3, e4, e5, e6, e7, e8, e9, e10⟩ := G2'.out.cells hi16
    have m1 : ¬ g = H := (by omega)
    have m2 : ¬ H = g := (by omega)
    have m3 : ¬ g = H + 3 := (by omega)
    have m4 : ¬ H + 3 = g := (by omega)
    have f0 := G2'.out.fr (1 + i * 11)
    have f1 := G2'.out.fr (1 + i * 11 + 1)
    have f2 := G2'.out.fr (1 + i * 11 + 2)
    have f3 := G2'.out.fr (1 + i * 11 + 3)
    have f4 := G2'.out.fr (1 + i * 11 + 4)
    have f5 := G2'.out.fr (1 + i * 11 + 5)
    have f6 := G2'.out.fr (1 + i * 11 + 6)
    have f7 := G2'.out.fr (1 + i * 11 + 7)
    have f8 := G2'.out.fr (1 + i * 11 + 8)
    have f9 := G2'.out.fr (1 + i * 11 + 9)
    have f10 := G2'.out.fr (1 + i * 11 + 10)
    clear h11
    go_wp2
    go_region_held3 (fun w' => w'.cell? ⟨H + 3, 0, none⟩ = some (.int .u8 (i : Int)) ∧ w'.cell? ⟨H, 0, none⟩ = some (.pointer (some ⟨g, 0, none⟩))) (go_keep) ((fail))
    refine then_world (fun W => EB W g true (updE S i Ec.zero) ∧ Keep1 g w2 W) ⟨EB.drew_ (EB.all G2'.out hi16 Ec.zero), grownBy_drew (grownBy_set (grownBy_set (grownBy_set (grownBy_set (grownBy_set (grownBy_set (grownBy_set (grownBy_set (grownBy_set (grownBy_set (grownBy_set (World.grownBy_refl _ _) _ _) _ _) _ _) _ _) _ _) _ _) _ _) _ _) _ _) _ _) _ _)⟩ ?_
    rintro W3 ⟨g3, k3⟩
    have G3 := Lib.hid g3
    have K3 := Lib.hid k3
    have P3 := Lib.hid (k3.blk F2.out.p (by omega))
    have E3 := Lib.hid (k3.blk F2.out.e (by omega))
    have ca3 : W3.cell? ⟨H + 3, 0, none⟩ = some (.int .u8 (i : Int)) := (k3.blk F2.out.a (by omega)).cell 0
    have y1 : W3.cell? ⟨H + 1, 0, none⟩ = some (.slice none 0 0) := P3.out.cell 0
    have y2 := P3.out.frozen 0
    have y3 : W3.cell? ⟨H + 1 + 1, 0, none⟩ = some (.int .i64 0) := E3.out.cell 0
    have y4 := E3.out.frozen 0
    have hor := or160 i hi16
    have hl3 : H + 4 < W3.heap.size := Nat.lt_of_lt_of_le (Blk.lt F2.out.k) k3.size
    have q1 : ¬ W3.heap.size = H + 1 := (by omega)
    have q2 : ¬ W3.heap.size = H + 1 + 1 := (by omega)
    have q3 : ¬ H + 1 = W3.heap.size := (by omega)
    have q4 : ¬ H + 1 + 1 = W3.heap.size := (by omega)
    have z1 : ∀ o : Obj, (W3.alloc o).cell? ⟨H + 1, 0, none⟩ = some (.slice none 0 0) := fun o => (P3.out.alloc o).cell 0
    have z2 : ∀ o : Obj, (W3.alloc o).frozen? ⟨H + 1, 0, none⟩ = false := fun o => (P3.out.alloc o).frozen 0
    have z3 : ∀ o : Obj, (W3.alloc o).cell? ⟨H + 1 + 1, 0, none⟩ = some (.int .i64 0) := fun o => (E3.out.alloc o).cell 0
    have z4 : ∀ o : Obj, (W3.alloc o).frozen? ⟨H + 1 + 1, 0, none⟩ = false := fun o => (E3.out.alloc o).frozen 0
    have z5 : ∀ (o : Obj) (v : Value), ((W3.alloc o).setCell ⟨H + 1, 0, none⟩ v).cell? ⟨H + 1 + 1, 0, none⟩ = some (.int .i64 0) := fun o v => ((E3.out.alloc o).far (by show H + 1 + 1 ≠ H + 1; omega) v).cell 0
    have z6 : ∀ (o : Obj) (v : Value), ((W3.alloc o).setCell ⟨H + 1, 0, none⟩ v).frozen? ⟨H + 1 + 1, 0, none⟩ = false := fun o v => ((E3.out.alloc o).far (by show H + 1 + 1 ≠ H + 1; omega) v).frozen 0
    have z7 : ∀ (o : Obj) (v : Value), ((W3.alloc o).setCell ⟨H + 1, 0, none⟩ v).cell? ⟨H + 3, 0, none⟩ = some (.int .u8 (i : Int)) := fun o v => (((k3.blk F2.out.a (by omega)).alloc o).far (by show H + 3 ≠ H + 1; omega) v).cell 0
    have z8 : ∀ (o : Obj), (W3.alloc o).cell? ⟨H + 3, 0, none⟩ = some (.int .u8 (i : Int)) := fun o => ((k3.blk F2.out.a (by omega)).alloc o).cell 0
    clear g3 k3 e0 e1 e2 e3 e4 e5 e6 e7 e8 e9 e10 f0 f1 f2 f3 f4 f5 f6 f7 f8 f9 f10 ca2 cx2
    have s1 : W3.setCell ⟨H + 1, 0, none⟩ (.slice none 0 0) = W3 := setCell_same P3.out rfl
    have s2 : ∀ o : Obj, (W3.alloc o).setCell ⟨H + 1, 0, none⟩ (.slice none 0 0) = W3.alloc o := fun o => setCell_same (P3.out.alloc o) rfl
    go_wp2
    go_region_held3 (fun w' => w'.cell? ⟨H + 3, 0, none⟩ = some (.int .u8 (i : Int))) (go_keep) ((fail))
    all_goals
      go_wp2
      refine xcheck _ _ (H + 1 + 1) (H + 1) (H + 4) H (H + 3) X (by rw [HX11.out]; decide) (.slice (some ⟨W3.heap.size, 0, none⟩) 1 1) _ (Blk.drew ((P3.out.alloc _).far (by show H + 1 ≠ H + 1 + 1; omega) _)) (Blk.drew ((E3.out.alloc _).set_ 0 _)) rfl rfl rfl ?_
      rw [HX11.out]
      refine XOut.check HE.out HI.out.symm (Nat.le_refl _) (fresh_some (by have := HWS.out; omega)) (Blk.one_row (Blk.drew ((Blk.new W3 _ _).far (by show W3.heap.size ≠ H + 1 + 1; omega) _)) (by simp)) (EB.drew_ ((G3.out.alloc _).far (by show g ≠ H + 1 + 1; omega) _)) ?_
      exact grownBy_drew (Keep1.setNew ((((keep_of_below F2.out.b).trans K3.out)).trans (World.grownBy_alloc _ _ _)) (by show w.heap.size ≤ H + 1 + 1; have := HWS.out; omega))
  · have h11b : (X == 11) = false := (by simpa using h11)
    have HN11 := Lib.hid h11
    clear h11
    by_cases hx0' : X = 0
    rotate_left
    · go_wp2_with (go_at_call 36; refine (ecompact_bad (H + 4) c (some ⟨lb, lo, none⟩) n cp z X (by omega) (by unfold maxLen; omega) HZ.out HX.out hx0' w2 F2.out.k R2.out).mono ?_; rintro e wq ⟨rfl, hq⟩; obtain rfl := hq.symm)
      exact F2.out.bad HWS.out HKB.out HE.out hx0' HN11.out rfl rfl rfl
    · subst hx0'

      go_wp2_with (first
        | (go_at_call 32; refine (emust_true _ _).mono ?_; rintro e wq ⟨rfl, hq⟩; obtain rfl := hq.symm)
        | (go_at_call 36; refine (ecompact_ok (H + 4) c (some ⟨lb, lo, none⟩) n cp z (by omega) hnc HZ.out HX.out HCO.out w2 F2.out.k R2.out).mono ?_; rintro e w3 ⟨B, d, rfl, hd, hF3, hR3, b3⟩;
           obtain ⟨Bb, Bo, rfl, _, _⟩ := hR3 (by omega);
           have K3 := Lib.hid (show Keep1 (H + 4) w2 w3 from keep_of_below b3); have C3 := Lib.hid (show KB w3 (H + 4) c from Blk.below F2.out.k b3 (Blk.lt F2.out.k)); clear b3;
           have P3 := Lib.hid (K3.out.blk F2.out.p (by omega)); have E3 := Lib.hid (K3.out.blk F2.out.e (by omega)); have X3 := Lib.hid (K3.out.blk F2.out.x (by omega)); have A3 := Lib.hid (K3.out.blk F2.out.a (by omega));
           have G3 := Lib.hid (show EB w3 g true S from K3.out.blk G2'.out (by omega));
           have HD := Lib.hid hd; have HF3 := Lib.hid hF3; have R3 := Lib.hid hR3; clear hd hF3 hR3;
           have y1 : w3.cell? ⟨H + 1, 0, none⟩ = some (.slice none 0 0) := P3.out.cell 0; have y2 := P3.out.frozen 0; have y3 : w3.cell? ⟨H + 1 + 1, 0, none⟩ = some (.int .i64 0) := E3.out.cell 0; have y4 := E3.out.frozen 0))
      exact F2.out.good HWS.out hgH hi16 K3.out C3.out G3.out HD.out HF3.out R3.out HE.out (by unfold xLen; rw [HE.out, if_neg (by decide), if_neg (by rw [show xKind z = 2 from HKK.out]; decide), if_neg (by rw [show xKind z = 2 from HKK.out]; decide), if_neg (by rw [show xKind z = 2 from HKK.out]; decide)]) (by unfold xY; rw [if_neg (by rw [show xKind z = 2 from HKK.out]; decide), if_neg (by rw [show xKind z = 2 from HKK.out]; decide), if_neg (by rw [show xKind z = 2 from HKK.out]; decide), ← HI.out, ← HC.out]) (by unfold xS; rw [HE.out, if_neg (by decide), if_neg (by decide), if_neg (by rw [show xKind z = 2 from HKK.out]; decide), if_neg (by rw [show xKind z = 2 from HKK.out]; decide), HC.out, updE_self]) rfl rfl rfl

end Go.Proofs.Ytofaghpflmeblaa
