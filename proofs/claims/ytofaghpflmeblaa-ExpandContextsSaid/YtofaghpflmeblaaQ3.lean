/- compress: the state in memory; none, Check, apart. compress: stores into a context; begin; the comparison of two flows. Regions that draw their order, whose operations read and whose callees make memory at most: one walk in the text's order. Regions that draw their order inside the body of a loop over an iterator: the plain quiet walk serves there too. compress: kind. compress: compact, delta, full. slices.Grow of nil, slices.Concat, joined. compress: find. compress: Compress. compress: Feedback, New, Reset. -/
import Derived.Test.YtofaghpflmeblaaQ2
import Derived.Laws.BitsLemmas
import Derived.BigQuiet
import Derived.Deep.RegionWith
import Derived.Deep.DeepCutAuto
import Derived.Deep.CutRange
import Derived.Deep.CutBlock
import Derived.Laws.StructEq
import Derived.OrdersIn
import Derived.RangeFuncNested
import Derived.RangeFuncCalls
import Derived.Deep.AppendLies
import Derived.StillTailTactics
import Derived.Lib.AppendZeros
import Derived.ScopeJumps
import Derived.WalkMore
import Derived.Laws.Tables
import Derived.Laws.Rows
namespace Go.Proofs.Ytofaghpflmeblaa
open Go.RowKit

attribute [local go_sem ↓] Go.wp_at_zero Go.wp_at_succ

/-- a context as it lies in memory -/
structure Rx where
  hops : Int
  ident : Int
  time : Int
  used : Bool
  f0 : Int
  f1 : Int
  f2 : Int
  f3 : Int
  f4 : Int
  began : Bool
  gen : Int
  step : Int
  need : Bool
  turn : Int
def Rx.zero : Rx := ⟨0, 0, 0, false, 0, 0, 0, 0, 0, false, 0, 0, false, 0⟩
def Rx.cells (c : Rx) : List Value := [.int .i64 c.hops, .int .i64 c.ident, .int .i64 c.time, .bool c.used, .int .i64 c.f0, .int .i64 c.f1, .int .i64 c.f2, .int .i64 c.f3, .int .i64 c.f4, .bool c.began, .int .u8 c.gen, .int .i64 c.step, .bool c.need, .int .i64 c.turn]
def Rx.cell (c : Rx) (k : Nat) : Value := c.cells.getD k undef
def upd (S : Nat → Rx) (i : Nat) (c : Rx) : Nat → Rx := fun j => if j = i then c else S j
theorem upd_same (S : Nat → Rx) (i : Nat) (c : Rx) : upd S i c i = c := if_pos rfl
theorem upd_upd (S : Nat → Rx) (i : Nat) (c d : Rx) : upd (upd S i c) i d = upd S i d := by
  funext j; unfold upd; split <;> rfl
def cval (made : Bool) (S : Nat → Rx) (T : Int) (j : Nat) : Value := if j = 0 then .bool made else if j = 225 then .int .i64 T else (S ((j - 1) / 14)).cell ((j - 1) % 14)
def csArr (made : Bool) (S : Nat → Rx) (T : Int) : Array Value := Array.ofFn (n := 226) fun j => cval made S T j.1
theorem csArr_size (made : Bool) (S : Nat → Rx) (T : Int) : (csArr made S T).size = 226 := by simp [csArr]
theorem csArr_at (made : Bool) (S : Nat → Rx) (T : Int) (j : Nat) (hj : j < 226) : (csArr made S T)[j]? = some (cval made S T j) := by
  unfold csArr; simp [hj]
theorem csArr_ctx (made : Bool) (S : Nat → Rx) (T : Int) (i k : Nat) (hi : i < 16) (hk : k < 14) : (csArr made S T)[1 + 14 * i + k]? = some ((S i).cell k) := by
  rw [csArr_at _ _ _ _ (by omega)]
  unfold cval
  rw [if_neg (by omega), if_neg (by omega), show (1 + 14 * i + k - 1) / 14 = i by omega, show (1 + 14 * i + k - 1) % 14 = k by omega]

/-- block g is a Compressor -/
def CB (w : World) (g : Nat) (made : Bool) (S : Nat → Rx) (T : Int) : Prop := Blk w g 93 (csArr made S T)
section
variable {w : World} {g : Nat} {made : Bool} {S : Nat → Rx} {T : Int}
theorem CB.made_ (h : CB w g made S T) : w.cell? ⟨g, 0, none⟩ = some (.bool made) := (Blk.cell h 0).trans (csArr_at _ _ _ 0 (by decide))
theorem CB.turn_ (h : CB w g made S T) : w.cell? ⟨g, 225, none⟩ = some (.int .i64 T) := (Blk.cell h 225).trans (csArr_at _ _ _ 225 (by decide))
theorem CB.ctx (h : CB w g made S T) {i : Nat} (hi : i < 16) (k : Nat) (hk : k < 14) {o : Nat} (ho : o = 1 + 14 * i) : w.cell? ⟨g, o + k, none⟩ = some ((S i).cell k) := by
  subst ho; exact (Blk.cell h _).trans (csArr_ctx _ _ _ i k hi hk)
theorem CB.fr (h : CB w g made S T) (j : Nat) : w.frozen? ⟨g, j, none⟩ = false := Blk.frozen h j
theorem CB.set (h : CB w g made S T) {i : Nat} (hi : i < 16) (k : Nat) (hk : k < 14) {o : Nat} (ho : o = 1 + 14 * i) (c : Rx) (hc : ∀ m, m < 14 → m ≠ k → c.cell m = (S i).cell m) {u : Value} (hu : u = c.cell k) :
    CB (w.setCell ⟨g, o + k, none⟩ u) g made (upd S i c) T := by
  subst ho hu
  have h2 := Blk.set_ h (1 + 14 * i + k) (c.cell k)
  unfold CB
  have e : (csArr made S T).setIfInBounds (1 + 14 * i + k) (c.cell k) = csArr made (upd S i c) T := by
    apply Array.ext_getElem?
    intro j
    rw [Array.getElem?_setIfInBounds]
    by_cases hj : j < 226
    · rw [csArr_at _ _ _ j hj, csArr_at _ _ _ j hj]
      by_cases hjk : 1 + 14 * i + k = j
      · subst hjk
        rw [if_pos rfl, if_pos (by rw [csArr_size]; omega)]
        unfold cval
        rw [if_neg (by omega), if_neg (by omega), show (1 + 14 * i + k - 1) / 14 = i by omega, show (1 + 14 * i + k - 1) % 14 = k by omega, upd_same]
      · rw [if_neg hjk]
        unfold cval
        by_cases h0 : j = 0
        · rw [if_pos h0, if_pos h0]
        · rw [if_neg h0, if_neg h0]
          by_cases h1 : j = 225
          · rw [if_pos h1, if_pos h1]
          · rw [if_neg h1, if_neg h1]
            by_cases hi2 : (j - 1) / 14 = i
            · rw [hi2, upd_same, hc _ (by omega) (by omega)]
            · unfold upd; rw [if_neg hi2]
    · rw [Array.getElem?_eq_none (by rw [csArr_size]; omega), Array.getElem?_eq_none (by rw [csArr_size]; omega)]
      split
      · rename_i hh; rw [if_neg (by rw [csArr_size]; omega)]
      · rfl
  rw [e] at h2
  exact h2
theorem CB.setTurn (h : CB w g made S T) (U : Int) : CB (w.setCell ⟨g, 225, none⟩ (.int .i64 U)) g made S U := by
  have h2 := Blk.set_ h 225 (.int .i64 U)
  have e : (csArr made S T).setIfInBounds 225 (.int .i64 U) = csArr made S U := by
    apply Array.ext_getElem?
    intro j
    rw [Array.getElem?_setIfInBounds]
    by_cases hj : j < 226
    · rw [csArr_at _ _ _ j hj, csArr_at _ _ _ j hj]
      by_cases hjk : 225 = j
      · subst hjk
        rw [if_pos rfl, if_pos (by rw [csArr_size]; omega)]
        rfl
      · rw [if_neg hjk]
        unfold cval
        by_cases h0 : j = 0
        · rw [if_pos h0, if_pos h0]
        · rw [if_neg h0, if_neg h0, if_neg (by omega), if_neg (by omega)]
    · rw [Array.getElem?_eq_none (by rw [csArr_size]; omega), Array.getElem?_eq_none (by rw [csArr_size]; omega)]
      split
      · rename_i hh; rw [if_neg (by rw [csArr_size]; omega)]
      · rfl
  rw [e] at h2
  exact h2
theorem CB.far (h : CB w g made S T) {p : Addr} (hp : g ≠ p.block) (u : Value) : CB (w.setCell p u) g made S T := Blk.far h hp u
theorem CB.alloc (h : CB w g made S T) (o : Obj) : CB (w.alloc o) g made S T := Blk.alloc h o
theorem CB.drew (h : CB w g made S T) : CB w.drew g made S T := h
theorem CB.below {w' : World} {B : Nat} (h : CB w g made S T) (hb : Below B w w') (hg : g < B) : CB w' g made S T := Blk.below h hb hg
theorem CB.lt (h : CB w g made S T) : g < w.heap.size := Blk.lt h
end

theorem none_ok (g : Nat) (made : Bool) (S : Nat → Rx) (T : Int) (w : World) (h : CB w g made S T) :
    Calls Try.prog 40 #[.pointer (some ⟨g, 0, none⟩)] w fun e w' => e = .returned (.bool (!made)) ∧ w = w' := by
  have h0 := h.made_
  clear h
  go_enter Try.func40, Try.ntmps40
  go_wp2
  go_ret
  exact ⟨rfl, rfl⟩
theorem none_nil (w : World) :
    Calls Try.prog 40 #[.pointer none] w fun e w' => e = .returned (.bool true) ∧ w = w' := by
  go_enter Try.func40, Try.ntmps40
  go_wp2
  go_ret
  exact ⟨rfl, rfl⟩
def ckErr (n : Nat) : Int := if n = 0 then 2 else if 9000 < n then 4 else 0
theorem ccheck_ok (A : Option Addr) (n c : Nat) (w : World) :
    Calls Try.prog 41 #[.slice A n c] w fun e w' => e = .returned (.int .i64 (ckErr n)) ∧ w = w' := by
  by_cases h0 : n = 0
  · subst h0
    go_enter Try.func41, Try.ntmps41
    go_wp2
    go_ret
    exact ⟨rfl, rfl⟩
  · by_cases h9 : 9000 < n
    · have h1 : ((n : Int) == 0) = false := by simp; omega
      have h2 : (9000 : Int) < (n : Int) := by omega
      have he : ckErr n = 4 := by unfold ckErr; rw [if_neg h0, if_pos h9]
      rw [he]
      clear he h9
      go_enter Try.func41, Try.ntmps41
      go_wp2
      go_ret
      exact ⟨rfl, rfl⟩
    · have h1 : ((n : Int) == 0) = false := by simp; omega
      have h2 : ¬ (9000 : Int) < (n : Int) := by omega
      have he : ckErr n = 0 := by unfold ckErr; rw [if_neg h0, if_neg h9]
      rw [he]
      clear he h9
      go_enter Try.func41, Try.ntmps41
      go_wp2
      go_ret
      exact ⟨rfl, rfl⟩

theorem and_low16 (n : Int) : bits .and .i64 n 65535 = n % 65536 := by
  have h1 : (BitVec.ofInt 64 65535).toNat = 2 ^ 16 - 1 := by decide
  have key : (BitVec.ofInt 64 n &&& BitVec.ofInt 64 65535).toNat = (n % ((2 ^ 64 : Nat) : Int)).toNat % 2 ^ 16 := by
    rw [BitVec.toNat_and, BitVec.toNat_ofInt, h1, Nat.and_two_pow_sub_one_eq_mod]
  show IntKind.i64.wrap ((BitVec.ofInt 64 n &&& BitVec.ofInt 64 65535).toNat : Nat) = n % 65536
  rw [key, IntKind.wrap_i64]
  omega
theorem and_low24 (n : Int) : bits .and .i64 n 16777215 = n % 16777216 := by
  have h1 : (BitVec.ofInt 64 16777215).toNat = 2 ^ 24 - 1 := by decide
  have key : (BitVec.ofInt 64 n &&& BitVec.ofInt 64 16777215).toNat = (n % ((2 ^ 64 : Nat) : Int)).toNat % 2 ^ 24 := by
    rw [BitVec.toNat_and, BitVec.toNat_ofInt, h1, Nat.and_two_pow_sub_one_eq_mod]
  show IntKind.i64.wrap ((BitVec.ofInt 64 n &&& BitVec.ofInt 64 16777215).toNat : Nat) = n % 16777216
  rw [key, IntKind.wrap_i64]
  omega

theorem apart_ok (a b c h0 h1 h2 h3 h4 h5 h6 h7 h8 : Int) (w : World) (k1 : IntKind.i64.wrap (h6 - b) = h6 - b) (k2 : IntKind.i64.wrap (h7 - c) = h7 - c) :
    Calls Try.prog 72 #[.agg #[.int .i64 a, .int .i64 b, .int .i64 c], .agg #[.int .i64 h0, .int .i64 h1, .int .i64 h2, .int .i64 h3, .int .i64 h4, .int .i64 h5, .int .i64 h6, .int .i64 h7, .int .i64 h8]] w fun e w' =>
      e = .returned (.tuple #[.int .i64 ((h6 - b) % 65536), .int .i64 ((h7 - c) % 16777216)]) ∧ Below w.heap.size w w' := by
  have a1 := and_low16 (h6 - b)
  have a2 := and_low24 (h7 - c)
  go_enter Try.func72, Try.ntmps72
  go_wp2
  go_quiet (fail)
  clear a1 a2 k1 k2
  go_wp2
  go_ret2
  exact ⟨rfl, below_drewN (((Below.refl _ w).alloc (Nat.le_refl _) _).alloc (by simp) _) _⟩
end Go.Proofs.Ytofaghpflmeblaa
namespace Go.Proofs.Ytofaghpflmeblaa
open Go.RowKit

attribute [local go_sem ↓] Go.wp_at_zero Go.wp_at_succ

/-- are two flows equal -/
def sameFlow (a0 a1 a2 a3 a4 b0 b1 b2 b3 b4 : Int) : Bool := a0 == b0 && (a1 == b1 && (a2 == b2 && (a3 == b3 && a4 == b4)))
theorem flow_eql (a0 a1 a2 a3 a4 b0 b1 b2 b3 b4 : Int) (W : World) : (binOp .eql 54 (.agg #[.int .i64 a0, .int .i64 a1, .int .i64 a2, .int .i64 a3, .int .i64 a4]) (.agg #[.int .i64 b0, .int .i64 b1, .int .i64 b2, .int .i64 b3, .int .i64 b4])).run Try.prog W = .ok (.bool (sameFlow a0 a1 a2 a3 a4 b0 b1 b2 b3 b4)) W := by
  unfold sameFlow
  by_cases h0 : a0 = b0 <;> by_cases h1 : a1 = b1 <;> by_cases h2 : a2 = b2 <;> by_cases h3 : a3 = b3 <;> by_cases h4 : a4 = b4 <;> simp [go_sem, h0, h1, h2, h3, h4]
theorem flow_neq (a0 a1 a2 a3 a4 b0 b1 b2 b3 b4 : Int) (W : World) : (binOp .neq 54 (.agg #[.int .i64 a0, .int .i64 a1, .int .i64 a2, .int .i64 a3, .int .i64 a4]) (.agg #[.int .i64 b0, .int .i64 b1, .int .i64 b2, .int .i64 b3, .int .i64 b4])).run Try.prog W = .ok (.bool (!sameFlow a0 a1 a2 a3 a4 b0 b1 b2 b3 b4)) W := by
  unfold sameFlow
  by_cases h0 : a0 = b0 <;> by_cases h1 : a1 = b1 <;> by_cases h2 : a2 = b2 <;> by_cases h3 : a3 = b3 <;> by_cases h4 : a4 = b4 <;> simp [go_sem, h0, h1, h2, h3, h4]

theorem fourteen {p : Nat → Prop} (h0 : p 0) (h1 : p 1) (h2 : p 2) (h3 : p 3) (h4 : p 4) (h5 : p 5) (h6 : p 6) (h7 : p 7) (h8 : p 8) (h9 : p 9) (h10 : p 10) (h11 : p 11) (h12 : p 12) (h13 : p 13) (k : Nat) (hk : k < 14) : p k := by
  match k, hk with
  | 0, _ => exact h0
  | 1, _ => exact h1
  | 2, _ => exact h2
  | 3, _ => exact h3
  | 4, _ => exact h4
  | 5, _ => exact h5
  | 6, _ => exact h6
  | 7, _ => exact h7
  | 8, _ => exact h8
  | 9, _ => exact h9
  | 10, _ => exact h10
  | 11, _ => exact h11
  | 12, _ => exact h12
  | 13, _ => exact h13

section
variable {w : World} {g : Nat} {made : Bool} {S : Nat → Rx} {T : Int} {i o : Nat} {c : Rx}
theorem CB.self (h : CB w g made S T) (i : Nat) : CB w g made (upd S i (S i)) T := by
  have : upd S i (S i) = S := by funext j; unfold upd; split <;> simp_all
  rw [this]; exact h
theorem CB.put (k : Nat) (d : Rx) (h : CB w g made (upd S i c) T) (hi : i < 16) (hk : k < 14) (ho : o = 1 + 14 * i) (hc : ∀ m, m < 14 → m ≠ k → d.cell m = c.cell m) {u : Value} (hu : u = d.cell k) :
    CB (w.setCell ⟨g, o + k, none⟩ u) g made (upd S i d) T := by
  have := CB.set h hi k hk ho d (by rw [upd_same]; exact hc) hu
  rwa [upd_upd] at this
theorem CB.hops_ (h : CB w g made (upd S i c) T) (hi : i < 16) (ho : o = 1 + 14 * i) (v : Int) : CB (w.setCell ⟨g, o, none⟩ (.int .i64 v)) g made (upd S i { c with hops := v }) T :=
  CB.put 0 { c with hops := v } h hi (by decide) ho (fun m hm => fourteen (p := fun m => m ≠ 0 → ({ c with hops := v } : Rx).cell m = c.cell m) (fun h => absurd rfl h) (fun _ => rfl) (fun _ => rfl) (fun _ => rfl) (fun _ => rfl) (fun _ => rfl) (fun _ => rfl) (fun _ => rfl) (fun _ => rfl) (fun _ => rfl) (fun _ => rfl) (fun _ => rfl) (fun _ => rfl) (fun _ => rfl) m hm) rfl
theorem CB.ident_ (h : CB w g made (upd S i c) T) (hi : i < 16) (ho : o = 1 + 14 * i) (v : Int) : CB (w.setCell ⟨g, o + 1, none⟩ (.int .i64 v)) g made (upd S i { c with ident := v }) T :=
  CB.put 1 { c with ident := v } h hi (by decide) ho (fun m hm => fourteen (p := fun m => m ≠ 1 → ({ c with ident := v } : Rx).cell m = c.cell m) (fun _ => rfl) (fun h => absurd rfl h) (fun _ => rfl) (fun _ => rfl) (fun _ => rfl) (fun _ => rfl) (fun _ => rfl) (fun _ => rfl) (fun _ => rfl) (fun _ => rfl) (fun _ => rfl) (fun _ => rfl) (fun _ => rfl) (fun _ => rfl) m hm) rfl
theorem CB.time_ (h : CB w g made (upd S i c) T) (hi : i < 16) (ho : o = 1 + 14 * i) (v : Int) : CB (w.setCell ⟨g, o + 2, none⟩ (.int .i64 v)) g made (upd S i { c with time := v }) T :=
  CB.put 2 { c with time := v } h hi (by decide) ho (fun m hm => fourteen (p := fun m => m ≠ 2 → ({ c with time := v } : Rx).cell m = c.cell m) (fun _ => rfl) (fun _ => rfl) (fun h => absurd rfl h) (fun _ => rfl) (fun _ => rfl) (fun _ => rfl) (fun _ => rfl) (fun _ => rfl) (fun _ => rfl) (fun _ => rfl) (fun _ => rfl) (fun _ => rfl) (fun _ => rfl) (fun _ => rfl) m hm) rfl
theorem CB.used_ (h : CB w g made (upd S i c) T) (hi : i < 16) (ho : o = 1 + 14 * i) (v : Bool) : CB (w.setCell ⟨g, o + 3, none⟩ (.bool v)) g made (upd S i { c with used := v }) T :=
  CB.put 3 { c with used := v } h hi (by decide) ho (fun m hm => fourteen (p := fun m => m ≠ 3 → ({ c with used := v } : Rx).cell m = c.cell m) (fun _ => rfl) (fun _ => rfl) (fun _ => rfl) (fun h => absurd rfl h) (fun _ => rfl) (fun _ => rfl) (fun _ => rfl) (fun _ => rfl) (fun _ => rfl) (fun _ => rfl) (fun _ => rfl) (fun _ => rfl) (fun _ => rfl) (fun _ => rfl) m hm) rfl
theorem CB.f0_ (h : CB w g made (upd S i c) T) (hi : i < 16) (ho : o = 1 + 14 * i) (v : Int) : CB (w.setCell ⟨g, o + 4, none⟩ (.int .i64 v)) g made (upd S i { c with f0 := v }) T :=
  CB.put 4 { c with f0 := v } h hi (by decide) ho (fun m hm => fourteen (p := fun m => m ≠ 4 → ({ c with f0 := v } : Rx).cell m = c.cell m) (fun _ => rfl) (fun _ => rfl) (fun _ => rfl) (fun _ => rfl) (fun h => absurd rfl h) (fun _ => rfl) (fun _ => rfl) (fun _ => rfl) (fun _ => rfl) (fun _ => rfl) (fun _ => rfl) (fun _ => rfl) (fun _ => rfl) (fun _ => rfl) m hm) rfl
theorem CB.f1_ (h : CB w g made (upd S i c) T) (hi : i < 16) (ho : o = 1 + 14 * i) (v : Int) : CB (w.setCell ⟨g, o + 5, none⟩ (.int .i64 v)) g made (upd S i { c with f1 := v }) T :=
  CB.put 5 { c with f1 := v } h hi (by decide) ho (fun m hm => fourteen (p := fun m => m ≠ 5 → ({ c with f1 := v } : Rx).cell m = c.cell m) (fun _ => rfl) (fun _ => rfl) (fun _ => rfl) (fun _ => rfl) (fun _ => rfl) (fun h => absurd rfl h) (fun _ => rfl) (fun _ => rfl) (fun _ => rfl) (fun _ => rfl) (fun _ => rfl) (fun _ => rfl) (fun _ => rfl) (fun _ => rfl) m hm) rfl
theorem CB.f2_ (h : CB w g made (upd S i c) T) (hi : i < 16) (ho : o = 1 + 14 * i) (v : Int) : CB (w.setCell ⟨g, o + 6, none⟩ (.int .i64 v)) g made (upd S i { c with f2 := v }) T :=
  CB.put 6 { c with f2 := v } h hi (by decide) ho (fun m hm => fourteen (p := fun m => m ≠ 6 → ({ c with f2 := v } : Rx).cell m = c.cell m) (fun _ => rfl) (fun _ => rfl) (fun _ => rfl) (fun _ => rfl) (fun _ => rfl) (fun _ => rfl) (fun h => absurd rfl h) (fun _ => rfl) (fun _ => rfl) (fun _ => rfl) (fun _ => rfl) (fun _ => rfl) (fun _ => rfl) (fun _ => rfl) m hm) rfl
theorem CB.f3_ (h : CB w g made (upd S i c) T) (hi : i < 16) (ho : o = 1 + 14 * i) (v : Int) : CB (w.setCell ⟨g, o + 7, none⟩ (.int .i64 v)) g made (upd S i { c with f3 := v }) T :=
  CB.put 7 { c with f3 := v } h hi (by decide) ho (fun m hm => fourteen (p := fun m => m ≠ 7 → ({ c with f3 := v } : Rx).cell m = c.cell m) (fun _ => rfl) (fun _ => rfl) (fun _ => rfl) (fun _ => rfl) (fun _ => rfl) (fun _ => rfl) (fun _ => rfl) (fun h => absurd rfl h) (fun _ => rfl) (fun _ => rfl) (fun _ => rfl) (fun _ => rfl) (fun _ => rfl) (fun _ => rfl) m hm) rfl
theorem CB.f4_ (h : CB w g made (upd S i c) T) (hi : i < 16) (ho : o = 1 + 14 * i) (v : Int) : CB (w.setCell ⟨g, o + 8, none⟩ (.int .i64 v)) g made (upd S i { c with f4 := v }) T :=
  CB.put 8 { c with f4 := v } h hi (by decide) ho (fun m hm => fourteen (p := fun m => m ≠ 8 → ({ c with f4 := v } : Rx).cell m = c.cell m) (fun _ => rfl) (fun _ => rfl) (fun _ => rfl) (fun _ => rfl) (fun _ => rfl) (fun _ => rfl) (fun _ => rfl) (fun _ => rfl) (fun h => absurd rfl h) (fun _ => rfl) (fun _ => rfl) (fun _ => rfl) (fun _ => rfl) (fun _ => rfl) m hm) rfl
theorem CB.began_ (h : CB w g made (upd S i c) T) (hi : i < 16) (ho : o = 1 + 14 * i) (v : Bool) : CB (w.setCell ⟨g, o + 9, none⟩ (.bool v)) g made (upd S i { c with began := v }) T :=
  CB.put 9 { c with began := v } h hi (by decide) ho (fun m hm => fourteen (p := fun m => m ≠ 9 → ({ c with began := v } : Rx).cell m = c.cell m) (fun _ => rfl) (fun _ => rfl) (fun _ => rfl) (fun _ => rfl) (fun _ => rfl) (fun _ => rfl) (fun _ => rfl) (fun _ => rfl) (fun _ => rfl) (fun h => absurd rfl h) (fun _ => rfl) (fun _ => rfl) (fun _ => rfl) (fun _ => rfl) m hm) rfl
theorem CB.gen_ (h : CB w g made (upd S i c) T) (hi : i < 16) (ho : o = 1 + 14 * i) (v : Int) : CB (w.setCell ⟨g, o + 10, none⟩ (.int .u8 v)) g made (upd S i { c with gen := v }) T :=
  CB.put 10 { c with gen := v } h hi (by decide) ho (fun m hm => fourteen (p := fun m => m ≠ 10 → ({ c with gen := v } : Rx).cell m = c.cell m) (fun _ => rfl) (fun _ => rfl) (fun _ => rfl) (fun _ => rfl) (fun _ => rfl) (fun _ => rfl) (fun _ => rfl) (fun _ => rfl) (fun _ => rfl) (fun _ => rfl) (fun h => absurd rfl h) (fun _ => rfl) (fun _ => rfl) (fun _ => rfl) m hm) rfl
theorem CB.step_ (h : CB w g made (upd S i c) T) (hi : i < 16) (ho : o = 1 + 14 * i) (v : Int) : CB (w.setCell ⟨g, o + 11, none⟩ (.int .i64 v)) g made (upd S i { c with step := v }) T :=
  CB.put 11 { c with step := v } h hi (by decide) ho (fun m hm => fourteen (p := fun m => m ≠ 11 → ({ c with step := v } : Rx).cell m = c.cell m) (fun _ => rfl) (fun _ => rfl) (fun _ => rfl) (fun _ => rfl) (fun _ => rfl) (fun _ => rfl) (fun _ => rfl) (fun _ => rfl) (fun _ => rfl) (fun _ => rfl) (fun _ => rfl) (fun h => absurd rfl h) (fun _ => rfl) (fun _ => rfl) m hm) rfl
theorem CB.need_ (h : CB w g made (upd S i c) T) (hi : i < 16) (ho : o = 1 + 14 * i) (v : Bool) : CB (w.setCell ⟨g, o + 12, none⟩ (.bool v)) g made (upd S i { c with need := v }) T :=
  CB.put 12 { c with need := v } h hi (by decide) ho (fun m hm => fourteen (p := fun m => m ≠ 12 → ({ c with need := v } : Rx).cell m = c.cell m) (fun _ => rfl) (fun _ => rfl) (fun _ => rfl) (fun _ => rfl) (fun _ => rfl) (fun _ => rfl) (fun _ => rfl) (fun _ => rfl) (fun _ => rfl) (fun _ => rfl) (fun _ => rfl) (fun _ => rfl) (fun h => absurd rfl h) (fun _ => rfl) m hm) rfl
theorem CB.turnc_ (h : CB w g made (upd S i c) T) (hi : i < 16) (ho : o = 1 + 14 * i) (v : Int) : CB (w.setCell ⟨g, o + 13, none⟩ (.int .i64 v)) g made (upd S i { c with turn := v }) T :=
  CB.put 13 { c with turn := v } h hi (by decide) ho (fun m hm => fourteen (p := fun m => m ≠ 13 → ({ c with turn := v } : Rx).cell m = c.cell m) (fun _ => rfl) (fun _ => rfl) (fun _ => rfl) (fun _ => rfl) (fun _ => rfl) (fun _ => rfl) (fun _ => rfl) (fun _ => rfl) (fun _ => rfl) (fun _ => rfl) (fun _ => rfl) (fun _ => rfl) (fun _ => rfl) (fun h => absurd rfl h) m hm) rfl
theorem CB.hops_b {v : Int} (t0 : Int) (h : CB w g made (upd S i { c with hops := t0 }) T) (hi : i < 16) (ho : o = 1 + 14 * i) (hv : c.hops = v) : CB (w.setCell ⟨g, o, none⟩ (.int .i64 v)) g made (upd S i c) T := by
  have := h.hops_ hi ho c.hops
  rw [← hv]; exact this
theorem CB.ident_b {v : Int} (t0 : Int) (h : CB w g made (upd S i { c with ident := t0 }) T) (hi : i < 16) (ho : o = 1 + 14 * i) (hv : c.ident = v) : CB (w.setCell ⟨g, o + 1, none⟩ (.int .i64 v)) g made (upd S i c) T := by
  have := h.ident_ hi ho c.ident
  rw [← hv]; exact this
theorem CB.time_b {v : Int} (t0 : Int) (h : CB w g made (upd S i { c with time := t0 }) T) (hi : i < 16) (ho : o = 1 + 14 * i) (hv : c.time = v) : CB (w.setCell ⟨g, o + 2, none⟩ (.int .i64 v)) g made (upd S i c) T := by
  have := h.time_ hi ho c.time
  rw [← hv]; exact this
theorem CB.used_b {v : Bool} (t0 : Bool) (h : CB w g made (upd S i { c with used := t0 }) T) (hi : i < 16) (ho : o = 1 + 14 * i) (hv : c.used = v) : CB (w.setCell ⟨g, o + 3, none⟩ (.bool v)) g made (upd S i c) T := by
  have := h.used_ hi ho c.used
  rw [← hv]; exact this
theorem CB.f0_b {v : Int} (t0 : Int) (h : CB w g made (upd S i { c with f0 := t0 }) T) (hi : i < 16) (ho : o = 1 + 14 * i) (hv : c.f0 = v) : CB (w.setCell ⟨g, o + 4, none⟩ (.int .i64 v)) g made (upd S i c) T := by
  have := h.f0_ hi ho c.f0
  rw [← hv]; exact this
theorem CB.f1_b {v : Int} (t0 : Int) (h : CB w g made (upd S i { c with f1 := t0 }) T) (hi : i < 16) (ho : o = 1 + 14 * i) (hv : c.f1 = v) : CB (w.setCell ⟨g, o + 5, none⟩ (.int .i64 v)) g made (upd S i c) T := by
  have := h.f1_ hi ho c.f1
  rw [← hv]; exact this
theorem CB.f2_b {v : Int} (t0 : Int) (h : CB w g made (upd S i { c with f2 := t0 }) T) (hi : i < 16) (ho : o = 1 + 14 * i) (hv : c.f2 = v) : CB (w.setCell ⟨g, o + 6, none⟩ (.int .i64 v)) g made (upd S i c) T := by
  have := h.f2_ hi ho c.f2
  rw [← hv]; exact this
theorem CB.f3_b {v : Int} (t0 : Int) (h : CB w g made (upd S i { c with f3 := t0 }) T) (hi : i < 16) (ho : o = 1 + 14 * i) (hv : c.f3 = v) : CB (w.setCell ⟨g, o + 7, none⟩ (.int .i64 v)) g made (upd S i c) T := by
  have := h.f3_ hi ho c.f3
  rw [← hv]; exact this
theorem CB.f4_b {v : Int} (t0 : Int) (h : CB w g made (upd S i { c with f4 := t0 }) T) (hi : i < 16) (ho : o = 1 + 14 * i) (hv : c.f4 = v) : CB (w.setCell ⟨g, o + 8, none⟩ (.int .i64 v)) g made (upd S i c) T := by
  have := h.f4_ hi ho c.f4
  rw [← hv]; exact this
theorem CB.began_b {v : Bool} (t0 : Bool) (h : CB w g made (upd S i { c with began := t0 }) T) (hi : i < 16) (ho : o = 1 + 14 * i) (hv : c.began = v) : CB (w.setCell ⟨g, o + 9, none⟩ (.bool v)) g made (upd S i c) T := by
  have := h.began_ hi ho c.began
  rw [← hv]; exact this
theorem CB.gen_b {v : Int} (t0 : Int) (h : CB w g made (upd S i { c with gen := t0 }) T) (hi : i < 16) (ho : o = 1 + 14 * i) (hv : c.gen = v) : CB (w.setCell ⟨g, o + 10, none⟩ (.int .u8 v)) g made (upd S i c) T := by
  have := h.gen_ hi ho c.gen
  rw [← hv]; exact this
theorem CB.step_b {v : Int} (t0 : Int) (h : CB w g made (upd S i { c with step := t0 }) T) (hi : i < 16) (ho : o = 1 + 14 * i) (hv : c.step = v) : CB (w.setCell ⟨g, o + 11, none⟩ (.int .i64 v)) g made (upd S i c) T := by
  have := h.step_ hi ho c.step
  rw [← hv]; exact this
theorem CB.need_b {v : Bool} (t0 : Bool) (h : CB w g made (upd S i { c with need := t0 }) T) (hi : i < 16) (ho : o = 1 + 14 * i) (hv : c.need = v) : CB (w.setCell ⟨g, o + 12, none⟩ (.bool v)) g made (upd S i c) T := by
  have := h.need_ hi ho c.need
  rw [← hv]; exact this
theorem CB.turn_b {v : Int} (t0 : Int) (h : CB w g made (upd S i { c with turn := t0 }) T) (hi : i < 16) (ho : o = 1 + 14 * i) (hv : c.turn = v) : CB (w.setCell ⟨g, o + 13, none⟩ (.int .i64 v)) g made (upd S i c) T := by
  have := h.turnc_ hi ho c.turn
  rw [← hv]; exact this
theorem CB.cells (h : CB w g made S T) (hi : i < 16) (ho : o = 1 + 14 * i) :
    w.cell? ⟨g, o, none⟩ = some (.int .i64 (S i).hops) ∧
    w.cell? ⟨g, o + 1, none⟩ = some (.int .i64 (S i).ident) ∧
    w.cell? ⟨g, o + 2, none⟩ = some (.int .i64 (S i).time) ∧
    w.cell? ⟨g, o + 3, none⟩ = some (.bool (S i).used) ∧
    w.cell? ⟨g, o + 4, none⟩ = some (.int .i64 (S i).f0) ∧
    w.cell? ⟨g, o + 5, none⟩ = some (.int .i64 (S i).f1) ∧
    w.cell? ⟨g, o + 6, none⟩ = some (.int .i64 (S i).f2) ∧
    w.cell? ⟨g, o + 7, none⟩ = some (.int .i64 (S i).f3) ∧
    w.cell? ⟨g, o + 8, none⟩ = some (.int .i64 (S i).f4) ∧
    w.cell? ⟨g, o + 9, none⟩ = some (.bool (S i).began) ∧
    w.cell? ⟨g, o + 10, none⟩ = some (.int .u8 (S i).gen) ∧
    w.cell? ⟨g, o + 11, none⟩ = some (.int .i64 (S i).step) ∧
    w.cell? ⟨g, o + 12, none⟩ = some (.bool (S i).need) ∧
    w.cell? ⟨g, o + 13, none⟩ = some (.int .i64 (S i).turn) :=
  ⟨h.ctx hi 0 (by decide) ho, h.ctx hi 1 (by decide) ho, h.ctx hi 2 (by decide) ho, h.ctx hi 3 (by decide) ho, h.ctx hi 4 (by decide) ho, h.ctx hi 5 (by decide) ho, h.ctx hi 6 (by decide) ho, h.ctx hi 7 (by decide) ho, h.ctx hi 8 (by decide) ho, h.ctx hi 9 (by decide) ho, h.ctx hi 10 (by decide) ho, h.ctx hi 11 (by decide) ho, h.ctx hi 12 (by decide) ho, h.ctx hi 13 (by decide) ho⟩
theorem CB.cellsU (h : CB w g made (upd S i c) T) (hi : i < 16) (ho : o = 1 + 14 * i) :
    w.cell? ⟨g, o, none⟩ = some (.int .i64 c.hops) ∧
    w.cell? ⟨g, o + 1, none⟩ = some (.int .i64 c.ident) ∧
    w.cell? ⟨g, o + 2, none⟩ = some (.int .i64 c.time) ∧
    w.cell? ⟨g, o + 3, none⟩ = some (.bool c.used) ∧
    w.cell? ⟨g, o + 4, none⟩ = some (.int .i64 c.f0) ∧
    w.cell? ⟨g, o + 5, none⟩ = some (.int .i64 c.f1) ∧
    w.cell? ⟨g, o + 6, none⟩ = some (.int .i64 c.f2) ∧
    w.cell? ⟨g, o + 7, none⟩ = some (.int .i64 c.f3) ∧
    w.cell? ⟨g, o + 8, none⟩ = some (.int .i64 c.f4) ∧
    w.cell? ⟨g, o + 9, none⟩ = some (.bool c.began) ∧
    w.cell? ⟨g, o + 10, none⟩ = some (.int .u8 c.gen) ∧
    w.cell? ⟨g, o + 11, none⟩ = some (.int .i64 c.step) ∧
    w.cell? ⟨g, o + 12, none⟩ = some (.bool c.need) ∧
    w.cell? ⟨g, o + 13, none⟩ = some (.int .i64 c.turn) := by
  have := h.cells hi ho
  rwa [upd_same] at this
end

theorem blk_new_at (w : World) (t : TypeId) (cs : Array Value) (n : Nat) (hn : w.heap.size = n) : Blk (w.alloc (.cells cs t)) n t cs := by subst hn; exact Blk.new w t cs
theorem World.grownBy_refl (w : World) (row : Option Nat) : w.grownBy w row := ⟨rfl, rfl, rfl, Nat.le_refl _, fun _ _ _ => rfl⟩
theorem cb_to {w : World} {g : Nat} {made : Bool} {S : Nat → Rx} {T : Int} {i : Nat} {c d : Rx} (h : CB w g made (upd S i d) T) (e : d = c) : CB w g made (upd S i c) T := e ▸ h
theorem CB.undrew {w : World} {g : Nat} {made : Bool} {S : Nat → Rx} {T : Int} (h : CB w g made S T) : CB w.drew g made S T := h
theorem grownBy_drew {w w' : World} {row : Option Nat} (h : w.grownBy w' row) : w.grownBy w'.drew row := ⟨h.os, h.tape, h.output, h.size, h.block⟩
/-- a context after begin -/
def begun (c : Rx) (h5 h6 h7 step : Int) : Rx := { c with gen := if c.began then (c.gen + 1) % 256 else c.gen, began := true, step := step, hops := h5, ident := h6, time := h7 }
def Keep1 (g : Nat) (w w' : World) : Prop := w.grownBy w' (some g)

set_option maxRecDepth 100000 in
set_option maxHeartbeats 3200000 in
theorem begin_ok (g i o : Nat) (made : Bool) (S : Nat → Rx) (T : Int) (h0 h1 h2 h3 h4 h5 h6 h7 h8 step : Int) (hi : i < 16) (ho : o = 1 + 14 * i) (w : World) (h : CB w g made S T) :
    Calls Try.prog 73 #[.pointer (some ⟨g, o, none⟩), .agg #[.int .i64 h0, .int .i64 h1, .int .i64 h2, .int .i64 h3, .int .i64 h4, .int .i64 h5, .int .i64 h6, .int .i64 h7, .int .i64 h8], .int .i64 step] w fun e w' =>
      e = .returned (.tuple #[]) ∧ CB w' g made (upd S i (begun (S i) h5 h6 h7 step)) T ∧ Keep1 g w w' := by
  have hgl := h.lt
  have hne : g ≠ w.heap.size := by omega
  have hne2 : w.heap.size ≠ g := by omega
  obtain ⟨c0, c1, c2, c3, c4, c5, c6, c7, c8, c9, c10, c11, c12, c13⟩ := h.cells hi ho
  have z0 := h.fr (o)
  have z1 := h.fr (o + 1)
  have z2 := h.fr (o + 2)
  have z5 := h.fr (o + 5)
  have z3 := h.fr (o + 3)
  have z9 := h.fr (o + 9)
  have z10 := h.fr (o + 10)
  have z11 := h.fr (o + 11)
  have HH := Lib.hid (h.self i)
  have HO := Lib.hid ho
  have HG := Lib.hid hgl
  obtain ⟨x, hx⟩ : ∃ x, x = S i := ⟨_, rfl⟩
  rw [← hx] at HH c0 c1 c2 c3 c4 c5 c6 c7 c8 c9 c10 c11 c12 c13 ⊢
  have HX := Lib.hid hx
  clear h ho hx
  obtain ⟨b, hb⟩ : ∃ b, b = x.began := ⟨_, rfl⟩
  rw [← hb] at c9
  have HB := Lib.hid hb
  clear hb
  have hbg : begun x h5 h6 h7 step = ⟨h5, h6, h7, x.used, x.f0, x.f1, x.f2, x.f3, x.f4, true, if b then (x.gen + 1) % 256 else x.gen, step, x.need, x.turn⟩ := by unfold begun; rw [HB.out]
  rw [hbg]
  clear hbg
  cases b
  · go_enter Try.func73, Try.ntmps73
    go_wp2
    obtain ⟨W1, hW1⟩ : ∃ W1, W1 = w.alloc (.cells #[.int .i64 h0, .int .i64 h1, .int .i64 h2, .int .i64 h3, .int .i64 h4, .int .i64 h5, .int .i64 h6, .int .i64 h7, .int .i64 h8] 36) := ⟨_, rfl⟩
    have KB := Lib.hid (show CB W1 g made (upd S i _) T by rw [hW1]; exact HH.out.alloc _)
    have KH : Blk W1 w.heap.size 36 #[.int .i64 h0, .int .i64 h1, .int .i64 h2, .int .i64 h3, .int .i64 h4, .int .i64 h5, .int .i64 h6, .int .i64 h7, .int .i64 h8] := by rw [hW1]; exact blk_new_at w _ _ _ rfl
    have KG := Lib.hid (show w.grownBy W1 (some g) by rw [hW1]; exact World.grownBy_alloc _ _ _)
    rw [← hW1]
    clear hW1 c0 c1 c2 c3 c4 c5 c6 c7 c8 c9 c10 c11 c12 c13 z0 z1 z2 z5 z3 z9 z10 z11
    obtain ⟨d0, d1, d2, d3, d4, d5, d6, d7, d8, d9, d10, d11, d12, d13⟩ := KB.out.cellsU hi HO.out
    have y0 := KB.out.fr (o)
    have y1 := KB.out.fr (o + 1)
    have y2 := KB.out.fr (o + 2)
    have y9 := KB.out.fr (o + 9)
    have y11 := KB.out.fr (o + 11)
    have p5 := KH.cell 5
    have p6 := KH.cell 6
    have p7 := KH.cell 7
    go_region_held3 (fun w' => w'.cell? ⟨w.heap.size, 5, none⟩ = some (.int .i64 h5) ∧ w'.cell? ⟨w.heap.size, 6, none⟩ = some (.int .i64 h6) ∧ w'.cell? ⟨w.heap.size, 7, none⟩ = some (.int .i64 h7)) (go_keep) ((fail))
    all_goals
      go_wp2
      go_end0
      refine ⟨rfl, ?_, ?_⟩
      · repeat (first | with_reducible exact KB.out | with_reducible refine CB.undrew ?_ | with_reducible refine CB.began_b x.began ?_ hi HO.out rfl | with_reducible refine CB.step_b x.step ?_ hi HO.out rfl | with_reducible refine CB.hops_b x.hops ?_ hi HO.out rfl | with_reducible refine CB.ident_b x.ident ?_ hi HO.out rfl | with_reducible refine CB.time_b x.time ?_ hi HO.out rfl)
      · unfold Keep1; repeat (first | with_reducible exact KG.out | with_reducible refine grownBy_set ?_ _ _ | with_reducible refine grownBy_drew ?_)
  · go_enter Try.func73, Try.ntmps73
    go_wp2
    obtain ⟨W1, hW1⟩ : ∃ W1, W1 = (w.setCell ⟨g, o + 10, none⟩ (.int .u8 ((x.gen + 1) % 256))).alloc (.cells #[.int .i64 h0, .int .i64 h1, .int .i64 h2, .int .i64 h3, .int .i64 h4, .int .i64 h5, .int .i64 h6, .int .i64 h7, .int .i64 h8] 36) := ⟨_, rfl⟩
    have KB := Lib.hid (show CB W1 g made (upd S i _) T by rw [hW1]; exact (HH.out.gen_ hi HO.out _).alloc _)
    have KH : Blk W1 w.heap.size 36 #[.int .i64 h0, .int .i64 h1, .int .i64 h2, .int .i64 h3, .int .i64 h4, .int .i64 h5, .int .i64 h6, .int .i64 h7, .int .i64 h8] := by rw [hW1]; exact blk_new_at _ _ _ _ (by simp)
    have KG := Lib.hid (show w.grownBy W1 (some g) by rw [hW1]; exact (grownBy_set (World.grownBy_refl w _) _ _).trans (World.grownBy_alloc _ _ _))
    rw [← hW1]
    clear hW1 c0 c1 c2 c3 c4 c5 c6 c7 c8 c9 c10 c11 c12 c13 z0 z1 z2 z5 z3 z9 z10 z11
    obtain ⟨d0, d1, d2, d3, d4, d5, d6, d7, d8, d9, d10, d11, d12, d13⟩ := KB.out.cellsU hi HO.out
    have y0 := KB.out.fr (o)
    have y1 := KB.out.fr (o + 1)
    have y2 := KB.out.fr (o + 2)
    have y9 := KB.out.fr (o + 9)
    have y11 := KB.out.fr (o + 11)
    have p5 := KH.cell 5
    have p6 := KH.cell 6
    have p7 := KH.cell 7
    go_region_held3 (fun w' => w'.cell? ⟨w.heap.size, 5, none⟩ = some (.int .i64 h5) ∧ w'.cell? ⟨w.heap.size, 6, none⟩ = some (.int .i64 h6) ∧ w'.cell? ⟨w.heap.size, 7, none⟩ = some (.int .i64 h7)) (go_keep) ((fail))
    all_goals
      go_wp2
      go_end0
      refine ⟨rfl, ?_, ?_⟩
      · repeat (first | with_reducible exact KB.out | with_reducible refine CB.undrew ?_ | with_reducible refine CB.began_b x.began ?_ hi HO.out rfl | with_reducible refine CB.step_b x.step ?_ hi HO.out rfl | with_reducible refine CB.hops_b x.hops ?_ hi HO.out rfl | with_reducible refine CB.ident_b x.ident ?_ hi HO.out rfl | with_reducible refine CB.time_b x.time ?_ hi HO.out rfl)
      · unfold Keep1; repeat (first | with_reducible exact KG.out | with_reducible refine grownBy_set ?_ _ _ | with_reducible refine grownBy_drew ?_)
end Go.Proofs.Ytofaghpflmeblaa
namespace Go.Proofs.Ytofaghpflmeblaa
open Go.RowKit

/-- a world that has W's blocks unchanged -/
structure ExtW (W : World) where
  v : World
  h : Below W.heap.size W v
instance ExtW.inh (W : World) : Nonempty (ExtW W) := ⟨⟨W, Below.refl _ _⟩⟩
theorem ExtW.cell {W : World} (e : ExtW W) {p : Addr} {x : Value} (hc : W.cell? p = some x) (hp : p.block < W.heap.size) : e.v.cell? p = some x := (e.h.cell hp).trans hc
def ExtW.next {W : World} (e : ExtW W) {w' : World} (h : Below e.v.heap.size e.v w') : ExtW W := ⟨w', e.h.trans (h.mono e.h.size)⟩
theorem wp_region_ext {P : Program} {id : Nat} {Q : Exit → Act → World → Prop} {a : Act} {w : World} {l : List Oper} (hm : P.follows .mixedOrders = true) (hB : Region.lexB .any l.toArray = true)
    (h : wpQuiet P l.toArray (fun w' => ∃ e : ExtW w, w' = e.v) (fun a' => ∀ w', (∃ e : ExtW w, w' = e.v) → Q .normal a' w') l a) : (Code.region id l.toArray true).wp P Q a w :=
  wp_region_quiet (C := fun w' => ∃ e : ExtW w, w' = e.v) hm hB ⟨⟨w.drew, (Below.refl _ w).drew⟩, rfl⟩ (by simpa using h)
/-- a callee's contract among them -/
theorem Calls.ext_of {P : Program} {f : FuncId} {args : Array Value} {W : World} {e : ExtW W} {v : Value} (h : Calls P f args e.v fun en w' => en = .returned v ∧ Below e.v.heap.size e.v w') : Calls P f args e.v fun en w'' => en = .returned v ∧ ∃ e' : ExtW W, w'' = e'.v :=
  h.mono fun _ _ ⟨h1, h2⟩ => ⟨h1, e.next h2, rfl⟩
end Go.Proofs.Ytofaghpflmeblaa
namespace Go.Proofs.Ytofaghpflmeblaa
open Go.RowKit

section
variable {n l : Nat} {P : Program} {C : World → Prop} {ops : Array Oper} {md : Region.Mode}
def noDefer (o : Oper) : Bool := match o.op with | .defer _ => false | _ => true
theorem noDefer_spec {o : Oper} (h : noDefer o = true) : ∀ c, o.op ≠ .defer c := by
  intro c e
  unfold noDefer at h
  rw [e] at h
  cases h
theorem op_round {o : Oper} {a : Act} {K : Act → Prop} {K' : Act → World → Prop} {Q' : Exit → Act → World → Prop} {w : World} (hnd : noDefer o = true) (hw : C w) (h : ∀ a w', C w' → K a → K' a w')
    (hh : o.quiet P a C K) : o.wpIn (Fence.wide.inRound l) n P a w K' Q' := by
  obtain ⟨v, h1, h2⟩ := hh
  have h3 := h1 w hw
  unfold Oper.quietAt at h3
  unfold Oper.wpIn
  refine ⟨fun _ _ => trivial, ?_⟩
  rw [Oper.semAt_eq _ _ _ (noDefer_spec hnd)]
  generalize (execOp a.eval o).run P w = r at *
  cases r with
  | ok x w' =>
    cases x <;> simp only [Oper.quietUpon] at h3 <;> simp only [Oper.uponIn]
    case value u =>
      obtain ⟨e1, e2⟩ := h3
      rw [e1, e2]
      exact h _ _ hw h2
    case skip =>
      obtain ⟨e1, e2⟩ := h3
      rw [e1, ← e2]
      exact h _ _ hw h2
    case enter f args =>
      obtain ⟨e1, hc⟩ := h3
      rw [e1]
      refine ⟨(fun e => by cases e), CallsIn.inRound l (callsIn_wide.2 (hc.mono fun e w'' ⟨he, hw''⟩ => ?_))⟩
      subst he
      exact h _ _ hw'' h2
  | halt x w' => simp only [Oper.quietUpon] at h3
theorem opIn_round {i : Nat} {a : Act} {K : Act → Prop} {K' : Act → World → Prop} {Q' : Exit → Act → World → Prop} {w : World} (hnd : ops.all noDefer = true) (hC : C w) (h : ∀ a w', C w' → K a → K' a w')
    (hh : qOp P ops C i K a) : wpOpIn (Fence.wide.inRound l) n P ops Q' i K' a w := by
  unfold qOp at hh
  unfold wpOpIn
  split
  · rename_i ho; simp only [ho] at hh; exact h _ _ hC hh
  · rename_i o ho
    simp only [ho] at hh
    have hn : noDefer o = true := by
      rw [Array.all_eq_true_iff_forall_mem] at hnd
      exact hnd o (Array.mem_of_getElem? ho)
    split
    · rename_i hw; simp only [hw, if_true] at hh; exact op_round hn hC h hh
    · rename_i hw; simp only [hw] at hh; exact ⟨fun _ _ => trivial, h _ _ hC hh⟩
theorem anyIn_round {Q : Act → Prop} {Q' : Exit → Act → World → Prop} (hnd : ops.all noDefer = true) (hQ : ∀ a w, C w → Q a → Q' .normal a w) : ∀ (fuel : Nat) (listed : Array Bool) (a : Act) (w : World), C w →
    wpAnyQ P md ops C Q fuel listed a → wpAnyIn (Fence.wide.inRound l) n P md ops Q' fuel listed a w
  | 0, _, _, _, hw, h => ⟨h.1, hQ _ _ hw h.2⟩
  | fuel + 1, _, _, _, hw, h => ⟨fun h0 => hQ _ _ hw (h.1 h0), fun i hi => opIn_round hnd hw (fun a' w' hw' => anyIn_round hnd hQ fuel _ a' w' hw') (h.2 i hi)⟩
theorem region_round {id : Nat} {Q : Exit → Act → World → Prop} {a : Act} {w : World} (hnd : ops.all noDefer = true) (hm : P.follows .mixedOrders = true) (hB : Region.lexB .any ops = true) (hC : C { w with drawn := w.drawn + 1 })
    (h : wpQuiet P ops C (fun a' => ∀ w', C w' → Q .normal a' w') ops.toList a) : (Code.region id ops true).wpIn (Fence.wide.inRound l) n P Q a w := by
  simp only [Region.lexB, Bool.and_eq_true] at hB
  refine wpIn_region_any hm (anyIn_round (Q := fun a' => ∀ w', C w' → Q .normal a' w') hnd (fun _ w' hw' h => h w' hw') _ _ _ _ hC ?_)
  have := wpAnyQ_lex (C := C) (md := .any) hB.1 ops.toList 0 (Array.replicate ops.size false) a (by simp) (by simpa using hB.2) h
  simpa using this
end
/-- the plain walk over every world that keeps W's blocks, inside a round -/
theorem wpIn_round_ext {n l : Nat} {P : Program} {id : Nat} {Q : Exit → Act → World → Prop} {a : Act} {w : World} {os : List Oper} (hnd : os.toArray.all noDefer = true) (hm : P.follows .mixedOrders = true) (hB : Region.lexB .any os.toArray = true)
    (h : wpQuiet P os.toArray (fun w' => ∃ e : ExtW w, w' = e.v) (fun a' => ∀ w', (∃ e : ExtW w, w' = e.v) → Q .normal a' w') os a) : (Code.region id os.toArray true).wpIn (Fence.wide.inRound l) n P Q a w :=
  region_round (C := fun w' => ∃ e : ExtW w, w' = e.v) hnd hm hB ⟨⟨w.drew, (Below.refl _ w).drew⟩, rfl⟩ (by simpa using h)
theorem keepsOthers_below {W W' : World} (h : Below W.heap.size W W') : KeepsOthers W W' := ⟨h.size, fun k _ hk _ => (h.block k (Array.getElem?_eq_some_iff.1 hk).1).trans hk⟩

section
variable {F : Fence} {n : Nat} {P : Program}
/-- the loop over an iterator whose variables are partly boxed: the assignment lays the box q, of which R holds -/
theorem wpIn_rangeFunc_box {α : Type} {g : Operand} {ps : Array Tmp} {assign body : Code} {Q : Exit → Act → World → Prop} {a : Act} {w : World}
    (hro : F.round = none) (h1 : 1 ≤ n) {gf : Nat} {lb : Array Value} (hg : a.eval g = .func (.func gf) #[] lb) (hFg : F.fn gf) (eg : ∀ args w, (callFunc gf args).run P w = .ok (.enter gf args) w)
    {encs : α → Array Value} {Kp : World → World → Prop} {S Sp : List α → Prop} {N : Nat} {w0 : World} (hseq : SeqStopsK F (n - 1) P gf lb encs Kp S Sp N w0)
    (hKt : ∀ {A B C : World}, Kp A B → Kp B C → Kp A C) (hKb : ∀ (W : World) (l : Nat) (o o' : Obj), w.heap.size ≤ l → W.heap[l]? = some o → o.isCells = false → o.isWalk = false → Kp W (W.putObj l o')) (hb0 : Below w0.heap.size w0 w) (hps : ∀ x, (encs x).size = ps.size)
    (I : List α → World → Prop) (Ix : Code → List α → World → Prop) (hI : OwnFrom w.heap.size I) (hIx : ∀ c, OwnFrom w.heap.size (Ix c)) (h0 : I [] w)
    (R : α → Nat → World → Prop) (hR : ∀ x q, OwnFrom w.heap.size (fun (_ : Unit) W => R x q W)) (aF : α → Nat → Act)
    (hassign : ∀ (l : Nat) (pre : List α) (x : α) (W : World) (K : Act → World → Prop), I pre W → (∀ q W', KeepsFrom w.heap.size W W' → Kp W W' → I pre W' → R x q W' → K (aF x q) W') →
      assign.wpIn (F.inRound l) (n - 1 - 1) P (Exit.then K (fun _ _ _ => False)) { tmps := (ps.zip (encs x)).foldl (fun t (p, v) => t.setIfInBounds p v) a.tmps, defers := [] } W)
    (hbody : ∀ (l : Nat) (pre : List α) (x : α) (q : Nat) (W : World), I pre W → R x q W → pre.length < N → body.wpIn (F.inRound l) (n - 1 - 1) P (ownPostG w.heap.size Kp I Ix (pre ++ [x]) W) (aF x q) W)
    (hdone : ∀ (D : Nat) (xs : List α) (W : World), w.heap.size ≤ D → S xs → I xs W → W.heap[D]? = some (.deferred (some [])) → Q .normal { a with defers := { target := .collected D, args := #[] } :: a.defers } W)
    (hstop : ∀ (D : Nat) (c : Code) (pre : List α) (W : World), w.heap.size ≤ D → Sp pre → Ix c pre W → W.heap[D]? = some (.deferred (some [])) → c.wpIn F n P Q { a with defers := { target := .collected D, args := #[] } :: a.defers } W) :
    (Code.rangeFunc g ps assign body).wpIn F n P Q a w :=
  wpIn_rangeFunc_ownH hro h1 hg hFg eg hseq hKt hKb hb0 hps I Ix hI hIx h0 (fun x a' W => ∃ q, a' = aF x q ∧ R x q W)
    (fun x a' s A B row hs hgr hr => by obtain ⟨q, e, h⟩ := hs; exact ⟨q, e, hR x q () A B row h hgr hr⟩)
    (fun l pre x W K hi hK => hassign l pre x W K hi (fun q W' k1 k2 k3 k4 => hK _ _ k1 k2 k3 ⟨q, rfl, k4⟩))
    (fun l pre x a' W _ _ hi hA hl => by obtain ⟨q, rfl, h⟩ := hA; exact hbody l pre x q W hi h hl)
    hdone hstop
end
theorem blk_own {β : Type} {B q : Nat} {t : TypeId} {cs : Array Value} : OwnFrom B (fun (_ : β) W => Blk W q t cs) := fun _ X Y row hs hg hr =>
  (hg.block q hs.lt (fun e => by obtain ⟨_, o, ho, hc⟩ := hr q e.symm; rw [show X.heap[q]? = _ from hs] at ho; cases ho; cases hc)).trans hs
end Go.Proofs.Ytofaghpflmeblaa
namespace Go.Proofs.Ytofaghpflmeblaa
open Go.RowKit

attribute [local go_sem ↓] Go.wp_at_zero Go.wp_at_succ

def kN (x : Rx) (h6 : Int) : Int := (h6 - x.ident) % 65536
def kT (x : Rx) (h7 : Int) : Int := (h7 - x.time) % 16777216
def noKind (x : Rx) (h0 h1 h2 h3 h4 h6 : Int) : Bool := !x.used || (x.need || (!sameFlow x.f0 x.f1 x.f2 x.f3 x.f4 h0 h1 h2 h3 h4 || (decide (kN x h6 < 1) || decide (255 < kN x h6))))
def kindOf (x : Rx) (h0 h1 h2 h3 h4 h5 h6 h7 : Int) : Int :=
  if noKind x h0 h1 h2 h3 h4 h6 then 0
  else if h5 = x.hops ∧ kT x h7 = x.step * kN x h6 % 16777216 then 2
  else if kT x h7 < 65536 then 1 else 0
/-- what a context always holds -/
structure Rx.Ok (x : Rx) : Prop where
  hops : 0 ≤ x.hops ∧ x.hops < 256
  ident : 0 ≤ x.ident ∧ x.ident < 65536
  time : 0 ≤ x.time ∧ x.time < 16777216
  gen : 0 ≤ x.gen ∧ x.gen < 256
  step : 0 ≤ x.step ∧ x.step < 65536

set_option maxRecDepth 100000 in
set_option maxHeartbeats 3200000 in
theorem kind_ok (g i o : Nat) (made : Bool) (S : Nat → Rx) (T : Int) (h0 h1 h2 h3 h4 h5 h6 h7 h8 : Int) (hi : i < 16) (ho : o = 1 + 14 * i) (hok : (S i).Ok) (b6 : 0 ≤ h6 ∧ h6 < 65536) (b7 : 0 ≤ h7 ∧ h7 < 16777216) (w : World) (h : CB w g made S T) :
    Calls Try.prog 46 #[.pointer (some ⟨g, o, none⟩), .agg #[.int .i64 h0, .int .i64 h1, .int .i64 h2, .int .i64 h3, .int .i64 h4, .int .i64 h5, .int .i64 h6, .int .i64 h7, .int .i64 h8]] w fun e w' => e = .returned (.int .i64 (kindOf (S i) h0 h1 h2 h3 h4 h5 h6 h7)) ∧ Below w.heap.size w w' := by
  obtain ⟨x, hx⟩ : ∃ x, x = S i := ⟨_, rfl⟩
  rw [← hx] at hok ⊢
  obtain ⟨oh, oi, ot, og, os⟩ := hok
  have w1 : IntKind.i64.wrap (h6 - x.ident) = h6 - x.ident := IntWalk.i64_in _ (by omega)
  have w2 : IntKind.i64.wrap (h7 - x.time) = h7 - x.time := IntWalk.i64_in _ (by omega)
  have HA := Lib.hid (fun W => apart_ok x.hops x.ident x.time h0 h1 h2 h3 h4 h5 h6 h7 h8 W w1 w2)
  obtain ⟨k, hk⟩ : ∃ k, k = kindOf x h0 h1 h2 h3 h4 h5 h6 h7 := ⟨_, rfl⟩
  rw [← hk]
  unfold kindOf at hk
  obtain ⟨n, hn⟩ : ∃ n, n = kN x h6 := ⟨_, rfl⟩
  obtain ⟨t, ht⟩ : ∃ t, t = kT x h7 := ⟨_, rfl⟩
  obtain ⟨nk, hnk⟩ : ∃ nk, nk = noKind x h0 h1 h2 h3 h4 h6 := ⟨_, rfl⟩
  rw [← hn, ← ht, ← hnk] at hk
  unfold noKind at hnk
  rw [← hn] at hnk
  have n0 : 0 ≤ n ∧ n < 65536 := by rw [hn]; unfold kN; omega
  have t0 : 0 ≤ t ∧ t < 16777216 := by rw [ht]; unfold kT; omega
  have hp0 : 0 ≤ x.step * n := Int.mul_nonneg os.1 n0.1
  have hp1 : x.step * n ≤ 65536 * 65536 := Int.mul_le_mul (by omega) (by omega) n0.1 (by decide)
  obtain ⟨p, hp⟩ : ∃ p, p = x.step * n := ⟨_, rfl⟩
  rw [← hp] at hk hp0 hp1
  have kw : IntKind.i64.wrap (x.step * n) = p := by rw [← hp]; exact IntWalk.i64_in _ (by omega)
  have kb := and_low24 p
  have hA2 : Hid (∀ W : World, Calls Try.prog 72 #[.agg #[.int .i64 x.hops, .int .i64 x.ident, .int .i64 x.time], .agg #[.int .i64 h0, .int .i64 h1, .int .i64 h2, .int .i64 h3, .int .i64 h4, .int .i64 h5, .int .i64 h6, .int .i64 h7, .int .i64 h8]] W fun e w' => e = .returned (.tuple #[.int .i64 n, .int .i64 t]) ∧ Below W.heap.size W w') := by rw [hn, ht]; exact HA
  have hneq := flow_neq x.f0 x.f1 x.f2 x.f3 x.f4 h0 h1 h2 h3 h4
  obtain ⟨sf, hsf⟩ : ∃ sf, sf = sameFlow x.f0 x.f1 x.f2 x.f3 x.f4 h0 h1 h2 h3 h4 := ⟨_, rfl⟩
  rw [← hsf] at hneq hnk
  obtain ⟨n1, n2⟩ := n0
  have HX := Lib.hid hx
  have HK := Lib.hid hk
  have HNK := Lib.hid hnk
  have HKW := Lib.hid kw
  have HKB := Lib.hid kb
  have HO := Lib.hid ho
  have HB := Lib.hid h
  have HNE := Lib.hid hneq
  have HP := Lib.hid hp
  clear HA hx hk hnk hsf hp kw kb ho h w1 w2 hn ht hneq
  go_enter Try.func46, Try.ntmps46
  go_wp2
  obtain ⟨hb, hhb⟩ : ∃ hb, hb = w.heap.size := ⟨_, rfl⟩
  obtain ⟨W1, hW1⟩ : ∃ W1, W1 = w.alloc (.cells #[.int .i64 h0, .int .i64 h1, .int .i64 h2, .int .i64 h3, .int .i64 h4, .int .i64 h5, .int .i64 h6, .int .i64 h7, .int .i64 h8] 36) := ⟨_, rfl⟩
  have K1 := Lib.hid (show CB W1 g made S T by rw [hW1]; exact HB.out.alloc _)
  have H1 := Lib.hid (show Blk W1 hb 36 #[.int .i64 h0, .int .i64 h1, .int .i64 h2, .int .i64 h3, .int .i64 h4, .int .i64 h5, .int .i64 h6, .int .i64 h7, .int .i64 h8] by rw [hW1, hhb]; exact Blk.new _ _ _)
  have BW1 := Lib.hid (show Below w.heap.size w W1 by rw [hW1]; exact (Below.refl _ w).alloc (Nat.le_refl _) _)
  rw [← hW1, ← hhb]
  have HHB := Lib.hid hhb
  clear hW1 hhb
  obtain ⟨c0, c1, c2, c3, c4, c5, c6, c7, c8, c9, c10, c11, c12, c13⟩ := K1.out.cells hi HO.out
  rw [← HX.out] at c0 c1 c2 c3 c4 c5 c6 c7 c8 c9 c10 c11 c12 c13
  obtain ⟨q0, q1, q2, q3, q4, q5, q6, q7, q8⟩ := H1.out.nine
  go_region_held3 (fun w' => w'.cell? ⟨g, o, none⟩ = some (.int .i64 x.hops) ∧ w'.cell? ⟨g, o + 1, none⟩ = some (.int .i64 x.ident) ∧ w'.cell? ⟨g, o + 2, none⟩ = some (.int .i64 x.time) ∧ w'.cell? ⟨hb, 0, none⟩ = some (.int .i64 h0) ∧ w'.cell? ⟨hb, 1, none⟩ = some (.int .i64 h1) ∧ w'.cell? ⟨hb, 2, none⟩ = some (.int .i64 h2) ∧ w'.cell? ⟨hb, 3, none⟩ = some (.int .i64 h3) ∧ w'.cell? ⟨hb, 4, none⟩ = some (.int .i64 h4) ∧ w'.cell? ⟨hb, 5, none⟩ = some (.int .i64 h5) ∧ w'.cell? ⟨hb, 6, none⟩ = some (.int .i64 h6) ∧ w'.cell? ⟨hb, 7, none⟩ = some (.int .i64 h7) ∧ w'.cell? ⟨hb, 8, none⟩ = some (.int .i64 h8)) (go_keep) ((go_at_call 72; refine (hA2.out _).mono ?_; rintro e w2 ⟨rfl, b2⟩; have K2 := Lib.hid (K1.out.drew.below b2 K1.out.lt); have H2 := Lib.hid (H1.out.drew.below b2 H1.out.lt); have B2 := Lib.hid (below_step BW1.out.drew b2); clear b2; obtain ⟨d0, d1, d2, d3, d4, d5, d6, d7, d8, d9, d10, d11, d12, d13⟩ := K2.out.cells hi HO.out; obtain ⟨r0, r1, r2, r3, r4, r5, r6, r7, r8⟩ := H2.out.nine; rw [← HX.out] at d0 d1 d2 d3 d4 d5 d6 d7 d8 d9 d10 d11 d12 d13))
  have hgl := K2.out.lt
  have hbl := H2.out.lt
  have x3 : ∀ e : ExtW w2, e.v.cell? ⟨g, o + 3, none⟩ = some (.bool x.used) := fun e => e.cell d3 hgl
  have x12 : ∀ e : ExtW w2, e.v.cell? ⟨g, o + 12, none⟩ = some (.bool x.need) := fun e => e.cell d12 hgl
  have x4 : ∀ e : ExtW w2, e.v.cell? ⟨g, o + 4, none⟩ = some (.int .i64 x.f0) := fun e => e.cell d4 hgl
  have x5 : ∀ e : ExtW w2, e.v.cell? ⟨g, o + 5, none⟩ = some (.int .i64 x.f1) := fun e => e.cell d5 hgl
  have x6 : ∀ e : ExtW w2, e.v.cell? ⟨g, o + 6, none⟩ = some (.int .i64 x.f2) := fun e => e.cell d6 hgl
  have x7 : ∀ e : ExtW w2, e.v.cell? ⟨g, o + 7, none⟩ = some (.int .i64 x.f3) := fun e => e.cell d7 hgl
  have x8 : ∀ e : ExtW w2, e.v.cell? ⟨g, o + 8, none⟩ = some (.int .i64 x.f4) := fun e => e.cell d8 hgl
  have y0 : ∀ e : ExtW w2, e.v.cell? ⟨hb, 0, none⟩ = some (.int .i64 h0) := fun e => e.cell r0 hbl
  have y1 : ∀ e : ExtW w2, e.v.cell? ⟨hb, 1, none⟩ = some (.int .i64 h1) := fun e => e.cell r1 hbl
  have y2 : ∀ e : ExtW w2, e.v.cell? ⟨hb, 2, none⟩ = some (.int .i64 h2) := fun e => e.cell r2 hbl
  have y3 : ∀ e : ExtW w2, e.v.cell? ⟨hb, 3, none⟩ = some (.int .i64 h3) := fun e => e.cell r3 hbl
  have y4 : ∀ e : ExtW w2, e.v.cell? ⟨hb, 4, none⟩ = some (.int .i64 h4) := fun e => e.cell r4 hbl
  have y5 : ∀ e : ExtW w2, e.v.cell? ⟨hb, 5, none⟩ = some (.int .i64 h5) := fun e => e.cell r5 hbl
  have y6 : ∀ e : ExtW w2, e.v.cell? ⟨hb, 6, none⟩ = some (.int .i64 h6) := fun e => e.cell r6 hbl
  have y7 : ∀ e : ExtW w2, e.v.cell? ⟨hb, 7, none⟩ = some (.int .i64 h7) := fun e => e.cell r7 hbl
  have y8 : ∀ e : ExtW w2, e.v.cell? ⟨hb, 8, none⟩ = some (.int .i64 h8) := fun e => e.cell r8 hbl
  have BX : Hid (∀ e : ExtW w2, Below w.heap.size w e.v) := Lib.hid fun e => below_step B2.out e.h
  obtain ⟨u, hu⟩ : ∃ u, u = x.used := ⟨_, rfl⟩
  obtain ⟨nd, hnd⟩ : ∃ nd, nd = x.need := ⟨_, rfl⟩
  rw [← hu] at x3
  rw [← hnd] at x12
  have HU := Lib.hid hu
  have HND := Lib.hid hnd
  clear hu hnd c0 c1 c2 c3 c4 c5 c6 c7 c8 c9 c10 c11 c12 c13 q0 q1 q2 q3 q4 q5 q6 q7 q8 d3 d12 d4 d5 d6 d7 d8
  have hneq := HNE.out
  go_wp2
  cases u
  · have hk0 : k = 0 := by rw [HK.out, HNK.out, ← HU.out]; rfl
    subst hk0
    refine wp_region_ext (by kernel_rfl) (by kernel_rfl) ?_
    repeat (go_big_quiet_step (fail))
    refine wpQuiet_nil ?_
    rintro _ ⟨ex, rfl⟩
    go_wp2
    go_ret
    exact ⟨rfl, BX.out ex⟩
  cases nd
  rotate_left
  · have hk0 : k = 0 := by rw [HK.out, HNK.out, ← HU.out, ← HND.out]; rfl
    subst hk0
    refine wp_region_ext (by kernel_rfl) (by kernel_rfl) ?_
    repeat (go_big_quiet_step (fail))
    refine wpQuiet_nil ?_
    rintro _ ⟨ex, rfl⟩
    go_wp2
    go_ret
    exact ⟨rfl, BX.out ex⟩
  cases sf
  · have hk0 : k = 0 := by rw [HK.out, HNK.out, ← HU.out, ← HND.out]; rfl
    subst hk0
    refine wp_region_ext (by kernel_rfl) (by kernel_rfl) ?_
    repeat (go_big_quiet_step (exact Calls.ext_of (static_ok h0 h1 h2 h3 h4 h5 h6 h7 h8 _)))
    refine wpQuiet_nil ?_
    rintro _ ⟨ex, rfl⟩
    go_wp2
    go_ret
    exact ⟨rfl, BX.out ex⟩
  by_cases hn1 : n < 1
  · have hk0 : k = 0 := by rw [HK.out, HNK.out, ← HU.out, ← HND.out]; simp [hn1]
    subst hk0
    refine wp_region_ext (by kernel_rfl) (by kernel_rfl) ?_
    repeat (go_big_quiet_step (exact Calls.ext_of (static_ok h0 h1 h2 h3 h4 h5 h6 h7 h8 _)))
    refine wpQuiet_nil ?_
    rintro _ ⟨ex, rfl⟩
    go_wp2
    go_ret
    exact ⟨rfl, BX.out ex⟩
  by_cases hn2 : 255 < n
  · have hk0 : k = 0 := by rw [HK.out, HNK.out, ← HU.out, ← HND.out]; simp [hn2]
    subst hk0
    refine wp_region_ext (by kernel_rfl) (by kernel_rfl) ?_
    repeat (go_big_quiet_step (exact Calls.ext_of (static_ok h0 h1 h2 h3 h4 h5 h6 h7 h8 _)))
    refine wpQuiet_nil ?_
    rintro _ ⟨ex, rfl⟩
    go_wp2
    go_ret
    exact ⟨rfl, BX.out ex⟩
  refine wp_region_ext (by kernel_rfl) (by kernel_rfl) ?_
  repeat (go_big_quiet_step (exact Calls.ext_of (static_ok h0 h1 h2 h3 h4 h5 h6 h7 h8 _)))
  refine wpQuiet_nil ?_
  rintro _ ⟨ex, rfl⟩
  have hge : g < ex.v.heap.size := Nat.lt_of_lt_of_le hgl ex.h.size
  have hbe : hb < ex.v.heap.size := Nat.lt_of_lt_of_le hbl ex.h.size
  have z0 : ∀ e : ExtW ex.v, e.v.cell? ⟨g, o, none⟩ = some (.int .i64 x.hops) := fun e => e.cell (ex.cell d0 hgl) hge
  have z11 : ∀ e : ExtW ex.v, e.v.cell? ⟨g, o + 11, none⟩ = some (.int .i64 x.step) := fun e => e.cell (ex.cell d11 hgl) hge
  have z5 : ∀ e : ExtW ex.v, e.v.cell? ⟨hb, 5, none⟩ = some (.int .i64 h5) := fun e => e.cell (y5 ex) hbe
  have BZ : Hid (∀ e : ExtW ex.v, Below w.heap.size w e.v) := Lib.hid fun e => below_step (BX.out ex) e.h
  have kw := HKW.out
  have kb := HKB.out
  have hnk0 : nk = false := by rw [HNK.out, ← HU.out, ← HND.out]; simp [hn1, hn2]
  have HK2 := Lib.hid (by have := HK.out; rw [hnk0] at this; exact this)
  clear x3 x12 x4 x5 x6 x7 x8 y0 y1 y2 y3 y4 y5 y6 y7 y8 hneq hnk0
  go_wp2
  by_cases hh : h5 = x.hops
  · have hh1 : (h5 == x.hops) = true := by simpa using hh
    by_cases htt : t = p % 16777216
    · have ht1 : (t == p % 16777216) = true := by simpa using htt
      have hk2 : k = 2 := by rw [HK2.out, if_neg (by decide), if_pos ⟨hh, htt⟩]
      have HHH := Lib.hid hh
      have HTT := Lib.hid htt
      clear hh htt
      subst hk2
      refine wp_region_ext (by kernel_rfl) (by kernel_rfl) ?_
      repeat (go_big_quiet_step (fail))
      refine wpQuiet_nil ?_
      rintro _ ⟨ex2, rfl⟩
      go_wp2
      go_ret
      exact ⟨rfl, BZ.out ex2⟩
    · have ht1 : (t == p % 16777216) = false := by simpa using htt
      have hk2 := HK2.out
      rw [if_neg (by decide), if_neg (fun hc => htt hc.2)] at hk2
      have HHH := Lib.hid hh
      clear hh
      by_cases h16 : t < 65536
      · rw [if_pos h16] at hk2
        subst hk2
        refine wp_region_ext (by kernel_rfl) (by kernel_rfl) ?_
        repeat (go_big_quiet_step (fail))
        refine wpQuiet_nil ?_
        rintro _ ⟨ex2, rfl⟩
        go_wp2
        go_ret
        exact ⟨rfl, BZ.out ex2⟩
      · rw [if_neg h16] at hk2
        subst hk2
        refine wp_region_ext (by kernel_rfl) (by kernel_rfl) ?_
        repeat (go_big_quiet_step (fail))
        refine wpQuiet_nil ?_
        rintro _ ⟨ex2, rfl⟩
        go_wp2
        go_ret
        exact ⟨rfl, BZ.out ex2⟩
  · have hh1 : (h5 == x.hops) = false := by simpa using hh
    have hk2 := HK2.out
    rw [if_neg (by decide), if_neg (fun hc => hh hc.1)] at hk2
    by_cases h16 : t < 65536
    · rw [if_pos h16] at hk2
      subst hk2
      refine wp_region_ext (by kernel_rfl) (by kernel_rfl) ?_
      repeat (go_big_quiet_step (fail))
      refine wpQuiet_nil ?_
      rintro _ ⟨ex2, rfl⟩
      go_wp2
      go_ret
      exact ⟨rfl, BZ.out ex2⟩
    · rw [if_neg h16] at hk2
      subst hk2
      refine wp_region_ext (by kernel_rfl) (by kernel_rfl) ?_
      repeat (go_big_quiet_step (fail))
      refine wpQuiet_nil ?_
      rintro _ ⟨ex2, rfl⟩
      go_wp2
      go_ret
      exact ⟨rfl, BZ.out ex2⟩
end Go.Proofs.Ytofaghpflmeblaa
namespace Go.Proofs.Ytofaghpflmeblaa
open Go.RowKit

attribute [local go_sem ↓] Go.wp_at_zero Go.wp_at_succ

/-- a header's bytes are handed back; the compressor is left in the state S -/
def HOut (len : Nat) (y : Nat → Int) (g : Nat) (made : Bool) (S : Nat → Rx) (T : Int) (w : World) (e : Ending) (w' : World) : Prop :=
  ∃ A c, e = .returned (.slice A len c) ∧ len ≤ c ∧ Row w' w'.heap.size A len (fun j => .int .u8 (y j)) ∧ CB w' g made S T ∧ Keep1 g w w'
theorem keep_of_below {g : Nat} {w w' : World} (h : Below w.heap.size w w') : Keep1 g w w' := ⟨h.os, h.tape, h.output, h.size, fun i hi _ => h.block i hi⟩
theorem Keep1.trans {g : Nat} {a b c : World} (h : Keep1 g a b) (k : Keep1 g b c) : Keep1 g a c := World.grownBy.trans h k
theorem keep_own {g H n c : Nat} {w a b : World} (h : Keep1 g w a) (k : a.grownBy b (Value.slice (some ⟨H, 0, none⟩) n c).ownBlock) (hH : w.heap.size ≤ H) : Keep1 g w b :=
  ⟨k.os.trans h.os, k.tape.trans h.tape, k.output.trans h.output, Nat.le_trans h.size k.size, fun i hi hne => (k.block i (Nat.lt_of_lt_of_le hi h.size) (fun e => by
    have : i = H := by simpa [Value.ownBlock] using e
    omega)).trans (h.block i hi hne)⟩
theorem Keep1.blk {g b : Nat} {t : TypeId} {cs : Array Value} {w w' : World} (h : Keep1 g w w') (hB : Blk w b t cs) (hne : b ≠ g) : Blk w' b t cs := (h.block b hB.lt (fun e => by cases e; exact hne rfl)).trans hB
theorem Keep1.row {g B n : Nat} {A : Option Addr} {v : Nat → Value} {w w' : World} (h : Keep1 g w w') (hr : Row w B A n v) (hB : B ≤ w.heap.size) (hg : ∀ a, A = some a → a.block ≠ g) : Row w' B A n v := fun hn => by
  obtain ⟨b, off, e, hb, hc⟩ := hr hn
  subst e
  exact ⟨b, off, rfl, hb, fun j hj => (World.cell?_of_block (h.block b (by omega) (fun e => by cases e; exact hg _ rfl rfl))).trans (hc j hj)⟩

set_option maxRecDepth 100000 in
set_option maxHeartbeats 3200000 in
theorem compact_ok (g i o : Nat) (made : Bool) (S : Nat → Rx) (T : Int) (h0 h1 h2 h3 h4 h5 h6 h7 h8 : Int) (Z : Value) (hi : i < 16) (ho : o = 1 + 14 * i) (hok : (S i).Ok) (b6 : 0 ≤ h6 ∧ h6 < 65536) (b7 : 0 ≤ h7 ∧ h7 < 16777216) (hn1 : 1 ≤ kN (S i) h6) (hn2 : kN (S i) h6 ≤ 255) (w : World) (h : CB w g made S T) :
    Calls Try.prog 49 #[.pointer (some ⟨g, o, none⟩), .agg #[.int .i64 h0, .int .i64 h1, .int .i64 h2, .int .i64 h3, .int .i64 h4, .int .i64 h5, .int .i64 h6, .int .i64 h7, .int .i64 h8], Z] w (HOut 2 (fun j => ([(S i).gen, kN (S i) h6] : List Int).getD j 0) g made S T w) := by
  obtain ⟨x, hx⟩ : ∃ x, x = S i := ⟨_, rfl⟩
  rw [← hx] at hok hn1 hn2 ⊢
  obtain ⟨oh, oi, ot, og, os⟩ := hok
  have w1 : IntKind.i64.wrap (h6 - x.ident) = h6 - x.ident := IntWalk.i64_in _ (by omega)
  have w2 : IntKind.i64.wrap (h7 - x.time) = h7 - x.time := IntWalk.i64_in _ (by omega)
  have HA := Lib.hid (fun W => apart_ok x.hops x.ident x.time h0 h1 h2 h3 h4 h5 h6 h7 h8 W w1 w2)
  obtain ⟨n, hn⟩ : ∃ n, n = kN x h6 := ⟨_, rfl⟩
  obtain ⟨t, ht⟩ : ∃ t, t = kT x h7 := ⟨_, rfl⟩
  rw [← hn] at hn1 hn2 ⊢
  have hA2 : Hid (∀ W : World, Calls Try.prog 72 #[.agg #[.int .i64 x.hops, .int .i64 x.ident, .int .i64 x.time], .agg #[.int .i64 h0, .int .i64 h1, .int .i64 h2, .int .i64 h3, .int .i64 h4, .int .i64 h5, .int .i64 h6, .int .i64 h7, .int .i64 h8]] W fun e w' => e = .returned (.tuple #[.int .i64 n, .int .i64 t]) ∧ Below W.heap.size W w') := by rw [hn, ht]; exact HA
  have HX := Lib.hid hx
  have HO := Lib.hid ho
  have HB := Lib.hid h
  have HT := Lib.hid ht
  clear HA hx ho h w1 w2 hn ht
  go_enter Try.func49, Try.ntmps49
  go_wp2
  obtain ⟨hb, hhb⟩ : ∃ hb, hb = w.heap.size := ⟨_, rfl⟩
  obtain ⟨W1, hW1⟩ : ∃ W1, W1 = w.alloc (.cells #[.int .i64 h0, .int .i64 h1, .int .i64 h2, .int .i64 h3, .int .i64 h4, .int .i64 h5, .int .i64 h6, .int .i64 h7, .int .i64 h8] 36) := ⟨_, rfl⟩
  have K1 := Lib.hid (show CB W1 g made S T by rw [hW1]; exact HB.out.alloc _)
  have H1 := Lib.hid (show Blk W1 hb 36 #[.int .i64 h0, .int .i64 h1, .int .i64 h2, .int .i64 h3, .int .i64 h4, .int .i64 h5, .int .i64 h6, .int .i64 h7, .int .i64 h8] by rw [hW1, hhb]; exact Blk.new _ _ _)
  have BW1 := Lib.hid (show Below w.heap.size w W1 by rw [hW1]; exact (Below.refl _ w).alloc (Nat.le_refl _) _)
  rw [← hW1, ← hhb]
  have HHB := Lib.hid hhb
  have hgl := K1.out.lt
  have hbl := H1.out.lt
  have hgh : g < w.heap.size := HB.out.lt
  clear hW1 hhb
  obtain ⟨c0, c1, c2, c3, c4, c5, c6, c7, c8, c9, c10, c11, c12, c13⟩ := K1.out.cells hi HO.out
  rw [← HX.out] at c0 c1 c2
  obtain ⟨q0, q1, q2, q3, q4, q5, q6, q7, q8⟩ := H1.out.nine
  have x0 : ∀ e : ExtW W1, e.v.cell? ⟨g, o, none⟩ = some (.int .i64 x.hops) := fun e => e.cell c0 hgl
  have x1 : ∀ e : ExtW W1, e.v.cell? ⟨g, o + 1, none⟩ = some (.int .i64 x.ident) := fun e => e.cell c1 hgl
  have x2 : ∀ e : ExtW W1, e.v.cell? ⟨g, o + 2, none⟩ = some (.int .i64 x.time) := fun e => e.cell c2 hgl
  have y0 : ∀ e : ExtW W1, e.v.cell? ⟨hb, 0, none⟩ = some (.int .i64 h0) := fun e => e.cell q0 hbl
  have y1 : ∀ e : ExtW W1, e.v.cell? ⟨hb, 1, none⟩ = some (.int .i64 h1) := fun e => e.cell q1 hbl
  have y2 : ∀ e : ExtW W1, e.v.cell? ⟨hb, 2, none⟩ = some (.int .i64 h2) := fun e => e.cell q2 hbl
  have y3 : ∀ e : ExtW W1, e.v.cell? ⟨hb, 3, none⟩ = some (.int .i64 h3) := fun e => e.cell q3 hbl
  have y4 : ∀ e : ExtW W1, e.v.cell? ⟨hb, 4, none⟩ = some (.int .i64 h4) := fun e => e.cell q4 hbl
  have y5 : ∀ e : ExtW W1, e.v.cell? ⟨hb, 5, none⟩ = some (.int .i64 h5) := fun e => e.cell q5 hbl
  have y6 : ∀ e : ExtW W1, e.v.cell? ⟨hb, 6, none⟩ = some (.int .i64 h6) := fun e => e.cell q6 hbl
  have y7 : ∀ e : ExtW W1, e.v.cell? ⟨hb, 7, none⟩ = some (.int .i64 h7) := fun e => e.cell q7 hbl
  have y8 : ∀ e : ExtW W1, e.v.cell? ⟨hb, 8, none⟩ = some (.int .i64 h8) := fun e => e.cell q8 hbl
  clear c0 c1 c2 c3 c4 c5 c6 c7 c8 c9 c10 c11 c12 c13 q0 q1 q2 q3 q4 q5 q6 q7 q8
  refine wp_region_ext (by kernel_rfl) (by kernel_rfl) ?_
  repeat (go_big_quiet_step (exact Calls.ext_of (hA2.out _)))
  refine wpQuiet_nil ?_
  rintro _ ⟨ex, rfl⟩
  have K2 := Lib.hid (K1.out.below ex.h hgl)
  obtain ⟨d0, d1, d2, d3, d4, d5, d6, d7, d8, d9, d10, d11, d12, d13⟩ := K2.out.cells hi HO.out
  rw [← HX.out] at d10
  clear d0 d1 d2 d3 d4 d5 d6 d7 d8 d9 d11 d12 d13 x0 x1 x2 y0 y1 y2 y3 y4 y5 y6 y7 y8
  have B2 := Lib.hid (below_step BW1.out ex.h)
  go_wp2
  go_ret
  exact ⟨_, _, rfl, Nat.le_refl _, lit_bytes [x.gen, n] (Blk.new ex.v 5 #[.int .u8 x.gen, .int .u8 n]) (by simp), K2.out.alloc _, keep_of_below (below_new B2.out _)⟩
set_option maxRecDepth 100000 in
set_option maxHeartbeats 3200000 in
theorem delta_ok (g i o : Nat) (made : Bool) (S : Nat → Rx) (T : Int) (h0 h1 h2 h3 h4 h5 h6 h7 h8 : Int) (Z : Value) (hi : i < 16) (ho : o = 1 + 14 * i) (hok : (S i).Ok) (b5 : 0 ≤ h5 ∧ h5 < 256) (b6 : 0 ≤ h6 ∧ h6 < 65536) (b7 : 0 ≤ h7 ∧ h7 < 16777216) (hn1 : 1 ≤ kN (S i) h6) (hn2 : kN (S i) h6 ≤ 255) (ht1 : kT (S i) h7 < 65536) (w : World) (h : CB w g made S T) :
    Calls Try.prog 48 #[.pointer (some ⟨g, o, none⟩), .agg #[.int .i64 h0, .int .i64 h1, .int .i64 h2, .int .i64 h3, .int .i64 h4, .int .i64 h5, .int .i64 h6, .int .i64 h7, .int .i64 h8], Z] w (HOut 5 (fun j => ([(begun (S i) h5 h6 h7 (kT (S i) h7 / kN (S i) h6)).gen, kN (S i) h6, kT (S i) h7 / 256, kT (S i) h7 % 256, h5] : List Int).getD j 0) g made (upd S i (begun (S i) h5 h6 h7 (kT (S i) h7 / kN (S i) h6))) T w) := by
  obtain ⟨x, hx⟩ : ∃ x, x = S i := ⟨_, rfl⟩
  rw [← hx] at hok hn1 hn2 ht1 ⊢
  obtain ⟨oh, oi, ot, og, os⟩ := hok
  have w1 : IntKind.i64.wrap (h6 - x.ident) = h6 - x.ident := IntWalk.i64_in _ (by omega)
  have w2 : IntKind.i64.wrap (h7 - x.time) = h7 - x.time := IntWalk.i64_in _ (by omega)
  have HA := Lib.hid (fun W => apart_ok x.hops x.ident x.time h0 h1 h2 h3 h4 h5 h6 h7 h8 W w1 w2)
  obtain ⟨n, hn⟩ : ∃ n, n = kN x h6 := ⟨_, rfl⟩
  obtain ⟨t, ht⟩ : ∃ t, t = kT x h7 := ⟨_, rfl⟩
  have ht0 : 0 ≤ kT x h7 := by unfold kT; omega
  rw [← hn] at hn1 hn2 ⊢
  rw [← ht] at ht0 ht1 ⊢
  have hA2 : Hid (∀ W : World, Calls Try.prog 72 #[.agg #[.int .i64 x.hops, .int .i64 x.ident, .int .i64 x.time], .agg #[.int .i64 h0, .int .i64 h1, .int .i64 h2, .int .i64 h3, .int .i64 h4, .int .i64 h5, .int .i64 h6, .int .i64 h7, .int .i64 h8]] W fun e w' => e = .returned (.tuple #[.int .i64 n, .int .i64 t]) ∧ Below W.heap.size W w') := by rw [hn, ht]; exact HA
  have HX := Lib.hid hx
  have HO := Lib.hid ho
  have HB := Lib.hid h
  have HT := Lib.hid ht
  have kq : t.tdiv n = t / n := Int.tdiv_eq_ediv_of_nonneg ht0
  have kq0 : 0 ≤ t / n := Int.ediv_nonneg ht0 (by omega)
  have kq1 : t / n ≤ t := Int.ediv_le_self _ ht0
  have kq2 : IntKind.i64.wrap (t / n) = t / n := IntWalk.i64_in _ (by omega)
  have kq3 : (n == 0) = false := by simp; omega
  have kq4 : ¬ n = 0 := by omega
  obtain ⟨q, hq⟩ : ∃ q, q = t / n := ⟨_, rfl⟩
  rw [← hq] at kq kq0 kq1 kq2 ⊢
  have HQ := Lib.hid hq
  have KQ := Lib.hid kq
  have KQ2 := Lib.hid kq2
  have KQ3 := Lib.hid kq3
  have HBG := Lib.hid (fun W hC => begin_ok g i o made S T h0 h1 h2 h3 h4 h5 h6 h7 h8 q hi ho W hC)
  rw [← hx] at HBG
  obtain ⟨x', hx'⟩ : ∃ x', x' = begun x h5 h6 h7 q := ⟨_, rfl⟩
  rw [← hx'] at HBG ⊢
  clear HA hx ho h w1 w2 hn ht hq kq kq2 kq3 hx'
  go_enter Try.func48, Try.ntmps48
  go_wp2
  obtain ⟨hb, hhb⟩ : ∃ hb, hb = w.heap.size := ⟨_, rfl⟩
  obtain ⟨W1, hW1⟩ : ∃ W1, W1 = w.alloc (.cells #[.int .i64 h0, .int .i64 h1, .int .i64 h2, .int .i64 h3, .int .i64 h4, .int .i64 h5, .int .i64 h6, .int .i64 h7, .int .i64 h8] 36) := ⟨_, rfl⟩
  have K1 := Lib.hid (show CB W1 g made S T by rw [hW1]; exact HB.out.alloc _)
  have H1 := Lib.hid (show Blk W1 hb 36 #[.int .i64 h0, .int .i64 h1, .int .i64 h2, .int .i64 h3, .int .i64 h4, .int .i64 h5, .int .i64 h6, .int .i64 h7, .int .i64 h8] by rw [hW1, hhb]; exact Blk.new _ _ _)
  have BW1 := Lib.hid (show Below w.heap.size w W1 by rw [hW1]; exact (Below.refl _ w).alloc (Nat.le_refl _) _)
  rw [← hW1, ← hhb]
  have HHB := Lib.hid hhb
  have hgl := K1.out.lt
  have hbl := H1.out.lt
  have hgh : g < w.heap.size := HB.out.lt
  clear hW1 hhb
  obtain ⟨c0, c1, c2, c3, c4, c5, c6, c7, c8, c9, c10, c11, c12, c13⟩ := K1.out.cells hi HO.out
  rw [← HX.out] at c0 c1 c2
  obtain ⟨q0, q1, q2, q3, q4, q5, q6, q7, q8⟩ := H1.out.nine
  have x0 : ∀ e : ExtW W1, e.v.cell? ⟨g, o, none⟩ = some (.int .i64 x.hops) := fun e => e.cell c0 hgl
  have x1 : ∀ e : ExtW W1, e.v.cell? ⟨g, o + 1, none⟩ = some (.int .i64 x.ident) := fun e => e.cell c1 hgl
  have x2 : ∀ e : ExtW W1, e.v.cell? ⟨g, o + 2, none⟩ = some (.int .i64 x.time) := fun e => e.cell c2 hgl
  have y0 : ∀ e : ExtW W1, e.v.cell? ⟨hb, 0, none⟩ = some (.int .i64 h0) := fun e => e.cell q0 hbl
  have y1 : ∀ e : ExtW W1, e.v.cell? ⟨hb, 1, none⟩ = some (.int .i64 h1) := fun e => e.cell q1 hbl
  have y2 : ∀ e : ExtW W1, e.v.cell? ⟨hb, 2, none⟩ = some (.int .i64 h2) := fun e => e.cell q2 hbl
  have y3 : ∀ e : ExtW W1, e.v.cell? ⟨hb, 3, none⟩ = some (.int .i64 h3) := fun e => e.cell q3 hbl
  have y4 : ∀ e : ExtW W1, e.v.cell? ⟨hb, 4, none⟩ = some (.int .i64 h4) := fun e => e.cell q4 hbl
  have y5 : ∀ e : ExtW W1, e.v.cell? ⟨hb, 5, none⟩ = some (.int .i64 h5) := fun e => e.cell q5 hbl
  have y6 : ∀ e : ExtW W1, e.v.cell? ⟨hb, 6, none⟩ = some (.int .i64 h6) := fun e => e.cell q6 hbl
  have y7 : ∀ e : ExtW W1, e.v.cell? ⟨hb, 7, none⟩ = some (.int .i64 h7) := fun e => e.cell q7 hbl
  have y8 : ∀ e : ExtW W1, e.v.cell? ⟨hb, 8, none⟩ = some (.int .i64 h8) := fun e => e.cell q8 hbl
  clear c0 c1 c2 c3 c4 c5 c6 c7 c8 c9 c10 c11 c12 c13 q0 q1 q2 q3 q4 q5 q6 q7 q8
  refine wp_region_ext (by kernel_rfl) (by kernel_rfl) ?_
  repeat (go_big_quiet_step (exact Calls.ext_of (hA2.out _)))
  refine wpQuiet_nil ?_
  rintro _ ⟨ex, rfl⟩
  obtain ⟨W2, hW2⟩ : ∃ W2, W2 = ex.v := ⟨_, rfl⟩
  have hbx := ex.h
  rw [← hW2] at hbx ⊢
  have K2 := Lib.hid (K1.out.below hbx hgl)
  have H2 := Lib.hid (H1.out.below hbx hbl)
  have B2 := Lib.hid (below_step BW1.out hbx)
  have hne1 : hb ≠ g := by have := HHB.out; omega
  clear hW2 hbx ex x0 x1 x2 y0 y1 y2 y3 y4 y5 y6 y7 y8
  obtain ⟨r0, r1, r2, r3, r4, r5, r6, r7, r8⟩ := H2.out.nine
  have kq := KQ.out
  have kq2 := KQ2.out
  have kq3 := KQ3.out
  go_wp2
  go_region_held3 (fun w' => w'.cell? ⟨hb, 0, none⟩ = some (.int .i64 h0) ∧ w'.cell? ⟨hb, 1, none⟩ = some (.int .i64 h1) ∧ w'.cell? ⟨hb, 2, none⟩ = some (.int .i64 h2) ∧ w'.cell? ⟨hb, 3, none⟩ = some (.int .i64 h3) ∧ w'.cell? ⟨hb, 4, none⟩ = some (.int .i64 h4) ∧ w'.cell? ⟨hb, 5, none⟩ = some (.int .i64 h5) ∧ w'.cell? ⟨hb, 6, none⟩ = some (.int .i64 h6) ∧ w'.cell? ⟨hb, 7, none⟩ = some (.int .i64 h7) ∧ w'.cell? ⟨hb, 8, none⟩ = some (.int .i64 h8)) (go_keep) ((go_at_call 73; refine (HBG.out _ K2.out.drew).mono ?_; rintro e w3 ⟨rfl, k3, e3⟩; have K3 := Lib.hid k3; have E3 := Lib.hid ((keep_of_below B2.out.drew).trans e3); have H3 := Lib.hid (e3.blk H2.out.drew hne1); clear k3 e3; obtain ⟨s0, s1, s2, s3, s4, s5, s6, s7, s8⟩ := H3.out.nine))
  clear kq kq2 kq3 r0 r1 r2 r3 r4 r5 r6 r7 r8
  obtain ⟨d0, d1, d2, d3, d4, d5, d6, d7, d8, d9, d10, d11, d12, d13⟩ := K3.out.cellsU hi HO.out
  clear d0 d1 d2 d3 d4 d5 d6 d7 d8 d9 d11 d12 d13 s0 s1 s2 s3 s4 s6 s7 s8
  have v1 : IntKind.u8.wrap n = n := by rw [IntKind.wrap_u8]; omega
  have v2 : IntKind.u8.wrap (t / 256) = t / 256 := by rw [IntKind.wrap_u8]; omega
  have v3 : IntKind.u8.wrap t = t % 256 := by rw [IntKind.wrap_u8]
  have v4 : IntKind.u8.wrap h5 = h5 := by rw [IntKind.wrap_u8]; omega
  go_wp2
  refine wp_region_still_tail 14 (by kernel_rfl) (by kernel_rfl) ?_
  simp only [List.take_succ_cons, List.take_zero, List.drop_succ_cons, List.drop_zero]
  change wpStill _ _ w3.drew (fun a' => wpList _ _ _ _ a' w3.drew) _ _
  obtain ⟨WD, hWD⟩ : ∃ WD, WD = w3.drew := ⟨_, rfl⟩
  have t10 : WD.cell? ⟨g, o + 10, none⟩ = some (.int .u8 x'.gen) := by rw [hWD]; exact d10
  have t5 : WD.cell? ⟨hb, 5, none⟩ = some (.int .i64 h5) := by rw [hWD]; exact s5
  have KD := Lib.hid (show CB WD g made (upd S i x') T by rw [hWD]; exact K3.out)
  have ED := Lib.hid (show Keep1 g w WD by rw [hWD]; exact grownBy_drew E3.out)
  rw [← hWD]
  clear hWD d10 s5
  repeat still_step
  refine wpStill_nil ?_
  go_wp2
  go_ret
  exact ⟨_, _, rfl, Nat.le_refl _, lit_bytes [x'.gen, n, t / 256, t % 256, h5] (Blk.new WD 5 #[.int .u8 x'.gen, .int .u8 n, .int .u8 (t / 256), .int .u8 (t % 256), .int .u8 h5]) (by simp), KD.out.alloc _, ED.out.trans (World.grownBy_alloc _ _ _)⟩
/-- a context behind full -/
def fulled (c : Rx) (h0 h1 h2 h3 h4 h5 h6 h7 : Int) : Rx := { begun c h5 h6 h7 0 with used := true, f0 := h0, f1 := h1, f2 := h2, f3 := h3, f4 := h4, need := false }
theorem slice18 (lb lo n c : Nat) (h18 : 18 ≤ c) : ∀ w, (Instr.slice 24 (.slice (some ⟨lb, lo, none⟩) n c) none (some (.int .i64 18)) (some (.int .i64 18))).run Try.prog w = .ok (.slice (some ⟨lb, lo, none⟩) 18 18) w := fun w => by
  have hm0 : (18 : Int) ≤ (c : Int) := by omega
  simp [go_sem, hm0]
theorem one_news (x : Value) (v : Nat → Value) (m : Nat) : ∀ j, j < 1 + m → ([x] ++ (List.range m).map v)[j]? = some (if j = 0 then x else v (j - 1)) := by
  intro j hj
  by_cases h0 : j = 0
  · subst h0; rfl
  · rw [if_neg h0, List.getElem?_append_right (by simp; omega)]
    have : j - 1 < m := by omega
    simp [this]

set_option maxRecDepth 100000 in
set_option maxHeartbeats 3200000 in
theorem full_ok (g i o : Nat) (made : Bool) (S : Nat → Rx) (T : Int) (h0 h1 h2 h3 h4 h5 h6 h7 h8 : Int) (lb lo nz c : Nat) (z : Nat → Int) (hi : i < 16) (ho : o = 1 + 14 * i) (h18 : 18 ≤ nz) (hnc : nz ≤ c) (w : World) (h : CB w g made S T) (hr : Row w w.heap.size (some ⟨lb, lo, none⟩) nz (fun j => .int .u8 (z j))) (hlg : lb ≠ g) :
    Calls Try.prog 47 #[.pointer (some ⟨g, o, none⟩), .agg #[.int .i64 h0, .int .i64 h1, .int .i64 h2, .int .i64 h3, .int .i64 h4, .int .i64 h5, .int .i64 h6, .int .i64 h7, .int .i64 h8], .slice (some ⟨lb, lo, none⟩) nz c] w (HOut 19 (fun j => if j = 0 then (fulled (S i) h0 h1 h2 h3 h4 h5 h6 h7).gen else z (j - 1)) g made (upd S i (fulled (S i) h0 h1 h2 h3 h4 h5 h6 h7)) T w) := by
  obtain ⟨i0, hi0, hz0, hz1, hz2⟩ := info_parts Try.infoByte
  have HBG := Lib.hid (fun W hC => begin_ok g i o made S T h0 h1 h2 h3 h4 h5 h6 h7 h8 0 hi ho W hC)
  have HFU := Lib.hid (show fulled (S i) h0 h1 h2 h3 h4 h5 h6 h7 = { begun (S i) h5 h6 h7 0 with used := true, f0 := h0, f1 := h1, f2 := h2, f3 := h3, f4 := h4, need := false } from rfl)
  obtain ⟨x', hx'⟩ : ∃ x', x' = begun (S i) h5 h6 h7 0 := ⟨_, rfl⟩
  obtain ⟨y', hy'⟩ : ∃ y', y' = fulled (S i) h0 h1 h2 h3 h4 h5 h6 h7 := ⟨_, rfl⟩
  rw [← hx'] at HBG HFU
  rw [← hy'] at HFU ⊢
  have hsl := slice18 lb lo nz c (by omega)
  have HO := Lib.hid ho
  have HB := Lib.hid h
  have HR := Lib.hid hr
  clear ho h hr hx' hy'
  go_enter Try.func47, Try.ntmps47
  go_wp2_with (first
    | (go_at_call 73; refine (HBG.out _ (HB.out.alloc _)).mono ?_; rintro e w2 ⟨rfl, k2, e2⟩; have K2 := Lib.hid k2; have E2 := Lib.hid ((keep_of_below ((Below.refl _ w).alloc (Nat.le_refl _) _)).trans e2); have hne : w.heap.size ≠ g := (by have := HB.out.lt; omega); have H2 := Lib.hid (e2.blk (Blk.new w 36 #[.int .i64 h0, .int .i64 h1, .int .i64 h2, .int .i64 h3, .int .i64 h4, .int .i64 h5, .int .i64 h6, .int .i64 h7, .int .i64 h8]) hne); clear k2 e2; obtain ⟨q0, q1, q2, q3, q4, q5, q6, q7, q8⟩ := H2.out.nine)
    | (go_at_call 45; refine (static_ok h0 h1 h2 h3 h4 h5 h6 h7 h8 _).mono ?_; rintro e w3 ⟨rfl, b3⟩; have K3 := Lib.hid (K2.out.below b3 K2.out.lt); have E3 := Lib.hid (E2.out.trans (keep_of_below b3)); clear b3; obtain ⟨d0, d1, d2, d3, d4, d5, d6, d7, d8, d9, d10, d11, d12, d13⟩ := K3.out.cellsU hi HO.out; have z3 := K3.out.fr (o + 3); have z4 := K3.out.fr (o + 4); have z5 := K3.out.fr (o + 5); have z6 := K3.out.fr (o + 6); have z7 := K3.out.fr (o + 7); have z8 := K3.out.fr (o + 8); have z12 := K3.out.fr (o + 12)))
  have hlt3 := K3.out.lt
  obtain ⟨W4, hW4⟩ : ∃ W4, W4 = ((((((w3.setCell ⟨g, o + 3, none⟩ (.bool true)).setCell ⟨g, o + 4, none⟩ (.int .i64 h0)).setCell ⟨g, o + 4 + 1, none⟩ (.int .i64 h1)).setCell ⟨g, o + 4 + 2, none⟩ (.int .i64 h2)).setCell ⟨g, o + 4 + 3, none⟩ (.int .i64 h3)).setCell ⟨g, o + 4 + 4, none⟩ (.int .i64 h4)).setCell ⟨g, o + 12, none⟩ (.bool false) := ⟨_, rfl⟩
  have K4 := Lib.hid (show CB W4 g made (upd S i y') T by rw [hW4]; exact cb_to ((((((((K3.out.used_ hi HO.out true).f0_ hi HO.out h0).f1_ hi HO.out h1).f2_ hi HO.out h2).f3_ hi HO.out h3).f4_ hi HO.out h4).need_ hi HO.out false)) HFU.out.symm)
  have E4 := Lib.hid (show Keep1 g w W4 by rw [hW4]; exact grownBy_set (grownBy_set (grownBy_set (grownBy_set (grownBy_set (grownBy_set (grownBy_set E3.out _ _) _ _) _ _) _ _) _ _) _ _) _ _)
  rw [← hW4]
  clear hW4 d0 d1 d2 d3 d4 d5 d6 d7 d8 d9 d10 d11 d12 d13 z3 z4 z5 z6 z7 z8 z12 q0 q1 q2 q3 q4 q5 q6 q7 q8
  have R4 := Lib.hid ((E4.out.row HR.out (Nat.le_refl _) (fun a e => by cases e; exact hlg)).take h18 |>.more E4.out.size)
  obtain ⟨d0, d1, d2, d3, d4, d5, d6, d7, d8, d9, d10, d11, d12, d13⟩ := K4.out.cellsU hi HO.out
  have hg4 := K4.out.lt
  go_region_held3 (fun w' => w'.cell? ⟨g, o + 10, none⟩ = some (.int .u8 y'.gen)) (go_keep) ((refine step_append_lies _ (by rfl) _ _ 24 (by rfl) W4.heap.size 5 i0 (.int .u8 0) 1 1 Try.underlying24 hi0 hz0 hz1 hz2 rfl (by decide) _ 1 [.int .u8 y'.gen] (by rfl) (World.ownsRow_lit (base := W4.heap.size) W4 #[.int .u8 y'.gen] 1 (Nat.le_refl _) (by decide) rfl).drew ⟨lb, lo, none⟩ 18 18 ((List.range 18).map (fun j => .int .u8 (z j))) (by rfl) (by simp) (row_cells (R4.out.alloc (Nat.le_refl _) _).drew rfl) (by simp; intro a _; rfl) (by decide) (by decide) (by decide) (by simp) _ rfl ?_; intro g6 c6 w6 hown6 hg6 hat6 hlt6; have K6 := Lib.hid (show CB w6 g made (upd S i y') T from Blk.grown (Blk.drew (Blk.alloc K4.out _)) hg6 (by simp [Value.ownBlock]; omega)); have p10 := (K6.out.cellsU hi HO.out).2.2.2.2.2.2.2.2.2.2.1; have HO6 := Lib.hid hown6; have HG6 := Lib.hid hg6; clear hown6 hg6))
  go_wp2
  go_ret
  obtain ⟨A, cap, hv, hc, _, _, hr6⟩ := own_any (f := fun j => if j = 0 then .int .u8 y'.gen else .int .u8 (z (j - 1))) HO6.out (one_news _ _ _)
  cases hv
  refine ⟨_, _, rfl, hc, hr6.congr (fun j hj => ?_), K6.out, ?_⟩
  · by_cases h0 : j = 0
    · simp [h0]
    · simp [h0]
  · exact keep_own (grownBy_drew (E4.out.trans (World.grownBy_alloc _ _ _))) HG6.out (by have := E4.out.size; simp; omega)
end Go.Proofs.Ytofaghpflmeblaa
namespace Go.Proofs.Ytofaghpflmeblaa
open Go.RowKit

theorem zero_size (n : Nat) : (Builtin.zeroCells (Value.int .u8 0).cells n).size = n := by
  rw [size_zeroCells]; simp [Value.cells]

set_option maxRecDepth 100000 in
set_option maxHeartbeats 1600000 in
theorem grow_nil (n : Nat) (h0 : 0 < n) (hn : n ≤ 1000000) (w : World) :
    Calls Try.prog 94 #[.slice none 0 0, .int .i64 (n : Int)] w fun e w' => ∃ v, e = .returned v ∧ w'.ownsRow w.heap.size 5 1 v 0 [] ∧ Below w.heap.size w w' := by
  obtain ⟨i0, hi0, hz0, hz1, hz2⟩ := info_parts Try.infoByte
  have hrz : Hid (∀ ty, (Builtin.append_ #[24, 3] ty #[.slice none 0 0, .int .i64 (n : Int)]).run Try.prog w =
      .ok (.slice (some ⟨w.heap.size, 0, none⟩) n (grownCap w n 0 5)) (w.drew.alloc (.cells (Builtin.zeroCells (Value.int .u8 0).cells n ++ Builtin.zeroCells (Value.int .u8 0).cells (grownCap w n 0 5 - n)) 5))) := Lib.hid fun ty =>
    Lib.run_append_nil_zeros w 24 3 ty 5 i0 (.int .u8 0) .i64 .i64 Try.underlying24 Try.underlying3 hi0 hz0 n h0 (by rw [hz1]; decide) (by omega) (by rw [hz2]; omega)
  have hG := grownCap_ge w n 0 5
  have hG2 := grownCap_le_maxLen w n 0 5 (by unfold maxLen; omega)
  obtain ⟨G, hGe⟩ : ∃ G, G = grownCap w n 0 5 := ⟨_, rfl⟩
  rw [← hGe] at hrz hG hG2
  obtain ⟨cs, hcs⟩ : ∃ cs, cs = Builtin.zeroCells (Value.int .u8 0).cells n ++ Builtin.zeroCells (Value.int .u8 0).cells (G - n) := ⟨_, rfl⟩
  rw [← hcs] at hrz
  have hsz : cs.size = G * 1 := by rw [hcs, Array.size_append, zero_size, zero_size]; omega
  have HSZ := Lib.hid hsz
  have HG2 := Lib.hid hG2
  have hn1 : ¬ ((n : Int) < 0) := by omega
  have hn2 : (0 : Int) < (n : Int) := by omega
  clear hGe hcs hsz hG2
  go_enter Try.func94, Try.ntmps94
  go_wp2_with (at_builtin; refine Lib.wpList_append_run _ rfl _ _ _ _ rfl _ _ rfl rfl _ _ (hrz.out _) ?_)
  go_ret
  exact ⟨_, rfl, World.ownsRow_made (base := w.heap.size) w.drew cs G (Nat.le_refl _) HG2.out HSZ.out, ((Below.refl _ w).drew).alloc (Nat.le_refl _) _⟩

def tot (n : Nat → Nat) : Nat → Nat
  | 0 => 0
  | k + 1 => tot n k + n k
def catI (n : Nat → Nat) (z : Nat → Nat → Int) : Nat → List Value
  | 0 => []
  | k + 1 => catI n z k ++ (List.range (n k)).map (fun j => .int .u8 (z k j))
theorem tot_mono (n : Nat → Nat) (a : Nat) : ∀ d, tot n a ≤ tot n (a + d)
  | 0 => Nat.le_refl _
  | d + 1 => Nat.le_trans (tot_mono n a d) (Nat.le_add_right _ _)

set_option maxRecDepth 100000 in
set_option maxHeartbeats 1600000 in
theorem concat_ok (m sb : Nat) (A : Nat → Option Addr) (n c : Nat → Nat) (z : Nat → Nat → Int) (hm : m ≤ 100) (h0 : 0 < tot n m) (hN : tot n m ≤ 1000000) (w : World) (hsb : sb < w.heap.size)
    (hc : ∀ k, k < m → w.cell? ⟨sb, k, none⟩ = some (.slice (A k) (n k) (c k))) (hr : ∀ k, k < m → Row w w.heap.size (A k) (n k) (fun j => .int .u8 (z k j))) :
    Calls Try.prog 69 #[.slice (some ⟨sb, 0, none⟩) m m] w fun e w' => ∃ v, e = .returned v ∧ w'.ownsRow w.heap.size 5 1 v (tot n m) (catI n z m) ∧ Below w.heap.size w w' := by
  obtain ⟨i0, hi0, hz0, hz1, hz2⟩ := info_parts Try.infoByte
  have HC := Lib.hid hc
  have HR := Lib.hid hr
  have HT := Lib.hid (fun k d => tot_mono n k d)
  clear hc hr
  go_enter Try.func69, Try.ntmps69
  go_wp2
  go_loop [3, 11] (fun v3 v11 => ∃ k : Nat, k ≤ m ∧ v11 = .int .i64 k ∧ v3 = .int .i64 (tot n k : Nat)) (fun _ v => m - (intOf v).toNat)
  case atStart => exact ⟨0, Nat.zero_le _, rfl, rfl⟩
  case round =>
    obtain ⟨k, hk, rfl, rfl⟩ := hrel
    by_cases hlt : k < m
    · have hck := HC.out k hlt
      have ht : tot n k + n k ≤ 1000000 := by have := HT.out (k + 1) (m - (k + 1)); rw [show k + 1 + (m - (k + 1)) = m by omega] at this; exact Nat.le_trans this hN
      obtain ⟨t, htt⟩ : ∃ t, t = tot n k := ⟨_, rfl⟩
      have HTT := Lib.hid (show tot n (k + 1) = t + n k by rw [htt]; rfl)
      rw [← htt] at ht ⊢
      clear htt
      obtain ⟨nk, hnk⟩ : ∃ nk, nk = n k := ⟨_, rfl⟩
      rw [← hnk] at ht hck HTT
      clear hnk
      have hni : ¬ ((t : Int) + (nk : Int) < 0) := by omega
      go_wp2
      go_round
      case rel => exact ⟨k + 1, by omega, by go_num, by rw [HTT.out]; go_num⟩
      case measure => simp [intOf]; omega
    · obtain rfl : k = m := by omega
      have HGN := Lib.hid (fun W => grow_nil (tot n k) h0 hN W)
      obtain ⟨N, hNe⟩ : ∃ N, N = tot n k := ⟨_, rfl⟩
      rw [← hNe] at HGN h0 hN ⊢
      have HNE := Lib.hid hNe
      clear hNe
      go_wp2_with (go_at_call 94; refine (HGN.out _).mono ?_; rintro e w1 ⟨v1, rfl, ho1, b1⟩; have HO1 := Lib.hid ho1; have B1 := Lib.hid b1; clear ho1 b1)
      go_loopw [6, 27] (fun v6 v27 wr => ∃ q : Nat, q ≤ k ∧ v27 = .int .i64 q ∧ wr.ownsRow w.heap.size 5 1 v6 (tot n q) (catI n z q) ∧ Below w.heap.size w wr) (fun _ v _ => k - (intOf v).toNat)
      case atStart => exact ⟨0, Nat.zero_le _, rfl, HO1.out, B1.out⟩
      case round =>
        obtain ⟨q, hq, rfl, hoq, hbq⟩ := hrel
        by_cases hlt2 : q < k
        · have hcq := (hbq.cell (p := ⟨sb, q, none⟩) hsb).trans (HC.out q hlt2)
          have hrq := (HR.out q hlt2).next hbq
          have ht : tot n q + n q ≤ 1000000 := by have := HT.out (q + 1) (k - (q + 1)); rw [show q + 1 + (k - (q + 1)) = k by omega, ← HNE.out] at this; exact Nat.le_trans this hN
          have HOQ := Lib.hid hoq
          have HBQ := Lib.hid hbq
          have HRQ := Lib.hid hrq
          clear hoq hbq hrq
          go_wp2_with (at_builtin; refine wpList_append_src _ rfl _ _ 24 rfl w.heap.size 5 i0 (.int .u8 0) 1 Try.underlying24 hi0 hz0 hz1 hz2 rfl _ _ _ rfl HOQ.out wr.heap.size (A q) (n q) (c q) (fun j => .int .u8 (z q j)) rfl HRQ.out (fun _ => rfl) (by unfold maxLen; omega) (by omega) HBQ.out.size ?_; intro v2 w2 hown2 hg2 _; have HO2 := Lib.hid hown2; have B2 := Lib.hid (HBQ.out.grown hg2 HBQ.out.size (fun k hk => (HOQ.out.lt k hk).1)); clear hown2 hg2)
          go_roundw
          case rel => exact ⟨q + 1, by omega, by go_num, HO2.out, B2.out⟩
          case measure => simp [intOf]; omega
        · obtain rfl : q = k := by omega
          have HOQ := Lib.hid hoq
          have HBQ := Lib.hid hbq
          clear hoq hbq
          go_wp2
          go_ret
          exact ⟨_, rfl, by rw [HNE.out]; exact HOQ.out, HBQ.out⟩
def catY (n : Nat → Nat) (z : Nat → Nat → Int) : Nat → Nat → Int
  | 0, _ => 0
  | k + 1, j => if j < tot n k then catY n z k j else z k (j - tot n k)
theorem catI_len (n : Nat → Nat) (z : Nat → Nat → Int) : ∀ k, (catI n z k).length = tot n k
  | 0 => rfl
  | k + 1 => by show (catI n z k ++ _).length = tot n k + n k; rw [List.length_append, catI_len n z k]; simp
theorem catI_at (n : Nat → Nat) (z : Nat → Nat → Int) : ∀ k j, j < tot n k → (catI n z k)[j]? = some (.int .u8 (catY n z k j))
  | 0, j, h => absurd h (by simp [tot])
  | k + 1, j, h => by
    show (catI n z k ++ _)[j]? = some (.int .u8 (if j < tot n k then _ else _))
    by_cases hj : j < tot n k
    · rw [if_pos hj, List.getElem?_append_left (by rw [catI_len]; exact hj)]
      exact catI_at n z k j hj
    · rw [if_neg hj, List.getElem?_append_right (by rw [catI_len]; omega), catI_len]
      have h2 : j - tot n k < n k := by have : j < tot n k + n k := h; omega
      simp [h2]
/-- what joined hands back -/
def joinY (b : Int) (y : Nat → Int) (j : Nat) : Int := if j = 0 then b else y (j - 1)

set_option maxRecDepth 100000 in
set_option maxHeartbeats 1600000 in
theorem joined_ok (b : Int) (m sb : Nat) (A : Nat → Option Addr) (n c : Nat → Nat) (z : Nat → Nat → Int) (hm : m ≤ 100) (h0 : 0 < tot n m) (hN : tot n m ≤ 1000000) (w : World) (hsb : sb < w.heap.size)
    (hc : ∀ k, k < m → w.cell? ⟨sb, k, none⟩ = some (.slice (A k) (n k) (c k))) (hr : ∀ k, k < m → Row w w.heap.size (A k) (n k) (fun j => .int .u8 (z k j))) :
    Calls Try.prog 43 #[.int .u8 b, .slice (some ⟨sb, 0, none⟩) m m] w fun e w' => ∃ B d, e = .returned (.slice B (1 + tot n m) d) ∧ 1 + tot n m ≤ d ∧ Fresh w.heap.size B ∧ Row w' w'.heap.size B (1 + tot n m) (fun j => .int .u8 (joinY b (catY n z m) j)) ∧ Below w.heap.size w w' := by
  obtain ⟨i0, hi0, hz0, hz1, hz2⟩ := info_parts Try.infoByte
  have HC := Lib.hid (fun o : Obj => concat_ok m sb A n c z hm h0 hN (w.alloc o) (by simp; omega) (fun k hk => (World.cell?_alloc_lt w o ⟨sb, k, none⟩ hsb).trans (hc k hk)) (fun k hk => row_new (hr k hk) o))
  have HAT := Lib.hid (catI_at n z m)
  obtain ⟨N, hNe⟩ : ∃ N, N = tot n m := ⟨_, rfl⟩
  obtain ⟨Y, hY⟩ : ∃ Y, Y = catY n z m := ⟨_, rfl⟩
  rw [← hNe, ← hY] at HAT
  rw [← hNe] at HC hN
  rw [← hNe, ← hY]
  clear hc hr h0 hNe hY
  go_enter Try.func43, Try.ntmps43
  go_wp2_with (first
    | (go_at_call 69; refine (HC.out _).mono ?_; rintro e w2 ⟨v2, rfl, ho2, b2⟩; obtain ⟨A2, c2, hv2, _, _, _, hr2⟩ := own_any (f := fun j => .int .u8 (Y j)) ho2 HAT.out; subst hv2; have HR2 := Lib.hid hr2; have B2 := Lib.hid (((Below.refl _ w).alloc (Nat.le_refl _) _).trans (b2.mono (by simp)) : Below w.heap.size w w2); have OW := Lib.hid (own_below (World.ownsRow_lit (base := w.heap.size) (e := 5) (size := 1) w #[.int .u8 b] 1 (Nat.le_refl _) (by decide) rfl) b2); clear ho2 hr2 b2)
    | (at_builtin; refine wpList_append_src _ rfl _ _ 24 rfl w.heap.size 5 i0 (.int .u8 0) 1 Try.underlying24 hi0 hz0 hz1 hz2 rfl _ 1 _ rfl OW.out w2.heap.size A2 N c2 (fun j => .int .u8 (Y j)) rfl HR2.out (fun _ => rfl) (by unfold maxLen; omega) (by omega) B2.out.size ?_; intro v3 w3 hown3 hg3 _; have B3 := Lib.hid (B2.out.grown hg3 B2.out.size (fun k hk => (OW.out.lt k hk).1)); obtain ⟨A3, c3, hv3, hc3, _, hf3, hr3⟩ := own_any (f := fun j => .int .u8 (joinY b Y j)) hown3 (fun j hj => (one_news _ _ _ j hj).trans (by unfold joinY; split <;> rfl)); subst hv3; have HR3 := Lib.hid hr3; have HC3 := Lib.hid hc3; have HF3 := Lib.hid hf3; clear hown3 hg3 hr3 hc3 hf3))
  go_ret
  exact ⟨_, _, rfl, HC3.out, HF3.out, HR3.out, B3.out⟩
end Go.Proofs.Ytofaghpflmeblaa
namespace Go.Proofs.Ytofaghpflmeblaa
open Go.RowKit

/-- what find makes of a context -/
def fv (f0 f1 f2 f3 f4 : Int) (x : Rx) : Int := if x.used && sameFlow x.f0 x.f1 x.f2 x.f3 x.f4 f0 f1 f2 f3 f4 then -2 else if x.used then x.turn else -1
/-- the first place of the least value among the first k -/
def bestI (v : Nat → Int) : Nat → Nat
  | 0 => 0
  | k + 1 => if v k < v (bestI v k) then k else bestI v k
theorem best_le (v : Nat → Int) : ∀ k, bestI v k ≤ k
  | 0 => Nat.le_refl _
  | k + 1 => by
    unfold bestI
    have := best_le v k
    split <;> omega

set_option maxRecDepth 100000 in
set_option maxHeartbeats 1600000 in
theorem findf_ok (x : Rx) (f0 f1 f2 f3 f4 : Int) (fb : Nat) (w : World) (hB : Blk w fb 54 #[.int .i64 f0, .int .i64 f1, .int .i64 f2, .int .i64 f3, .int .i64 f4]) :
    Calls Try.prog 71 #[.agg #[.int .i64 x.hops, .int .i64 x.ident, .int .i64 x.time, .bool x.used, .int .i64 x.f0, .int .i64 x.f1, .int .i64 x.f2, .int .i64 x.f3, .int .i64 x.f4, .bool x.began, .int .u8 x.gen, .int .i64 x.step, .bool x.need, .int .i64 x.turn], .pointer (some ⟨fb, 0, none⟩)] w fun e w' => e = .returned (.int .i64 (fv f0 f1 f2 f3 f4 x)) ∧ Below w.heap.size w w' := by
  obtain ⟨b0, b1, b2, b3, b4⟩ := hB.five
  have hlt := hB.lt
  have heq := flow_eql x.f0 x.f1 x.f2 x.f3 x.f4 f0 f1 f2 f3 f4
  obtain ⟨r, hr⟩ : ∃ r, r = fv f0 f1 f2 f3 f4 x := ⟨_, rfl⟩
  rw [← hr]
  unfold fv at hr
  obtain ⟨sf, hsf⟩ : ∃ sf, sf = sameFlow x.f0 x.f1 x.f2 x.f3 x.f4 f0 f1 f2 f3 f4 := ⟨_, rfl⟩
  rw [← hsf] at heq hr
  obtain ⟨u, hu⟩ : ∃ u, u = x.used := ⟨_, rfl⟩
  rw [← hu] at hr ⊢
  clear hsf hB hu
  have HR := Lib.hid hr
  clear hr
  cases u
  · have hr1 : r = -1 := HR.out
    subst hr1
    go_enter Try.func71, Try.ntmps71
    go_wp2
    go_ret
    exact ⟨rfl, (Below.refl _ w).alloc (Nat.le_refl _) _⟩
  · cases sf
    · have hr1 : r = x.turn := HR.out
      subst hr1
      go_enter Try.func71, Try.ntmps71
      go_wp2
      go_ret
      exact ⟨rfl, (Below.refl _ w).alloc (Nat.le_refl _) _⟩
    · have hr1 : r = -2 := HR.out
      subst hr1
      go_enter Try.func71, Try.ntmps71
      go_wp2
      go_ret
      exact ⟨rfl, (Below.refl _ w).alloc (Nat.le_refl _) _⟩

set_option maxRecDepth 100000 in
set_option maxHeartbeats 3200000 in
theorem best_ok (g fb : Nat) (made : Bool) (S : Nat → Rx) (T : Int) (f0 f1 f2 f3 f4 : Int) (w : World) (h : CB w g made S T) (hB : Blk w fb 54 #[.int .i64 f0, .int .i64 f1, .int .i64 f2, .int .i64 f3, .int .i64 f4]) :
    Calls Try.prog 70 #[.slice (some ⟨g, 1, none⟩) 16 16, .func (.func 71) #[] #[.pointer (some ⟨fb, 0, none⟩)]] w fun e w' => e = .returned (.int .i64 (bestI (fun k => fv f0 f1 f2 f3 f4 (S k)) 16 : Nat)) ∧ Below w.heap.size w w' := by
  have HB := Lib.hid h
  have HF := Lib.hid hB
  have hgl := h.lt
  have hfl := hB.lt
  clear h hB
  obtain ⟨v, hv⟩ : ∃ v, v = fun k => fv f0 f1 f2 f3 f4 (S k) := ⟨_, rfl⟩
  rw [← hv]
  have HV := Lib.hid (fun k => (congrFun hv k : v k = fv f0 f1 f2 f3 f4 (S k)))
  clear hv
  go_enter Try.func70, Try.ntmps70
  go_wp2
  go_loopw [4, 9] (fun v4 v9 wr => ∃ k : Nat, k ≤ 16 ∧ v9 = .int .i64 k ∧ v4 = .int .i64 (bestI v k : Nat) ∧ Below w.heap.size w wr) (fun _ v _ => 16 - (intOf v).toNat)
  case atStart => exact ⟨0, by decide, rfl, rfl, Below.refl _ _⟩
  case round =>
    obtain ⟨k, hk, rfl, rfl, hb⟩ := hrel
    by_cases hlt : k < 16
    · have hbk := best_le v k
      obtain ⟨q, hq⟩ : ∃ q, q = bestI v k := ⟨_, rfl⟩
      have HQ := Lib.hid hq
      rw [← hq] at hbk ⊢
      have hq16 : q < 16 := by omega
      have KR := Lib.hid (HB.out.below hb hgl)
      have FR := Lib.hid (HF.out.below hb hfl)
      have BR := Lib.hid hb
      have k0 : (0 : Int) ≤ (k : Int) := by omega
      have k1 : (k : Int) < 16 := by omega
      have q0 : (0 : Int) ≤ (q : Int) := by omega
      have q1 : (q : Int) < 16 := by omega
      obtain ⟨c0, c1, c2, c3, c4, c5, c6, c7, c8, c9, c10, c11, c12, c13⟩ := KR.out.cells (o := 1 + k * 14) hlt (by omega)
      clear hq hb
      go_wp2
      obtain ⟨xb, hxb⟩ : ∃ xb, xb = wr.heap.size := ⟨_, rfl⟩
      obtain ⟨W1, hW1⟩ : ∃ W1, W1 = wr.alloc (.cells #[.int .i64 (S k).hops, .int .i64 (S k).ident, .int .i64 (S k).time, .bool (S k).used, .int .i64 (S k).f0, .int .i64 (S k).f1, .int .i64 (S k).f2, .int .i64 (S k).f3, .int .i64 (S k).f4, .bool (S k).began, .int .u8 (S k).gen, .int .i64 (S k).step, .bool (S k).need, .int .i64 (S k).turn] 90) := ⟨_, rfl⟩
      have X1 := Lib.hid (show Blk W1 xb 90 #[.int .i64 (S k).hops, .int .i64 (S k).ident, .int .i64 (S k).time, .bool (S k).used, .int .i64 (S k).f0, .int .i64 (S k).f1, .int .i64 (S k).f2, .int .i64 (S k).f3, .int .i64 (S k).f4, .bool (S k).began, .int .u8 (S k).gen, .int .i64 (S k).step, .bool (S k).need, .int .i64 (S k).turn] by rw [hW1, hxb]; exact Blk.new _ _ _)
      have K1 := Lib.hid (show CB W1 g made S T by rw [hW1]; exact KR.out.alloc _)
      have F1 := Lib.hid (show Blk W1 fb 54 #[.int .i64 f0, .int .i64 f1, .int .i64 f2, .int .i64 f3, .int .i64 f4] by rw [hW1]; exact FR.out.alloc _)
      have B1 := Lib.hid (show Below w.heap.size w W1 by rw [hW1]; exact below_new BR.out _)
      rw [← hW1, ← hxb]
      clear hW1 hxb c0 c1 c2 c3 c4 c5 c6 c7 c8 c9 c10 c11 c12 c13
      have xl := X1.out.lt
      have gl := K1.out.lt
      have fl := F1.out.lt
      obtain ⟨d0, d1, d2, d3, d4, d5, d6, d7, d8, d9, d10, d11, d12, d13⟩ := K1.out.cells (o := 1 + q * 14) hq16 (by omega)
      have x0 : ∀ e : ExtW W1, e.v.cell? ⟨xb, 0, none⟩ = some (.int .i64 (S k).hops) := fun e => e.cell (X1.out.cell 0) xl
      have y0 : ∀ e : ExtW W1, e.v.cell? ⟨g, 1 + q * 14, none⟩ = some (.int .i64 (S q).hops) := fun e => e.cell d0 gl
      have x1 : ∀ e : ExtW W1, e.v.cell? ⟨xb, 1, none⟩ = some (.int .i64 (S k).ident) := fun e => e.cell (X1.out.cell 1) xl
      have y1 : ∀ e : ExtW W1, e.v.cell? ⟨g, 1 + q * 14 + 1, none⟩ = some (.int .i64 (S q).ident) := fun e => e.cell d1 gl
      have x2 : ∀ e : ExtW W1, e.v.cell? ⟨xb, 2, none⟩ = some (.int .i64 (S k).time) := fun e => e.cell (X1.out.cell 2) xl
      have y2 : ∀ e : ExtW W1, e.v.cell? ⟨g, 1 + q * 14 + 2, none⟩ = some (.int .i64 (S q).time) := fun e => e.cell d2 gl
      have x3 : ∀ e : ExtW W1, e.v.cell? ⟨xb, 3, none⟩ = some (.bool (S k).used) := fun e => e.cell (X1.out.cell 3) xl
      have y3 : ∀ e : ExtW W1, e.v.cell? ⟨g, 1 + q * 14 + 3, none⟩ = some (.bool (S q).used) := fun e => e.cell d3 gl
      have x4 : ∀ e : ExtW W1, e.v.cell? ⟨xb, 4, none⟩ = some (.int .i64 (S k).f0) := fun e => e.cell (X1.out.cell 4) xl
      have y4 : ∀ e : ExtW W1, e.v.cell? ⟨g, 1 + q * 14 + 4, none⟩ = some (.int .i64 (S q).f0) := fun e => e.cell d4 gl
      have x5 : ∀ e : ExtW W1, e.v.cell? ⟨xb, 5, none⟩ = some (.int .i64 (S k).f1) := fun e => e.cell (X1.out.cell 5) xl
      have y5 : ∀ e : ExtW W1, e.v.cell? ⟨g, 1 + q * 14 + 5, none⟩ = some (.int .i64 (S q).f1) := fun e => e.cell d5 gl
      have x6 : ∀ e : ExtW W1, e.v.cell? ⟨xb, 6, none⟩ = some (.int .i64 (S k).f2) := fun e => e.cell (X1.out.cell 6) xl
      have y6 : ∀ e : ExtW W1, e.v.cell? ⟨g, 1 + q * 14 + 6, none⟩ = some (.int .i64 (S q).f2) := fun e => e.cell d6 gl
      have x7 : ∀ e : ExtW W1, e.v.cell? ⟨xb, 7, none⟩ = some (.int .i64 (S k).f3) := fun e => e.cell (X1.out.cell 7) xl
      have y7 : ∀ e : ExtW W1, e.v.cell? ⟨g, 1 + q * 14 + 7, none⟩ = some (.int .i64 (S q).f3) := fun e => e.cell d7 gl
      have x8 : ∀ e : ExtW W1, e.v.cell? ⟨xb, 8, none⟩ = some (.int .i64 (S k).f4) := fun e => e.cell (X1.out.cell 8) xl
      have y8 : ∀ e : ExtW W1, e.v.cell? ⟨g, 1 + q * 14 + 8, none⟩ = some (.int .i64 (S q).f4) := fun e => e.cell d8 gl
      have x9 : ∀ e : ExtW W1, e.v.cell? ⟨xb, 9, none⟩ = some (.bool (S k).began) := fun e => e.cell (X1.out.cell 9) xl
      have y9 : ∀ e : ExtW W1, e.v.cell? ⟨g, 1 + q * 14 + 9, none⟩ = some (.bool (S q).began) := fun e => e.cell d9 gl
      have x10 : ∀ e : ExtW W1, e.v.cell? ⟨xb, 10, none⟩ = some (.int .u8 (S k).gen) := fun e => e.cell (X1.out.cell 10) xl
      have y10 : ∀ e : ExtW W1, e.v.cell? ⟨g, 1 + q * 14 + 10, none⟩ = some (.int .u8 (S q).gen) := fun e => e.cell d10 gl
      have x11 : ∀ e : ExtW W1, e.v.cell? ⟨xb, 11, none⟩ = some (.int .i64 (S k).step) := fun e => e.cell (X1.out.cell 11) xl
      have y11 : ∀ e : ExtW W1, e.v.cell? ⟨g, 1 + q * 14 + 11, none⟩ = some (.int .i64 (S q).step) := fun e => e.cell d11 gl
      have x12 : ∀ e : ExtW W1, e.v.cell? ⟨xb, 12, none⟩ = some (.bool (S k).need) := fun e => e.cell (X1.out.cell 12) xl
      have y12 : ∀ e : ExtW W1, e.v.cell? ⟨g, 1 + q * 14 + 12, none⟩ = some (.bool (S q).need) := fun e => e.cell d12 gl
      have x13 : ∀ e : ExtW W1, e.v.cell? ⟨xb, 13, none⟩ = some (.int .i64 (S k).turn) := fun e => e.cell (X1.out.cell 13) xl
      have y13 : ∀ e : ExtW W1, e.v.cell? ⟨g, 1 + q * 14 + 13, none⟩ = some (.int .i64 (S q).turn) := fun e => e.cell d13 gl
      have C1 := Lib.hid (fun e : ExtW W1 => findf_ok (S k) f0 f1 f2 f3 f4 fb e.v (F1.out.below e.h fl))
      have C2 := Lib.hid (fun e : ExtW W1 => findf_ok (S q) f0 f1 f2 f3 f4 fb e.v (F1.out.below e.h fl))
      have BX : Hid (∀ e : ExtW W1, Below w.heap.size w e.v) := Lib.hid fun e => below_step B1.out e.h
      obtain ⟨vk, hvk⟩ : ∃ vk, vk = fv f0 f1 f2 f3 f4 (S k) := ⟨_, rfl⟩
      obtain ⟨vq, hvq⟩ : ∃ vq, vq = fv f0 f1 f2 f3 f4 (S q) := ⟨_, rfl⟩
      rw [← hvk] at C1
      rw [← hvq] at C2
      have HVK := Lib.hid hvk
      have HVQ := Lib.hid hvq
      clear d0 d1 d2 d3 d4 d5 d6 d7 d8 d9 d10 d11 d12 d13 hvk hvq
      by_cases hcmp : vk < vq
      · have hbi : bestI v (k + 1) = k := by
          unfold bestI
          rw [← HQ.out, HV.out k, HV.out q, ← HVK.out, ← HVQ.out, if_pos hcmp]
        have HBI := Lib.hid hbi
        clear hbi
        refine wp_region_ext (by kernel_rfl) (by kernel_rfl) ?_
        repeat (go_big_quiet_step (first | (with_reducible exact Calls.ext_of (C1.out _)) | (with_reducible exact Calls.ext_of (C2.out _))))
        refine wpQuiet_nil ?_
        rintro _ ⟨ex, rfl⟩
        go_wp2
        go_roundw
        case rel => exact ⟨k + 1, by omega, by go_num, by rw [HBI.out], BX.out ex⟩
        case measure => simp [intOf]; omega
      · have hbi : bestI v (k + 1) = q := by
          unfold bestI
          rw [← HQ.out, HV.out k, HV.out q, ← HVK.out, ← HVQ.out, if_neg hcmp]
        have HBI := Lib.hid hbi
        clear hbi
        refine wp_region_ext (by kernel_rfl) (by kernel_rfl) ?_
        repeat (go_big_quiet_step (first | (with_reducible exact Calls.ext_of (C1.out _)) | (with_reducible exact Calls.ext_of (C2.out _))))
        refine wpQuiet_nil ?_
        rintro _ ⟨ex, rfl⟩
        go_wp2
        go_roundw
        case rel => exact ⟨k + 1, by omega, by go_num, by rw [HBI.out], BX.out ex⟩
        case measure => simp [intOf]; omega
    · obtain rfl : k = 16 := by omega
      go_wp2
      go_ret
      exact ⟨rfl, hb⟩

set_option maxRecDepth 100000 in
set_option maxHeartbeats 1600000 in
theorem find_ok (g : Nat) (made : Bool) (S : Nat → Rx) (T : Int) (f0 f1 f2 f3 f4 : Int) (w : World) (h : CB w g made S T) :
    Calls Try.prog 44 #[.pointer (some ⟨g, 0, none⟩), .agg #[.int .i64 f0, .int .i64 f1, .int .i64 f2, .int .i64 f3, .int .i64 f4]] w fun e w' => e = .returned (.int .i64 (bestI (fun k => fv f0 f1 f2 f3 f4 (S k)) 16 : Nat)) ∧ Below w.heap.size w w' := by
  have HB := Lib.hid (fun o : Obj => h.alloc o)
  have HF := Lib.hid (Blk.new w 54 #[.int .i64 f0, .int .i64 f1, .int .i64 f2, .int .i64 f3, .int .i64 f4])
  have hbo := Lib.hid (fun W hc hf => best_ok g w.heap.size made S T f0 f1 f2 f3 f4 W hc hf)
  have hmf : ∀ (fn : Fn) (first cap : Array Value) (w : World), (Instr.makeFunc fn first cap).run Try.prog w = .ok (.func fn first cap) w := fun _ _ _ _ => rfl
  obtain ⟨r, hr⟩ : ∃ r, r = bestI (fun k => fv f0 f1 f2 f3 f4 (S k)) 16 := ⟨_, rfl⟩
  rw [← hr] at hbo ⊢
  clear h hr
  go_enter Try.func44, Try.ntmps44
  go_wp2_with (go_at_call 70; refine (hbo.out _ (HB.out _) HF.out).mono ?_; rintro e w1 ⟨rfl, b1⟩)
  go_ret
  exact ⟨rfl, ((Below.refl _ w).alloc (Nat.le_refl _) _).trans (b1.mono (by simp))⟩
end Go.Proofs.Ytofaghpflmeblaa
namespace Go.Proofs.Ytofaghpflmeblaa
open Go.RowKit

attribute [local go_sem ↓] Go.wp_at_zero Go.wp_at_succ

/-- a scope of which the run jumps out of no label but one, onwards: the code behind the label runs once and jumps no more -/
theorem wp_scope_on {P : Program} {a : Act} {w : World} {Q : Exit → Act → World → Prop} {c rest : Code} (l : Nat) (hf : findLabel c l = some rest)
    (h : c.wp P (Exit.jump l (fun a' w' => rest.wp P (Exit.noGoto Q) a' w') Q) a w) : (Code.scope c).wp P Q a w :=
  wp_scope_jumps l _ (fun _ _ => 0) hf h fun _ _ hJ => wp_mono hJ fun e _ _ he => by
    cases e with
    | goto l' => exact (show False from he).elim
    | normal => exact he
    | exit id => exact he
    | ret => exact he
    | panic ch => exact he
    | outgrown => exact he
theorem jump_ret (l : Nat) (J : Act → World → Prop) (Q : Exit → Act → World → Prop) (a : Act) (w : World) : Exit.jump l J Q .ret a w = Q .ret a w := rfl
theorem jump_goto (l : Nat) (J : Act → World → Prop) (Q : Exit → Act → World → Prop) (a : Act) (w : World) (h : J a w) : Exit.jump l J Q (.goto l) a w := ⟨rfl, h⟩

/-- the place that find returns -/
def cPlace (S : Nat → Rx) (X : Nat → Int) : Nat := bestI (fun k => fv (X 0) (X 1) (X 2) (X 3) (X 4) (S k)) 16
theorem bestI_lt (v : Nat → Int) : ∀ k, 0 < k → bestI v k < k
  | 0, h => absurd h (by decide)
  | k + 1, _ => by
    unfold bestI
    have := best_le v k
    split
    · omega
    · by_cases h : k = 0
      · subst h; exact Nat.lt_succ_self 0
      · have := bestI_lt v k (by omega); omega
theorem cPlace_lt (S : Nat → Rx) (X : Nat → Int) : cPlace S X < 16 := bestI_lt _ 16 (by decide)
/-- the context after its turn is set -/
def cTurned (S : Nat → Rx) (T : Int) (X : Nat → Int) : Rx := { S (cPlace S X) with turn := T + 1 }
def cKind (S : Nat → Rx) (T : Int) (X : Nat → Int) : Int := kindOf (cTurned S T X) (X 0) (X 1) (X 2) (X 3) (X 4) (X 5) (X 6) (X 7)
def cNew (S : Nat → Rx) (T : Int) (X : Nat → Int) : Rx :=
  if cKind S T X = 0 then fulled (cTurned S T X) (X 0) (X 1) (X 2) (X 3) (X 4) (X 5) (X 6) (X 7)
  else if cKind S T X = 1 then begun (cTurned S T X) (X 5) (X 6) (X 7) (kT (cTurned S T X) (X 7) / kN (cTurned S T X) (X 6))
  else cTurned S T X
def cLen (S : Nat → Rx) (T : Int) (X : Nat → Int) : Nat := if cKind S T X = 0 then 19 else if cKind S T X = 1 then 5 else 2
def cHead (S : Nat → Rx) (T : Int) (X : Nat → Int) (z : Nat → Int) (j : Nat) : Int :=
  if cKind S T X = 0 then (if j = 0 then (cNew S T X).gen else z (j - 1))
  else if cKind S T X = 1 then ([(cNew S T X).gen, kN (cTurned S T X) (X 6), kT (cTurned S T X) (X 7) / 256, kT (cTurned S T X) (X 7) % 256, X 5] : List Int).getD j 0
  else ([(cTurned S T X).gen, kN (cTurned S T X) (X 6)] : List Int).getD j 0
def cFirst (S : Nat → Rx) (T : Int) (X : Nat → Int) : Int := 64 * cKind S T X + 4 * (cPlace S X : Int)
def cState (S : Nat → Rx) (T : Int) (X : Nat → Int) : Nat → Rx := upd S (cPlace S X) (cNew S T X)
/-- the bytes behind the first: the header's and the payload's -/
def cBody (S : Nat → Rx) (T : Int) (X : Nat → Int) (n : Nat) (z : Nat → Int) : Nat → Int :=
  catY (fun k => if k = 0 then cLen S T X else n - 20) (fun k => if k = 0 then cHead S T X z else fun j => z (20 + j)) 2

def COut (len : Nat) (y : Nat → Int) (err : Int) (g : Nat) (S : Nat → Rx) (T : Int) (w : World) (e : Ending) (w' : World) : Prop :=
  ∃ A c, e = .returned (.tuple #[.slice A len c, .int .i64 err]) ∧ len ≤ c ∧ Fresh w.heap.size A ∧ Row w' w'.heap.size A len (fun j => .int .u8 (y j)) ∧ CB w' g true S T ∧ Keep1 g w w'
theorem Fresh.mono {a b : Nat} {A : Option Addr} (h : Fresh b A) (hab : a ≤ b) : Fresh a A := fun x e => Nat.le_trans hab (h x e)

set_option maxRecDepth 100000 in
set_option maxHeartbeats 1600000 in
theorem compress_none (g : Nat) (S : Nat → Rx) (T : Int) (Z : Value) (w : World) (h : CB w g false S T) :
    Calls Try.prog 25 #[.pointer (some ⟨g, 0, none⟩), Z] w fun e w' => e = .returned (.tuple #[.slice none 0 0, .int .i64 1]) ∧ Below w.heap.size w w' := by
  have HB := Lib.hid (fun o : Obj => none_ok g false S T _ (h.alloc o))
  clear h
  go_enter Try.func25, Try.ntmps25
  go_wp2
  refine wp_scope_on 0 rfl ?_
  go_wp2_with (go_at_call 40; refine (HB.out _).mono ?_; rintro e w1 ⟨rfl, rfl⟩)
  go_step3
  refine ⟨rfl, ?_⟩
  show Code.wp _ _ _ _ _
  go_wp2
  rw [Exit.noGoto_ret]
  go_ret2
  exact ⟨rfl, (Below.refl _ w).alloc (Nat.le_refl _) _⟩
set_option maxRecDepth 100000 in
set_option maxHeartbeats 1600000 in
theorem compress_nil (Z : Value) (w : World) :
    Calls Try.prog 25 #[.pointer none, Z] w fun e w' => e = .returned (.tuple #[.slice none 0 0, .int .i64 1]) ∧ Below w.heap.size w w' := by
  go_enter Try.func25, Try.ntmps25
  go_wp2
  refine wp_scope_on 0 rfl ?_
  go_wp2_with (go_at_call 40; refine (none_nil _).mono ?_; rintro e w1 ⟨rfl, rfl⟩)
  go_step3
  refine ⟨rfl, ?_⟩
  show Code.wp _ _ _ _ _
  go_wp2
  rw [Exit.noGoto_ret]
  go_ret2
  exact ⟨rfl, (Below.refl _ w).alloc (Nat.le_refl _) _⟩
set_option maxRecDepth 100000 in
set_option maxHeartbeats 1600000 in
theorem compress_bad (g : Nat) (S : Nat → Rx) (T : Int) (A : Option Addr) (n c : Nat) (w : World) (h : CB w g true S T) (he : ckErr n ≠ 0) :
    Calls Try.prog 25 #[.pointer (some ⟨g, 0, none⟩), .slice A n c] w fun e w' => e = .returned (.tuple #[.slice none 0 0, .int .i64 (ckErr n)]) ∧ Below w.heap.size w w' := by
  have HB := Lib.hid (fun o : Obj => none_ok g true S T _ (h.alloc o))
  have HC := Lib.hid (fun W => ccheck_ok A n c W)
  obtain ⟨E, hE⟩ : ∃ E, E = ckErr n := ⟨_, rfl⟩
  rw [← hE] at HC he ⊢
  have e1 : (E != 0) = true := by simpa using he
  have e2 : (E == 0) = false := by simpa using he
  clear h hE
  go_enter Try.func25, Try.ntmps25
  go_wp2
  refine wp_scope_on 0 rfl ?_
  go_wp2_with (first
    | (go_at_call 40; refine (HB.out _).mono ?_; rintro e w1 ⟨rfl, rfl⟩)
    | (go_at_call 41; refine (HC.out _).mono ?_; rintro e w1 ⟨rfl, rfl⟩))
  go_step3
  refine ⟨rfl, ?_⟩
  show Code.wp _ _ _ _ _
  go_wp2
  rw [Exit.noGoto_ret]
  go_ret2
  exact ⟨rfl, (Below.refl _ w).alloc (Nat.le_refl _) _⟩

theorem joined1_ok (b : Int) (sb : Nat) (A : Option Addr) (n c : Nat) (z : Nat → Int) (h0 : 0 < n) (hN : n ≤ 100000) (w : World) (hsb : sb < w.heap.size)
    (hc : w.cell? ⟨sb, 0, none⟩ = some (.slice A n c)) (hr : Row w w.heap.size A n (fun j => .int .u8 (z j))) :
    Calls Try.prog 43 #[.int .u8 b, .slice (some ⟨sb, 0, none⟩) 1 1] w fun e w' => ∃ B d, e = .returned (.slice B (1 + n) d) ∧ 1 + n ≤ d ∧ Fresh w.heap.size B ∧ Row w' w'.heap.size B (1 + n) (fun j => .int .u8 (joinY b z j)) ∧ Below w.heap.size w w' := by
  have H := joined_ok b 1 sb (fun _ => A) (fun _ => n) (fun _ => c) (fun _ => z) (by decide) (by simp only [tot]; omega) (by simp only [tot]; omega) w hsb (fun k hk => match k, hk with
      | 0, _ => hc
      | k + 1, h => absurd h (by omega)) (fun _ _ => hr)
  have e1 : tot (fun _ => n) 1 = n := by simp [tot]
  have e2 : catY (fun _ => n) (fun _ => z) 1 = z := by funext j; simp [catY, tot]
  rw [e1, e2] at H
  exact H.mono fun e w' ⟨B, d, he, hd, hF, hR, hB⟩ => ⟨B, d, he, hd, hF, hR, hB⟩
theorem joined2_ok (b : Int) (sb : Nat) (A0 A1 : Option Addr) (n0 c0 n1 c1 : Nat) (z0 z1 : Nat → Int) (h0 : 0 < n0) (hN : n0 + n1 ≤ 100000) (w : World) (hsb : sb < w.heap.size)
    (hc0 : w.cell? ⟨sb, 0, none⟩ = some (.slice A0 n0 c0)) (hr0 : Row w w.heap.size A0 n0 (fun j => .int .u8 (z0 j)))
    (hc1 : w.cell? ⟨sb, 1, none⟩ = some (.slice A1 n1 c1)) (hr1 : Row w w.heap.size A1 n1 (fun j => .int .u8 (z1 j))) :
    Calls Try.prog 43 #[.int .u8 b, .slice (some ⟨sb, 0, none⟩) 2 2] w fun e w' => ∃ B d, e = .returned (.slice B (1 + (n0 + n1)) d) ∧ 1 + (n0 + n1) ≤ d ∧ Fresh w.heap.size B ∧ Row w' w'.heap.size B (1 + (n0 + n1)) (fun j => .int .u8 (joinY b (fun j => if j < n0 then z0 j else z1 (j - n0)) j)) ∧ Below w.heap.size w w' := by
  have H := joined_ok b 2 sb (fun k => if k = 0 then A0 else A1) (fun k => if k = 0 then n0 else n1) (fun k => if k = 0 then c0 else c1) (fun k => if k = 0 then z0 else z1) (by decide) (by simp [tot]; omega) (by simp [tot]; omega) w hsb
    (fun k hk => match k, hk with
      | 0, _ => hc0
      | 1, _ => hc1
      | k + 2, h => absurd h (by omega))
    (fun k hk => match k, hk with
      | 0, _ => hr0
      | 1, _ => hr1
      | k + 2, h => absurd h (by omega))
  have e1 : tot (fun k => if k = 0 then n0 else n1) 2 = n0 + n1 := by simp [tot]
  have e2 : catY (fun k => if k = 0 then n0 else n1) (fun k => if k = 0 then z0 else z1) 2 = fun j => if j < n0 then z0 j else z1 (j - n0) := by
    funext j; simp [catY, tot]
  rw [e1, e2] at H
  exact H.mono fun e w' ⟨B, d, he, hd, hF, hR, hB⟩ => ⟨B, d, he, hd, hF, hR, hB⟩
theorem ckErr_zero (n : Nat) (h : ckErr n = 0) : 0 < n ∧ n ≤ 9000 := by
  unfold ckErr at h
  by_cases h0 : n = 0
  · rw [if_pos h0] at h; cases h
  · rw [if_neg h0] at h
    by_cases h9 : 9000 < n
    · rw [if_pos h9] at h; cases h
    · omega

set_option maxRecDepth 100000 in
set_option maxHeartbeats 1600000 in
theorem compress_raw (g : Nat) (S : Nat → Rx) (T : Int) (A : Option Addr) (n c : Nat) (z : Nat → Int) (w : World) (h : CB w g true S T) (he : ckErr n = 0) (hp : pErr n z ≠ 0) (hnc : n ≤ c) (hz : ∀ j, j < n → 0 ≤ z j ∧ z j < 256) (hr : Row w w.heap.size A n (fun j => .int .u8 (z j))) :
    Calls Try.prog 25 #[.pointer (some ⟨g, 0, none⟩), .slice A n c] w (COut (1 + n) (joinY 192 z) 0 g S T w) := by
  obtain ⟨n0, n9⟩ := ckErr_zero n he
  have hgl := h.lt
  have HB := Lib.hid (fun o : Obj => none_ok g true S T _ (h.alloc o))
  have HC := Lib.hid (fun W => ccheck_ok A n c W)
  rw [he] at HC
  have HP := Lib.hid (fun (W : World) (hR : Row W W.heap.size A n (fun j => .int .u8 (z j))) => parse_any A n c z hnc hz W hR)
  have HR := Lib.hid hr
  have HK := Lib.hid h
  unfold ParseEnd hdr at HP
  obtain ⟨L, hL⟩ : ∃ L, L = pLen n z := ⟨_, rfl⟩
  obtain ⟨E, hE⟩ : ∃ E, E = pErr n z := ⟨_, rfl⟩
  obtain ⟨X, hX⟩ : ∃ X, X = pHdr n z := ⟨_, rfl⟩
  rw [← hL, ← hE, ← hX] at HP
  rw [← hE] at hp
  have e1 : (E != 0) = true := by simpa using hp
  have e2 : (E == 0) = false := by simpa using hp
  clear hL hE hX h he hp hnc hz hr
  go_enter Try.func25, Try.ntmps25
  go_wp2
  refine wp_scope_on 0 rfl ?_
  go_wp2_with (first
    | (go_at_call 40; refine (HB.out _).mono ?_; rintro e w1 ⟨rfl, rfl⟩)
    | (go_at_call 41; refine (HC.out _).mono ?_; rintro e w1 ⟨rfl, rfl⟩)
    | (go_at_call 42; refine (HP.out _ (row_new HR.out _)).mono ?_; rintro e w2 ⟨P, c2, rfl, _, _, b2⟩; have B2 := Lib.hid (((Below.refl _ w).alloc (Nat.le_refl _) _).trans (b2.mono (by simp)) : Below w.heap.size w w2); have q2 := (Blk.new w 36 (hdr (fun _ => 0))).below b2 (by simp); have hl2 := q2.lt; obtain ⟨a0, a1, a2, a3, a4, a5, a6, a7, a8⟩ := Blk.nine (show Blk w2 w.heap.size 36 #[.int .i64 0, .int .i64 0, .int .i64 0, .int .i64 0, .int .i64 0, .int .i64 0, .int .i64 0, .int .i64 0, .int .i64 0] from q2); have z0 := q2.frozen 0; have z1 := q2.frozen 1; have z2 := q2.frozen 2; have z3 := q2.frozen 3; have z4 := q2.frozen 4; have z5 := q2.frozen 5; have z6 := q2.frozen 6; have z7 := q2.frozen 7; have z8 := q2.frozen 8; clear b2 q2)
    | (go_at_call 43;
       have B3 := Lib.hid (show Below w.heap.size w (((((((((w2.setCell ⟨w.heap.size, 0, none⟩ (.int .i64 (X 0))).setCell ⟨w.heap.size, 1, none⟩ (.int .i64 (X 1))).setCell ⟨w.heap.size, 2, none⟩ (.int .i64 (X 2))).setCell ⟨w.heap.size, 3, none⟩ (.int .i64 (X 3))).setCell ⟨w.heap.size, 4, none⟩ (.int .i64 (X 4))).setCell ⟨w.heap.size, 5, none⟩ (.int .i64 (X 5))).setCell ⟨w.heap.size, 6, none⟩ (.int .i64 (X 6))).setCell ⟨w.heap.size, 7, none⟩ (.int .i64 (X 7))).setCell ⟨w.heap.size, 8, none⟩ (.int .i64 (X 8))) from (((((((((B2.out.setCell (Nat.le_refl _) _).setCell (Nat.le_refl _) _).setCell (Nat.le_refl _) _).setCell (Nat.le_refl _) _).setCell (Nat.le_refl _) _).setCell (Nat.le_refl _) _).setCell (Nat.le_refl _) _).setCell (Nat.le_refl _) _).setCell (Nat.le_refl _) _));
       obtain ⟨W3, hW3⟩ : ∃ W3, W3 = (((((((((w2.setCell ⟨w.heap.size, 0, none⟩ (.int .i64 (X 0))).setCell ⟨w.heap.size, 1, none⟩ (.int .i64 (X 1))).setCell ⟨w.heap.size, 2, none⟩ (.int .i64 (X 2))).setCell ⟨w.heap.size, 3, none⟩ (.int .i64 (X 3))).setCell ⟨w.heap.size, 4, none⟩ (.int .i64 (X 4))).setCell ⟨w.heap.size, 5, none⟩ (.int .i64 (X 5))).setCell ⟨w.heap.size, 6, none⟩ (.int .i64 (X 6))).setCell ⟨w.heap.size, 7, none⟩ (.int .i64 (X 7))).setCell ⟨w.heap.size, 8, none⟩ (.int .i64 (X 8))) := ⟨_, rfl⟩;
       rw [← hW3] at B3;
       have hsz : W3.heap.size = w2.heap.size := by (rw [hW3]; simp only [World.size_setCell]);
       rw [← hW3, ← hsz]; clear hW3;
       refine (joined1_ok 192 W3.heap.size A n c z n0 (by omega) (W3.alloc (.cells #[.slice A n c] 24)) (by simp) (cell_one_new W3 (.slice A n c) _ 0 _ rfl) (row_new ((HR.out.below B3.out).more (by omega)) _)).mono ?_;
       rintro e w5 ⟨Bx, d, rfl, hd, hF5, hR5, hB5⟩))
  rw [jump_ret]
  go_ret2
  have BB : Below w.heap.size w w5 := (below_new B3.out _).trans (hB5.mono (by simp; omega))
  exact ⟨_, _, rfl, hd, hF5.mono (by have := B3.out.size; simp; omega), hR5, HK.out.below BB hgl, keep_of_below BB⟩
end Go.Proofs.Ytofaghpflmeblaa
namespace Go.Proofs.Ytofaghpflmeblaa
open Go.RowKit

attribute [local go_sem ↓] Go.wp_at_zero Go.wp_at_succ

/-- the first byte from k on that is no feedback; d bytes are left -/
def firstBad (z : Nat → Int) : Nat → Nat → Int
  | _, 0 => -1
  | k, d + 1 => if z k / 16 = 10 then firstBad z (k + 1) d else k
def anyBad (z : Nat → Int) (n : Nat) : Bool := decide (0 ≤ firstBad z 0 n)
theorem firstBad_good (z : Nat → Int) : ∀ d k, firstBad z k d < 0 → ∀ j, k ≤ j → j < k + d → z j / 16 = 10
  | 0, k, _, j, h1, h2 => by omega
  | d + 1, k, h, j, h1, h2 => by
    unfold firstBad at h
    by_cases hk : z k / 16 = 10
    · rw [if_pos hk] at h
      by_cases hj : j = k
      · subst hj; exact hk
      · exact firstBad_good z d (k + 1) h j (by omega) (by omega)
    · rw [if_neg hk] at h; omega
theorem shr4_u8 : ∀ x : Nat, x < 256 → ((x : Int) / 2 ^ 4) = ((x / 16 : Nat) : Int) := fun x _ => by omega
theorem and15_u8 : ∀ x : Nat, x < 256 → bits BinOp.and .u8 ((x : Nat) : Int) 15 = ((x % 16 : Nat) : Int) := by decide +kernel
theorem and15 (x : Int) (h0 : 0 ≤ x) (h1 : x < 256) : bits BinOp.and .u8 x 15 = ((x.toNat % 16 : Nat) : Int) := by
  have := and15_u8 x.toNat (by omega)
  rwa [show ((x.toNat : Nat) : Int) = x by omega] at this

set_option maxRecDepth 100000 in
set_option maxHeartbeats 1600000 in
theorem bad1_ok (x : Int) (_ : 0 ≤ x) (_ : x < 256) (w : World) :
    Calls Try.prog 51 #[.int .u8 x] w fun e w' => e = .returned (.bool (x / 16 != 10)) ∧ w = w' := by
  go_enter Try.func51, Try.ntmps51
  go_wp2
  go_ret
  exact ⟨rfl, rfl⟩
set_option maxRecDepth 100000 in
set_option maxHeartbeats 1600000 in
theorem indexBad_ok (A : Option Addr) (n c : Nat) (z : Nat → Int) (hn : n ≤ maxLen) (hz : ∀ j, j < n → 0 ≤ z j ∧ z j < 256) (w : World) (hr : Row w w.heap.size A n (fun j => .int .u8 (z j))) :
    Calls Try.prog 74 #[.slice A n c, .func (.func 51) #[] #[]] w fun e w' => e = .returned (.int .i64 (firstBad z 0 n)) ∧ w = w' := by
  unfold maxLen at hn
  by_cases hn0 : n = 0
  · subst hn0
    go_enter Try.func74, Try.ntmps74
    go_wp2
    go_loop [8] (fun v => v = .int .i64 0) (fun _ => 0)
    case atStart => rfl
    case round =>
      subst hrel
      go_wp2
      go_ret
      exact ⟨rfl, rfl⟩
  obtain ⟨lb, lo, rfl, hlb, hc⟩ := hr (by omega)
  have HC := Lib.hid hc
  have HZ := Lib.hid hz
  clear hc hz hr
  go_enter Try.func74, Try.ntmps74
  go_wp2
  go_loop [8] (fun v => ∃ k : Nat, k ≤ n ∧ v = .int .i64 k ∧ firstBad z 0 n = firstBad z k (n - k)) (fun v => n - (intOf v).toNat)
  case atStart => exact ⟨0, by omega, rfl, rfl⟩
  case round =>
    obtain ⟨k, hk, rfl, hfw⟩ := hrel
    have HF := Lib.hid hfw
    clear hfw
    by_cases hlt : k < n
    · have c0 : w.cell? ⟨lb, lo + k, none⟩ = some (.int .u8 (z k)) := HC.out k hlt
      have HB := Lib.hid (bad1_ok (z k) (HZ.out k hlt).1 (HZ.out k hlt).2 w)
      have hstep : firstBad z k (n - k) = if z k / 16 = 10 then firstBad z (k + 1) (n - (k + 1)) else (k : Int) := by
        rw [show n - k = (n - (k + 1)) + 1 by omega]; rfl
      by_cases hw : z k / 16 = 10
      · have e1 : (z k / 16 != 10) = false := by simpa using hw
        rw [e1] at HB
        rw [if_pos hw] at hstep
        have HSt := Lib.hid hstep
        clear hw hstep e1
        go_wp2_with (go_at_call 51; refine (HB.out).mono ?_; rintro e w2 ⟨rfl, rfl⟩)
        go_round
        case rel => exact ⟨k + 1, by omega, by go_num, by rw [HF.out, HSt.out]⟩
        case measure => simp [intOf]; omega
      · have e1 : (z k / 16 != 10) = true := by simpa using hw
        rw [e1] at HB
        rw [if_neg hw] at hstep
        have HSt := Lib.hid hstep
        clear hw hstep e1
        go_wp2_with (go_at_call 51; refine (HB.out).mono ?_; rintro e w2 ⟨rfl, rfl⟩)
        go_ret
        exact ⟨ret_int (by rw [HF.out, HSt.out]), rfl⟩
    · obtain rfl : k = n := by omega
      have HF2 := Lib.hid (show firstBad z 0 k = -1 by rw [HF.out, Nat.sub_self]; rfl)
      clear HF
      go_wp2
      go_ret
      exact ⟨ret_int HF2.out.symm, rfl⟩
theorem containsBad_ok (A : Option Addr) (n c : Nat) (z : Nat → Int) (hn : n ≤ maxLen) (hz : ∀ j, j < n → 0 ≤ z j ∧ z j < 256) (w : World) (hr : Row w w.heap.size A n (fun j => .int .u8 (z j))) :
    Calls Try.prog 50 #[.slice A n c, .func (.func 51) #[] #[]] w fun e w' => e = .returned (.bool (anyBad z n)) ∧ w = w' := by
  have HI := Lib.hid (indexBad_ok A n c z hn hz w hr)
  obtain ⟨x, hx⟩ : ∃ x, x = firstBad z 0 n := ⟨_, rfl⟩
  have hA : anyBad z n = decide (0 ≤ x) := by unfold anyBad; rw [hx]
  rw [hA]
  rw [← hx] at HI
  clear hx hA hz hr
  go_enter Try.func50, Try.ntmps50
  go_wp2_with (go_at_call 74; refine (HI.out).mono ?_; rintro e w2 ⟨rfl, rfl⟩)
  go_ret
  exact ⟨rfl, rfl⟩

theorem Keep1.rown {g B n : Nat} {A : Option Addr} {v : Nat → Value} {w w' : World} (h : Keep1 g w w') (hr : Row w B A n v) (hB : B ≤ w.heap.size) (hg : ∀ a, A = some a → n ≠ 0 → a.block ≠ g) : Row w' B A n v := by
  by_cases hn : n = 0
  · rw [hn]; exact Row.nil
  · exact h.row hr hB (fun a e => hg a e hn)
/-- needs: what Feedback does -/
def needS (S : Nat → Rx) (k : Nat) : Nat → Rx := upd S k { S k with need := true }
def feedTo (S : Nat → Rx) (z : Nat → Int) : Nat → Nat → Rx
  | 0 => S
  | k + 1 => needS (feedTo S z k) ((z k).toNat % 16)
def feedS (S : Nat → Rx) (z : Nat → Int) (n : Nat) : Nat → Rx := if anyBad z n then S else feedTo S z n
def feedErr (z : Nat → Int) (n : Nat) : Int := if anyBad z n then 9 else 0
def FOut (err : Int) (g : Nat) (made : Bool) (S : Nat → Rx) (T : Int) (w : World) (e : Ending) (w' : World) : Prop :=
  e = .returned (.int .i64 err) ∧ CB w' g made S T ∧ Keep1 g w w'

set_option maxRecDepth 100000 in
theorem feedback_none (g : Nat) (S : Nat → Rx) (T : Int) (Z : Value) (w : World) (h : CB w g false S T) :
    Calls Try.prog 26 #[.pointer (some ⟨g, 0, none⟩), Z] w fun e w' => e = .returned (.int .i64 1) ∧ w = w' := by
  have HB := Lib.hid (none_ok g false S T w h)
  clear h
  go_enter Try.func26, Try.ntmps26
  go_wp2_with (go_at_call 40; refine (HB.out).mono ?_; rintro e w1 ⟨rfl, rfl⟩)
  go_ret
  exact ⟨rfl, rfl⟩
set_option maxRecDepth 100000 in
theorem feedback_nil (Z : Value) (w : World) :
    Calls Try.prog 26 #[.pointer none, Z] w fun e w' => e = .returned (.int .i64 1) ∧ w = w' := by
  go_enter Try.func26, Try.ntmps26
  go_wp2_with (go_at_call 40; refine (none_nil _).mono ?_; rintro e w1 ⟨rfl, rfl⟩)
  go_ret
  exact ⟨rfl, rfl⟩
theorem bool_cases (b : Bool) : b = true ∨ b = false := by cases b <;> simp
set_option maxRecDepth 100000 in
set_option maxHeartbeats 1600000 in
theorem feedback_ok (g : Nat) (S : Nat → Rx) (T : Int) (A : Option Addr) (n c : Nat) (z : Nat → Int) (hn : n ≤ maxLen) (hz : ∀ j, j < n → 0 ≤ z j ∧ z j < 256) (w : World) (h : CB w g true S T) (hr : Row w w.heap.size A n (fun j => .int .u8 (z j))) (hg : ∀ a, A = some a → n ≠ 0 → a.block ≠ g) :
    Calls Try.prog 26 #[.pointer (some ⟨g, 0, none⟩), .slice A n c] w (FOut (feedErr z n) g true (feedS S z n) T w) := by
  have HB := Lib.hid (none_ok g true S T w h)
  have HC := Lib.hid (containsBad_ok A n c z hn hz w hr)
  have HK := Lib.hid h
  rcases bool_cases (anyBad z n) with hb | hb
  · have e1 : feedErr z n = 9 := by unfold feedErr; rw [hb]; rfl
    have e2 : feedS S z n = S := by unfold feedS; rw [hb]; rfl
    rw [e1, e2]
    rw [hb] at HC
    clear h hz hr hg hb e1 e2
    go_enter Try.func26, Try.ntmps26
    go_wp2_with (first
      | (go_at_call 40; refine (HB.out).mono ?_; rintro e w1 ⟨rfl, rfl⟩)
      | (go_at_call 50; refine (HC.out).mono ?_; rintro e w1 ⟨rfl, rfl⟩))
    go_ret
    exact ⟨rfl, HK.out, World.grownBy_refl _ _⟩
  · have e1 : feedErr z n = 0 := by unfold feedErr; rw [hb]; rfl
    have e2 : feedS S z n = feedTo S z n := by unfold feedS; rw [hb]; rfl
    rw [e1, e2]
    rw [hb] at HC
    have HR := Lib.hid hr
    have HG := Lib.hid hg
    have HZ := Lib.hid hz
    unfold maxLen at hn
    clear h hz hr hg hb e1 e2
    go_enter Try.func26, Try.ntmps26
    go_wp2_with (first
      | (go_at_call 40; refine (HB.out).mono ?_; rintro e w1 ⟨rfl, rfl⟩)
      | (go_at_call 50; refine (HC.out).mono ?_; rintro e w1 ⟨rfl, rfl⟩))
    go_loopw [15] (fun v wr => ∃ k : Nat, k ≤ n ∧ v = .int .i64 k ∧ CB wr g true (feedTo S z k) T ∧ Keep1 g w wr) (fun v _ => n - (intOf v).toNat)
    case atStart => exact ⟨0, by omega, rfl, HK.out, World.grownBy_refl _ _⟩
    case round =>
      obtain ⟨k, hk, rfl, hKr, hEr⟩ := hrel
      by_cases hlt : k < n
      · obtain ⟨lb, lo, rfl, hlb, hc⟩ := (hEr.rown HR.out (Nat.le_refl _) HG.out) (by omega)
        have c0 : wr.cell? ⟨lb, lo + k, none⟩ = some (.int .u8 (z k)) := hc k hlt
        have hz0 := HZ.out k hlt
        have a1 := and15 (z k) hz0.1 hz0.2
        obtain ⟨q, hq⟩ : ∃ q, q = (z k).toNat % 16 := ⟨_, rfl⟩
        rw [← hq] at a1
        have q16 : q < 16 := by omega
        have q0 : (0 : Int) ≤ (q : Int) := by omega
        have q1 : (q : Int) < 16 := by omega
        have fr : wr.frozen? ⟨g, 1 + q * 14 + 12, none⟩ = false := hKr.fr _
        have ce := hKr.ctx q16 12 (by decide) (o := 1 + q * 14) (by omega)
        have ce2 : wr.cell? ⟨g, 1 + q * 14 + 12, none⟩ = some (.bool (feedTo S z k q).need) := ce
        have KN := Lib.hid (show CB (wr.setCell ⟨g, 1 + q * 14 + 12, none⟩ (.bool true)) g true (feedTo S z (k + 1)) T from by
          unfold feedTo needS
          rw [← hq]
          exact (hKr.self q).need_ q16 (by omega) true)
        have KE := Lib.hid (show Keep1 g w (wr.setCell ⟨g, 1 + q * 14 + 12, none⟩ (.bool true)) from grownBy_set hEr _ _)
        clear hc hKr hEr hq ce
        go_wp2
        go_roundw
        case rel => exact ⟨k + 1, by omega, by go_num, KN.out, KE.out⟩
        case measure => simp [intOf]; omega
      · obtain rfl : k = n := by omega
        go_wp2
        go_ret
        exact ⟨rfl, hKr, hEr⟩

theorem zero91 : Try.zeroCells93 = csArr false (fun _ => Rx.zero) 0 := by kernel_rfl
theorem csArr_made (made b : Bool) (S : Nat → Rx) (T : Int) : (csArr made S T).setIfInBounds 0 (.bool b) = csArr b S T := by
  apply Array.ext_getElem?
  intro j
  rw [Array.getElem?_setIfInBounds]
  by_cases hj : j < 226
  · rw [csArr_at _ _ _ j hj, csArr_at _ _ _ j hj]
    by_cases hjk : 0 = j
    · subst hjk
      rw [if_pos rfl, if_pos (by rw [csArr_size]; omega)]
      rfl
    · rw [if_neg hjk]
      unfold cval
      have h0 : ¬ j = 0 := fun e => hjk e.symm
      rw [if_neg h0, if_neg h0]
  · rw [Array.getElem?_eq_none (by rw [csArr_size]; omega), Array.getElem?_eq_none (by rw [csArr_size]; omega)]
    split
    · rename_i hh; rw [if_neg (by rw [csArr_size]; omega)]
    · rfl
theorem new_ok (w : World) : Calls Try.prog 24 #[] w fun e w' => e = .returned (.pointer (some ⟨w.heap.size, 0, none⟩)) ∧ w.alloc (.cells (csArr true (fun _ => Rx.zero) 0) 93) = w' := by
  have hz : Try.zeroCells93.setIfInBounds 0 (.bool true) = csArr true (fun _ => Rx.zero) 0 := by rw [zero91, csArr_made]
  go_enter Try.func24, Try.ntmps24
  go_wp2
  go_ret
  exact ⟨rfl, rfl⟩
theorem size91 : (Try.prog.info? 93).map (·.size) = some 226 := by kernel_rfl
theorem rx_one (c : Rx) : ∀ k, k < 14 → (c.cell k).oneCell' = true := fun k hk =>
  match k, hk with
  | 0, _ => rfl
  | 1, _ => rfl
  | 2, _ => rfl
  | 3, _ => rfl
  | 4, _ => rfl
  | 5, _ => rfl
  | 6, _ => rfl
  | 7, _ => rfl
  | 8, _ => rfl
  | 9, _ => rfl
  | 10, _ => rfl
  | 11, _ => rfl
  | 12, _ => rfl
  | 13, _ => rfl
  | k + 14, h => absurd h (by omega)
theorem cs_one (made : Bool) (S : Nat → Rx) (T : Int) : (csArr made S T).all (·.oneCell') = true := by
  rw [Array.all_eq_true]
  intro j hj
  have hj2 : j < 226 := by rw [csArr_size] at hj; exact hj
  have e := csArr_at made S T j hj2
  rw [Array.getElem?_eq_getElem hj] at e
  rw [Option.some.inj e]
  unfold cval
  split
  · rfl
  · split
    · rfl
    · exact rx_one _ _ (by omega)
theorem keep_row {g : Nat} {w w' : World} (h : Keep1 g w w') (cs : Array Value) : Keep1 g w (w'.setRow g cs) :=
  ⟨h.os, h.tape, h.output, by rw [size_setRow]; exact h.size, fun i hi hne => (setRow_other w' g i cs (fun e => hne (by rw [e]))).trans (h.block i hi hne)⟩
end Go.Proofs.Ytofaghpflmeblaa
