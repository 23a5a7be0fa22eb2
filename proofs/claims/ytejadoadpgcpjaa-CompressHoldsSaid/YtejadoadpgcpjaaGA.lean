/- compress: the state in memory; none, Check, apart. -/
import Derived.Test.YtejadoadpgcpjaaFJ
import Derived.Laws.BitsLemmas
import Derived.BigQuiet
import Derived.Deep.RegionWith
import Derived.Deep.DeepCutAuto
import Derived.Deep.CutRange
import Derived.Deep.CutBlock
namespace Go.Proofs.Ytejadoadpgcpjaa
open Go.RowKit

attribute [local go_sem ↓] Go.wp_at_zero Go.wp_at_succ

/-- a context as it lies in memory -/
structure Rx where
  hops : Int
  ident : Int
  time : Int
  used : Bool
  f0 : Int
  f1 : Int
  f2 : Int
  f3 : Int
  f4 : Int
  began : Bool
  gen : Int
  step : Int
  need : Bool
  turn : Int
def Rx.zero : Rx := ⟨0, 0, 0, false, 0, 0, 0, 0, 0, false, 0, 0, false, 0⟩
def Rx.cells (c : Rx) : List Value := [.int .i64 c.hops, .int .i64 c.ident, .int .i64 c.time, .bool c.used, .int .i64 c.f0, .int .i64 c.f1, .int .i64 c.f2, .int .i64 c.f3, .int .i64 c.f4, .bool c.began, .int .u8 c.gen, .int .i64 c.step, .bool c.need, .int .i64 c.turn]
def Rx.cell (c : Rx) (k : Nat) : Value := c.cells.getD k undef
def upd (S : Nat → Rx) (i : Nat) (c : Rx) : Nat → Rx := fun j => if j = i then c else S j
theorem upd_same (S : Nat → Rx) (i : Nat) (c : Rx) : upd S i c i = c := if_pos rfl
theorem upd_upd (S : Nat → Rx) (i : Nat) (c d : Rx) : upd (upd S i c) i d = upd S i d := by
  funext j; unfold upd; split <;> rfl
def cval (made : Bool) (S : Nat → Rx) (T : Int) (j : Nat) : Value := if j = 0 then .bool made else if j = 225 then .int .i64 T else (S ((j - 1) / 14)).cell ((j - 1) % 14)
def csArr (made : Bool) (S : Nat → Rx) (T : Int) : Array Value := Array.ofFn (n := 226) fun j => cval made S T j.1
theorem csArr_size (made : Bool) (S : Nat → Rx) (T : Int) : (csArr made S T).size = 226 := by simp [csArr]
theorem csArr_at (made : Bool) (S : Nat → Rx) (T : Int) (j : Nat) (hj : j < 226) : (csArr made S T)[j]? = some (cval made S T j) := by
  unfold csArr; simp [hj]
theorem csArr_ctx (made : Bool) (S : Nat → Rx) (T : Int) (i k : Nat) (hi : i < 16) (hk : k < 14) : (csArr made S T)[1 + 14 * i + k]? = some ((S i).cell k) := by
  rw [csArr_at _ _ _ _ (by omega)]
  unfold cval
  rw [if_neg (by omega), if_neg (by omega), show (1 + 14 * i + k - 1) / 14 = i by omega, show (1 + 14 * i + k - 1) % 14 = k by omega]

/-- block g is a Compressor -/
def CB (w : World) (g : Nat) (made : Bool) (S : Nat → Rx) (T : Int) : Prop := Blk w g 91 (csArr made S T)
section
variable {w : World} {g : Nat} {made : Bool} {S : Nat → Rx} {T : Int}
theorem CB.made_ (h : CB w g made S T) : w.cell? ⟨g, 0, none⟩ = some (.bool made) := (Blk.cell h 0).trans (csArr_at _ _ _ 0 (by decide))
theorem CB.turn_ (h : CB w g made S T) : w.cell? ⟨g, 225, none⟩ = some (.int .i64 T) := (Blk.cell h 225).trans (csArr_at _ _ _ 225 (by decide))
theorem CB.ctx (h : CB w g made S T) {i : Nat} (hi : i < 16) (k : Nat) (hk : k < 14) {o : Nat} (ho : o = 1 + 14 * i) : w.cell? ⟨g, o + k, none⟩ = some ((S i).cell k) := by
  subst ho; exact (Blk.cell h _).trans (csArr_ctx _ _ _ i k hi hk)
theorem CB.fr (h : CB w g made S T) (j : Nat) : w.frozen? ⟨g, j, none⟩ = false := Blk.frozen h j
theorem CB.set (h : CB w g made S T) {i : Nat} (hi : i < 16) (k : Nat) (hk : k < 14) {o : Nat} (ho : o = 1 + 14 * i) (c : Rx) (hc : ∀ m, m < 14 → m ≠ k → c.cell m = (S i).cell m) {u : Value} (hu : u = c.cell k) :
    CB (w.setCell ⟨g, o + k, none⟩ u) g made (upd S i c) T := by
  subst ho hu
  have h2 := Blk.set_ h (1 + 14 * i + k) (c.cell k)
  unfold CB
  have e : (csArr made S T).setIfInBounds (1 + 14 * i + k) (c.cell k) = csArr made (upd S i c) T := by
    apply Array.ext_getElem?
    intro j
    rw [Array.getElem?_setIfInBounds]
    by_cases hj : j < 226
    · rw [csArr_at _ _ _ j hj, csArr_at _ _ _ j hj]
      by_cases hjk : 1 + 14 * i + k = j
      · subst hjk
        rw [if_pos rfl, if_pos (by rw [csArr_size]; omega)]
        unfold cval
        rw [if_neg (by omega), if_neg (by omega), show (1 + 14 * i + k - 1) / 14 = i by omega, show (1 + 14 * i + k - 1) % 14 = k by omega, upd_same]
      · rw [if_neg hjk]
        unfold cval
        by_cases h0 : j = 0
        · rw [if_pos h0, if_pos h0]
        · rw [if_neg h0, if_neg h0]
          by_cases h1 : j = 225
          · rw [if_pos h1, if_pos h1]
          · rw [if_neg h1, if_neg h1]
            by_cases hi2 : (j - 1) / 14 = i
            · rw [hi2, upd_same, hc _ (by omega) (by omega)]
            · unfold upd; rw [if_neg hi2]
    · rw [Array.getElem?_eq_none (by rw [csArr_size]; omega), Array.getElem?_eq_none (by rw [csArr_size]; omega)]
      split
      · rename_i hh; rw [if_neg (by rw [csArr_size]; omega)]
      · rfl
  rw [e] at h2
  exact h2
theorem CB.setTurn (h : CB w g made S T) (U : Int) : CB (w.setCell ⟨g, 225, none⟩ (.int .i64 U)) g made S U := by
  have h2 := Blk.set_ h 225 (.int .i64 U)
  have e : (csArr made S T).setIfInBounds 225 (.int .i64 U) = csArr made S U := by
    apply Array.ext_getElem?
    intro j
    rw [Array.getElem?_setIfInBounds]
    by_cases hj : j < 226
    · rw [csArr_at _ _ _ j hj, csArr_at _ _ _ j hj]
      by_cases hjk : 225 = j
      · subst hjk
        rw [if_pos rfl, if_pos (by rw [csArr_size]; omega)]
        rfl
      · rw [if_neg hjk]
        unfold cval
        by_cases h0 : j = 0
        · rw [if_pos h0, if_pos h0]
        · rw [if_neg h0, if_neg h0, if_neg (by omega), if_neg (by omega)]
    · rw [Array.getElem?_eq_none (by rw [csArr_size]; omega), Array.getElem?_eq_none (by rw [csArr_size]; omega)]
      split
      · rename_i hh; rw [if_neg (by rw [csArr_size]; omega)]
      · rfl
  rw [e] at h2
  exact h2
theorem CB.far (h : CB w g made S T) {p : Addr} (hp : g ≠ p.block) (u : Value) : CB (w.setCell p u) g made S T := Blk.far h hp u
theorem CB.alloc (h : CB w g made S T) (o : Obj) : CB (w.alloc o) g made S T := Blk.alloc h o
theorem CB.drew (h : CB w g made S T) : CB w.drew g made S T := h
theorem CB.below {w' : World} {B : Nat} (h : CB w g made S T) (hb : Below B w w') (hg : g < B) : CB w' g made S T := Blk.below h hb hg
theorem CB.lt (h : CB w g made S T) : g < w.heap.size := Blk.lt h
end

theorem none_ok (g : Nat) (made : Bool) (S : Nat → Rx) (T : Int) (w : World) (h : CB w g made S T) :
    Calls Try.prog 62 #[.pointer (some ⟨g, 0, none⟩)] w fun e w' => e = .returned (.bool (!made)) ∧ w = w' := by
  have h0 := h.made_
  clear h
  go_enter Try.func62, Try.ntmps62
  go_wp2
  go_ret
  exact ⟨rfl, rfl⟩
theorem none_nil (w : World) :
    Calls Try.prog 62 #[.pointer none] w fun e w' => e = .returned (.bool true) ∧ w = w' := by
  go_enter Try.func62, Try.ntmps62
  go_wp2
  go_ret
  exact ⟨rfl, rfl⟩
def ckErr (n : Nat) : Int := if n = 0 then 2 else if 9000 < n then 4 else 0
theorem ccheck_ok (A : Option Addr) (n c : Nat) (w : World) :
    Calls Try.prog 34 #[.slice A n c] w fun e w' => e = .returned (.int .i64 (ckErr n)) ∧ w = w' := by
  by_cases h0 : n = 0
  · subst h0
    go_enter Try.func34, Try.ntmps34
    go_wp2
    go_ret
    exact ⟨rfl, rfl⟩
  · by_cases h9 : 9000 < n
    · have h1 : ((n : Int) == 0) = false := by simp; omega
      have h2 : (9000 : Int) < (n : Int) := by omega
      have he : ckErr n = 4 := by unfold ckErr; rw [if_neg h0, if_pos h9]
      rw [he]
      clear he h9
      go_enter Try.func34, Try.ntmps34
      go_wp2
      go_ret
      exact ⟨rfl, rfl⟩
    · have h1 : ((n : Int) == 0) = false := by simp; omega
      have h2 : ¬ (9000 : Int) < (n : Int) := by omega
      have he : ckErr n = 0 := by unfold ckErr; rw [if_neg h0, if_neg h9]
      rw [he]
      clear he h9
      go_enter Try.func34, Try.ntmps34
      go_wp2
      go_ret
      exact ⟨rfl, rfl⟩

theorem and_low16 (n : Int) : bits .and .i64 n 65535 = n % 65536 := by
  have h1 : (BitVec.ofInt 64 65535).toNat = 2 ^ 16 - 1 := by decide
  have key : (BitVec.ofInt 64 n &&& BitVec.ofInt 64 65535).toNat = (n % ((2 ^ 64 : Nat) : Int)).toNat % 2 ^ 16 := by
    rw [BitVec.toNat_and, BitVec.toNat_ofInt, h1, Nat.and_two_pow_sub_one_eq_mod]
  show IntKind.i64.wrap ((BitVec.ofInt 64 n &&& BitVec.ofInt 64 65535).toNat : Nat) = n % 65536
  rw [key, IntKind.wrap_i64]
  omega
theorem and_low24 (n : Int) : bits .and .i64 n 16777215 = n % 16777216 := by
  have h1 : (BitVec.ofInt 64 16777215).toNat = 2 ^ 24 - 1 := by decide
  have key : (BitVec.ofInt 64 n &&& BitVec.ofInt 64 16777215).toNat = (n % ((2 ^ 64 : Nat) : Int)).toNat % 2 ^ 24 := by
    rw [BitVec.toNat_and, BitVec.toNat_ofInt, h1, Nat.and_two_pow_sub_one_eq_mod]
  show IntKind.i64.wrap ((BitVec.ofInt 64 n &&& BitVec.ofInt 64 16777215).toNat : Nat) = n % 16777216
  rw [key, IntKind.wrap_i64]
  omega

theorem apart_ok (a b c h0 h1 h2 h3 h4 h5 h6 h7 h8 : Int) (w : World) (k1 : IntKind.i64.wrap (h6 - b) = h6 - b) (k2 : IntKind.i64.wrap (h7 - c) = h7 - c) :
    Calls Try.prog 93 #[.agg #[.int .i64 a, .int .i64 b, .int .i64 c], .agg #[.int .i64 h0, .int .i64 h1, .int .i64 h2, .int .i64 h3, .int .i64 h4, .int .i64 h5, .int .i64 h6, .int .i64 h7, .int .i64 h8]] w fun e w' =>
      e = .returned (.tuple #[.int .i64 ((h6 - b) % 65536), .int .i64 ((h7 - c) % 16777216)]) ∧ Below w.heap.size w w' := by
  have a1 := and_low16 (h6 - b)
  have a2 := and_low24 (h7 - c)
  go_enter Try.func93, Try.ntmps93
  go_wp2
  go_quiet (fail)
  clear a1 a2 k1 k2
  go_wp2
  go_ret2
  exact ⟨rfl, below_drewN (((Below.refl _ w).alloc (Nat.le_refl _) _).alloc (by simp) _) _⟩
end Go.Proofs.Ytejadoadpgcpjaa
