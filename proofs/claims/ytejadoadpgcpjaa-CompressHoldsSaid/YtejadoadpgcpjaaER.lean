/- parser.all. -/
import Derived.Test.YtejadoadpgcpjaaEQ
import Derived.BigQuiet
namespace Go.Proofs.Ytejadoadpgcpjaa
open Go.RowKit Go.Shelf

attribute [local go_sem] Oper.semAt_some

def AllEnd (g : Nat) (z : Nat → Int) (w : World) (e : Ending) (w' : World) : Prop :=
  ∃ B c, e = .returned (.slice B 10 c) ∧ Row w' w'.heap.size B 10 (fun j => .int .u64 ((getv z (0 + so pwd j) (pwd j) : Nat) : Int)) ∧ w.grownBy w' (some g)
theorem pwd_le32 (j : Nat) (hj : j < 10) : pwd j ≤ 32 := ten (p := fun j => pwd j ≤ 32) (by decide) (by decide) (by decide) (by decide) (by decide) (by decide) (by decide) (by decide) (by decide) (by decide) j hj
theorem so_pwd : so pwd 10 = 160 := by decide
theorem all_ok (g : Nat) (A L : Option Addr) (len cap lc : Nat) (z : Nat → Int) (hl : len ≤ 100000) (h20 : 20 ≤ len) (hz : ∀ j, j < len → 0 ≤ z j ∧ z j < 256) (hLg : ∀ a, L = some a → a.block ≠ g) (hAg : ∀ a, A = some a → a.block < g) (w : World) (h : RS w g A len cap z 0) (hL : Row w w.heap.size L 10 (fun j => .int .i64 (pwd j : Nat))) :
    Calls Try.prog 51 #[.agg #[.pointer (some ⟨g, 0, none⟩)], .slice L 10 lc] w (AllEnd g z w) := by
  have hR : ∀ o : Obj, RS (w.alloc o) g A len cap z 0 := fun o => ⟨(Below.heap_alloc w o g (Array.getElem?_eq_some_iff.1 h.1).1).trans h.1, row_new h.2 o⟩
  have HG := Lib.hid (fun o : Obj => getAll_ok g A L len cap 0 10 lc z pwd hl (by omega) pwd_le32 (by rw [so_pwd]; omega) hz hLg hAg (w.alloc o) (hR o) (row_new hL o))
  clear hR h hL hLg hAg hz h20 hl
  go_enter Try.func51, Try.ntmps51
  go_wp2_with (first | (go_at_call 77; refine (HG.out _).mono ?_; rintro e w1 ⟨B, c, rfl, hR1, hg1⟩; have HR1 := Lib.hid hR1; have HG1 := Lib.hid hg1; clear hR1 hg1) | (go_at_call 76; refine (got_ok _ _ _ _).mono ?_; rintro e w2 ⟨rfl, rfl⟩))
  go_ret
  refine ⟨B, c, rfl, HR1.out, ?_⟩
  have h1 := World.grownBy_alloc w (.cells #[.pointer (some ⟨g, 0, none⟩)] 99) (some g)
  exact h1.trans HG1.out
end Go.Proofs.Ytejadoadpgcpjaa
