/- EncodeFeedback. -/
import Derived.Test.YtekgahigbeceeaaHI
namespace Go.Proofs.Ytekgahigbeceeaa
open Go.RowKit

/-- byte j of header feedback -/
def fb (z : Nat → Int) (j : Nat) : Int := if j = 0 then 16 else z (j - 1)

theorem feed_short (A : Option Addr) (c : Nat) (w : World) :
    Calls Try.prog 20 #[.slice A 0 c] w fun e w' => e = .returned (.tuple #[.slice none 0 0, .int .i64 5]) ∧ Below w.heap.size w w' := by
  go_enter Try.func20, Try.ntmps20
  go_wp2
  go_ret2
  exact ⟨rfl, Below.refl _ _⟩

set_option maxRecDepth 100000 in
theorem feed_good (A : Option Addr) (n c : Nat) (z : Nat → Int) (w : World) (h0 : 0 < n) (hn : n ≤ 9000) (hr : Row w w.heap.size A n (fun j => .int .u8 (z j))) :
    Calls Try.prog 20 #[.slice A n c] w fun e w' => ∃ A2 c2, e = .returned (.tuple #[.slice A2 (n + 1) c2, .int .i64 0]) ∧ Row w' w'.heap.size A2 (n + 1) (fun j => .int .u8 (fb z j)) ∧ Below w.heap.size w w' := by
  have HR := Lib.hid hr
  clear hr
  obtain ⟨i0, hi, hz0, hz1, hz2⟩ := info_parts Try.infoByte
  have hown0 : (w.alloc (.cells #[.int .u8 16] 5)).ownsRow w.heap.size 5 1 (.slice (some ⟨w.heap.size, 0, none⟩) 1 1) 1 [.int .u8 16] :=
    ⟨rfl, .inr ⟨_, _, _, rfl, Nat.le_refl _, heap_alloc_new w _, Nat.le_refl _, by decide, rfl, rfl⟩⟩
  go_enter Try.func20, Try.ntmps20
  go_wp2_with (at_builtin; refine wpList_append_src _ rfl _ _ 22 rfl w.heap.size 5 i0 (.int .u8 0) 1 Try.underlying22 hi hz0 hz1 hz2 rfl _ _ _ rfl hown0 w.heap.size A n c (fun j => .int .u8 (z j)) rfl (HR.out.alloc (Nat.le_refl _) _) (fun _ => rfl) (by unfold maxLen; omega) (by omega) (by simp) ?_; intro v' w2 hown' hg2 hv')
  go_ret2
  obtain ⟨g, cap, rfl, hg, hgl⟩ := own_form hown' (by omega)
  rw [Nat.add_comm 1 n] at hown' ⊢
  refine ⟨_, _, rfl, own_row hown' (fun j hj => ?_) hgl, ?_⟩
  · unfold fb
    by_cases hj0 : j = 0
    · subst hj0; rfl
    · rw [if_neg hj0, List.getElem?_append_right (by simp; omega), List.getElem?_map, List.length_singleton, List.getElem?_range (by omega)]
      rfl
  · exact ((Below.refl w.heap.size w).alloc (Nat.le_refl _) _).grown hg2 (by simp) fun k hk => by
      have := (hown0.lt k hk).1
      exact this
end Go.Proofs.Ytekgahigbeceeaa
