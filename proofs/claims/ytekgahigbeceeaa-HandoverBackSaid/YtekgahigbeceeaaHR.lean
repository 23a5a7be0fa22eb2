/- slices.Clone of bytes; handover.feedback. -/
import Derived.Test.YtekgahigbeceeaaHQ
namespace Go.Proofs.Ytekgahigbeceeaa
open Go.RowKit

/-- a slice of the call's own: its block, if it has one, lies at or beyond base -/
def Fresh (base : Nat) (A : Option Addr) : Prop := ∀ a, A = some a → base ≤ a.block

theorem fresh_none (base : Nat) : Fresh base none := fun _ h => by cases h
theorem fresh_some {base g o : Nat} (h : base ≤ g) : Fresh base (some ⟨g, o, none⟩) := fun _ e => by cases e; exact h

set_option maxRecDepth 100000 in
set_option maxHeartbeats 800000 in
theorem clone_any (A : Option Addr) (n c : Nat) (z : Nat → Int) (w : World) (hn : n ≤ 140737488355328) (hr : Row w w.heap.size A n (fun j => .int .u8 (z j))) :
    Calls Try.prog 61 #[.slice A n c] w fun e w' => ∃ A2 c2, e = .returned (.slice A2 n c2) ∧ Row w' w'.heap.size A2 n (fun j => .int .u8 (z j)) ∧ Fresh w.heap.size A2 ∧ Below w.heap.size w w' := by
  have HR := Lib.hid hr
  clear hr
  obtain ⟨i0, hi, hz0, hz1, hz2⟩ := info_parts Try.infoByte
  have hnil := Lib.run_eql_slice_nil (P := Try.prog) (t := 22)
  cases A with
  | none =>
    have h0 : n = 0 := by
      rcases Nat.eq_zero_or_pos n with h0 | h0
      · exact h0
      · obtain ⟨b, off, h, _⟩ := HR.out h0
        cases h
    subst h0
    go_enter Try.func61, Try.ntmps61
    go_wp2
    go_ret
    exact ⟨none, 0, rfl, Row.nil, fresh_none _, Below.refl _ _⟩
  | some ad =>
    go_enter Try.func61, Try.ntmps61
    go_wp2_with (at_builtin; refine wpList_append_src _ rfl _ _ 22 rfl w.heap.size 5 i0 (.int .u8 0) 1 Try.underlying22 hi hz0 hz1 hz2 rfl _ _ _ rfl (owns_empty w 5) w.heap.size (some ad) n c (fun j => .int .u8 (z j)) rfl (HR.out.alloc (Nat.le_refl _) _) (fun _ => rfl) (by unfold maxLen; omega) (by omega) (by simp) ?_; intro v1 w1 hown1 hg1 hv1)
    go_ret
    obtain ⟨g0, c0, rfl⟩ := own_some hown1 hv1
    exact ⟨some ⟨g0, 0, none⟩, c0, by simp, own_row_map hown1, fresh_some (hown1.lt g0 (by simp [Value.ownBlock])).1, copy_below hg1⟩

def FeedPost (n : Nat) (z : Nat → Int) (w : World) (e : Ending) (w' : World) : Prop :=
  ∃ A2 c2, e = .returned (.tuple #[.agg #[.int .i64 (if n = 0 then 0 else 1), .int .u32 0, .slice none 0 0, .slice A2 n c2], .int .i64 (if n = 0 then 5 else 0)]) ∧ Row w' w'.heap.size A2 n (fun j => .int .u8 (z j)) ∧ Below w.heap.size w w'
set_option maxRecDepth 100000 in
set_option maxHeartbeats 800000 in
theorem feedback_any (A : Option Addr) (n c : Nat) (z : Nat → Int) (w : World) (hn : n ≤ 140737488355328) (hr : Row w w.heap.size A n (fun j => .int .u8 (z j))) :
    Calls Try.prog 44 #[.slice A n c] w (FeedPost n z w) := by
  have HR := Lib.hid hr
  clear hr
  by_cases h0 : n = 0
  · subst h0
    go_enter Try.func44, Try.ntmps44
    go_wp2
    refine bodyPost_ret (v := .tuple #[.agg #[.int .i64 0, .int .u32 0, .slice none 0 0, .slice none 0 0], .int .i64 5]) (by simp [results, Try.results44, go_sem]) rfl ⟨none, 0, rfl, Row.nil, (Below.refl w.heap.size w).alloc (Nat.le_refl _) _⟩
  · have hnz : ((n : Int) == 0) = false := by simp; omega
    go_enter Try.func44, Try.ntmps44
    go_wp2_with (go_at_call 61; refine (clone_any _ _ _ z _ hn (HR.out.alloc (Nat.le_refl _) _ |>.more (by simp))).mono ?_; rintro e w1 ⟨A2, c2, rfl, hR, hfr, hb⟩; have R0 : Blk w1 w.heap.size 28 #[.int .i64 0, .int .u32 0, .slice none 0 0, .slice none 0 0] := (Blk.new _ _ _).below hb (by simp); obtain ⟨c0, c1', c2', c3, f0, f1, f2, f3⟩ := R0.four; have R := Lib.hid R0; clear R0)
    obtain ⟨y0, y1, y2, y3, _, _, _, _⟩ := Blk.four (a := .int .i64 1) (b := .int .u32 0) (c := .slice none 0 0) (d := .slice A2 n c2) ((((R.out.set_ 0 (.int .i64 1)).set_ 1 (.int .u32 0)).set_ 2 (.slice none 0 0)).set_ 3 (.slice A2 n c2))
    refine bodyPost_ret (v := .tuple #[.agg #[.int .i64 1, .int .u32 0, .slice none 0 0, .slice A2 n c2], .int .i64 0]) (by simp [results, Try.results44, go_sem, y0, y1, y2, y3]) rfl ⟨A2, c2, by rw [if_neg h0, if_neg h0], hR.four_stores R.out (by intro u j hu; simp at hu; rcases hu with rfl | rfl | rfl | rfl | rfl | rfl | rfl | rfl <;> simp), ?_⟩
    exact (((((((Below.refl w.heap.size w).alloc (Nat.le_refl _) _).trans (hb.mono (by simp))).setCell (by simp) _).setCell (by simp) _).setCell (by simp) _).setCell (by simp) _)
end Go.Proofs.Ytekgahigbeceeaa
