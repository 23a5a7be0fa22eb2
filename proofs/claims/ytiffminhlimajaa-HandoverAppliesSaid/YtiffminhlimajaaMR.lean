/- law 47, XHR without what XU has. -/
import Derived.Test.YtiffminhlimajaaMQ
namespace Go.Proofs.Ytiffminhlimajaa
open Go.RowKit
def FeedPost (n : Nat) (z : Nat → Int) (w : World) (e : Ending) (w' : World) : Prop :=
  ∃ A2 c2, e = .returned (.tuple #[.agg #[.int .i64 (if n = 0 then 0 else 1), .int .u32 0, .slice none 0 0, .slice A2 n c2], .int .i64 (if n = 0 then 5 else 0)]) ∧ Row w' w'.heap.size A2 n (fun j => .int .u8 (z j)) ∧ Below w.heap.size w w'
set_option maxRecDepth 100000 in
set_option maxHeartbeats 800000 in
theorem feedback_any (A : Option Addr) (n c : Nat) (z : Nat → Int) (w : World) (hn : n ≤ 140737488355328) (hr : Row w w.heap.size A n (fun j => .int .u8 (z j))) :
    Calls Try.prog 29 #[.slice A n c] w (FeedPost n z w) := by
  have HR := Lib.hid hr
  clear hr
  by_cases h0 : n = 0
  · subst h0
    go_enter Try.func29, Try.ntmps29
    go_wp2
    refine bodyPost_ret (v := .tuple #[.agg #[.int .i64 0, .int .u32 0, .slice none 0 0, .slice none 0 0], .int .i64 5]) (by simp [results, Try.results29, go_sem]) rfl ⟨none, 0, rfl, Row.nil, (Below.refl w.heap.size w).alloc (Nat.le_refl _) _⟩
  · have hnz : ((n : Int) == 0) = false := by simp; omega
    go_enter Try.func29, Try.ntmps29
    go_wp2_with (go_at_call 20; refine (clone_any _ _ _ z _ hn (HR.out.alloc (Nat.le_refl _) _ |>.more (by simp))).mono ?_; rintro e w1 ⟨A2, c2, rfl, _, hR, hfr, hb⟩; have R0 : Blk w1 w.heap.size 43 #[.int .i64 0, .int .u32 0, .slice none 0 0, .slice none 0 0] := (Blk.new _ _ _).below hb (by simp); obtain ⟨c0, c1', c2', c3, f0, f1, f2, f3⟩ := R0.four; have R := Lib.hid R0; clear R0)
    obtain ⟨y0, y1, y2, y3, _, _, _, _⟩ := Blk.four (a := .int .i64 1) (b := .int .u32 0) (c := .slice none 0 0) (d := .slice A2 n c2) ((((R.out.set_ 0 (.int .i64 1)).set_ 1 (.int .u32 0)).set_ 2 (.slice none 0 0)).set_ 3 (.slice A2 n c2))
    refine bodyPost_ret (v := .tuple #[.agg #[.int .i64 1, .int .u32 0, .slice none 0 0, .slice A2 n c2], .int .i64 0]) (by simp [results, Try.results29, go_sem, y0, y1, y2, y3]) rfl ⟨A2, c2, by rw [if_neg h0, if_neg h0], hR.four_stores R.out (by intro u j hu; simp at hu; rcases hu with rfl | rfl | rfl | rfl | rfl | rfl | rfl | rfl <;> simp), ?_⟩
    exact (((((((Below.refl w.heap.size w).alloc (Nat.le_refl _) _).trans (hb.mono (by simp))).setCell (by simp) _).setCell (by simp) _).setCell (by simp) _).setCell (by simp) _)
end Go.Proofs.Ytiffminhlimajaa
