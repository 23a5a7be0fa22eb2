/- header.Parse: too long a packet. -/
import Derived.Test.YtejadoadpgcpjaaES
import Derived.Deep.RegionWith
import Derived.Deep.DeepCutAuto
import Derived.Deep.CutRange
import Derived.Deep.CutBlock
namespace Go.Proofs.Ytejadoadpgcpjaa
open Go.RowKit Go.Shelf

attribute [local go_sem] Oper.semAt_some

theorem three_new (w : World) : ∀ W, W = ((w.alloc (.cells #[.int .i64 0, .int .i64 0, .int .i64 0, .int .i64 0, .int .i64 0, .int .i64 0, .int .i64 0, .int .i64 0, .int .i64 0] 25)).alloc (.cells #[.slice none 0 0] 22)).alloc (.cells #[.int .i64 0] 26) →
    Blk W w.heap.size 25 (hdr (fun _ => 0)) ∧ Blk W (w.heap.size + 1) 22 #[.slice none 0 0] ∧ Blk W (w.heap.size + 1 + 1) 26 #[.int .i64 0] ∧ Below w.heap.size w W ∧ W.heap.size = w.heap.size + 1 + 1 + 1 := by
  rintro W rfl
  refine ⟨((Blk.new w 25 (hdr (fun _ => 0))).alloc _).alloc _, ?_, ?_, (((Below.refl _ w).alloc (Nat.le_refl _) _).alloc (by simp) _).alloc (by simp; omega) _, by simp⟩
  · have := (Blk.new (w.alloc (.cells (hdr (fun _ => 0)) 25)) 22 #[.slice none 0 0])
    rw [World.size_alloc] at this
    exact this.alloc _
  · have := (Blk.new ((w.alloc (.cells (hdr (fun _ => 0)) 25)).alloc (.cells #[.slice none 0 0] 22)) 26 #[.int .i64 0])
    rw [World.size_alloc, World.size_alloc] at this
    exact this

set_option maxRecDepth 100000 in
set_option maxHeartbeats 400000 in
theorem parse_long (A : Option Addr) (n c : Nat) (hn : 9000 < n) (w : World) :
    Calls Try.prog 16 #[.slice A n c] w (BadEnd w 4) := by
  have hmf : ∀ (fn : Fn) (first cap : Array Value) (w : World), (Instr.makeFunc fn first cap).run Try.prog w = .ok (.func fn first cap) w := fun _ _ _ _ => rfl
  have hn20 : (20 ≤ (n : Int)) := by omega
  have hn9 : ¬ ((n : Int) ≤ 9000) := by omega
  have hd9 : decide ((n : Int) ≤ 9000) = false := by simp; omega
  have hd20 : decide (20 ≤ (n : Int)) = true := by simp; omega
  go_enter_defers Try.func16, Try.ntmps16
  go_wp2_with (first | (go_at_call 49; refine (must_false 4 _).mono ?_; rintro e w1 ⟨rfl, rfl⟩) | (go_at_call 49; refine (must_true 5 _).mono ?_; rintro e w1 ⟨rfl, rfl⟩))
  have T := three_new w _ rfl
  refine bad_leaves w _ (fun _ => 0) (.slice none 0 0) 0 4 w.heap.size _ rfl ?_ ?_ ?_ ?_ rfl rfl rfl
  · exact T.1
  · exact T.2.1
  · exact T.2.2.1
  · exact T.2.2.2.1

end Go.Proofs.Ytejadoadpgcpjaa
