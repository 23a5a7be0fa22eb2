/- The walk of CompressNone. -/
import Derived.Test.YtejadoadpgcpjaaGN
namespace Go.Proofs.Ytejadoadpgcpjaa
open Go.RowKit Go.Shelf

attribute [local go_sem] Oper.semAt_some

theorem used0 : ∀ k, usedL S0 k = []
  | 0 => rfl
  | k + 1 => by
    unfold usedL
    rw [used0 k]
    rfl
theorem seq43_not_nil (fb : Nat) (w : World) : (binOp .eql 78 (.func (.func 71) #[] #[.pointer (some ⟨fb, 0, none⟩)]) .nilFunc).run Try.prog w = .ok (.bool false) w := by kernel_rfl
theorem blk_at (W : World) (t : TypeId) (cs : Array Value) (N : Nat) (hN : W.heap.size = N) : Blk (W.alloc (.cells cs t)) N t cs := by
  subst hN; exact Blk.new W t cs
/-- a compressor that New did not make -/
def Unmade (p : Value) (w : World) : Prop := p = .pointer none ∨ ∃ g, p = .pointer (some ⟨g, 0, none⟩) ∧ CB w g false S0 0
theorem Unmade.isNone {p : Value} {w : World} (h : Unmade p w) : Calls Try.prog 62 #[p] w fun e w' => e = .returned (.bool true) ∧ w = w' := by
  rcases h with rfl | ⟨g, rfl, h⟩
  · exact none_nil w
  · exact none_ok g false S0 0 w h
theorem Unmade.compress {p : Value} {w : World} (h : Unmade p w) (Z : Value) : Calls Try.prog 32 #[p, Z] w fun e w' => e = .returned (.tuple #[.slice none 0 0, .int .i64 1]) ∧ Below w.heap.size w w' := by
  rcases h with rfl | ⟨g, rfl, h⟩
  · exact compress_nil Z w
  · exact compress_none g S0 0 Z w h
theorem Unmade.feedback {p : Value} {w : World} (h : Unmade p w) (Z : Value) : Calls Try.prog 45 #[p, Z] w fun e w' => e = .returned (.int .i64 1) ∧ w = w' := by
  rcases h with rfl | ⟨g, rfl, h⟩
  · exact feedback_nil Z w
  · exact feedback_none g S0 0 Z w h
theorem Unmade.reset {p : Value} {w : World} (h : Unmade p w) : Calls Try.prog 46 #[p] w fun e w' => e = .returned (.int .i64 1) ∧ w = w' := by
  rcases h with rfl | ⟨g, rfl, h⟩
  · exact reset_nil w
  · exact reset_none g S0 0 w h
theorem Unmade.clone {p : Value} {w : World} (h : Unmade p w) : Calls Try.prog 42 #[p] w fun e w' => e = .returned (.pointer none) ∧ w = w' := by
  rcases h with rfl | ⟨g, rfl, h⟩
  · exact clone_nil w
  · exact clone_none g S0 0 w h
theorem Unmade.contexts {p : Value} {w : World} (h : Unmade p w) : Calls Try.prog 40 #[p] w fun e w' => e = .returned (.func (.func 71) #[] #[.pointer (some ⟨w.heap.size, 0, none⟩)]) ∧ Blk w' w.heap.size 89 (caArr S0) ∧ Below w.heap.size w w' := by
  rcases h with rfl | ⟨g, rfl, h⟩
  · exact (contexts_nil w).mono fun e w' ⟨h1, h2⟩ => ⟨h1, by rw [← h2]; exact Blk.new _ _ _, by rw [← h2]; exact (Below.refl _ w).alloc (Nat.le_refl _) _⟩
  · exact (contexts_none g S0 0 w h).mono fun e w' ⟨h1, h2⟩ => ⟨h1, by rw [← h2]; exact Blk.new _ _ _, by rw [← h2]; exact (Below.refl _ w).alloc (Nat.le_refl _) _⟩
theorem Unmade.same_nil {p : Value} {w : World} (h : Unmade p w) : Calls Try.prog 43 #[p, .pointer none] w fun e w' => e = .returned (.bool true) ∧ w = w' :=
  same_none p _ true w h.isNone (none_nil w)
theorem Unmade.same_made {p : Value} {w : World} (h : Unmade p w) (g : Nat) (S : Nat → Rx) (T : Int) (hK : CB w g true S T) : Calls Try.prog 43 #[p, .pointer (some ⟨g, 0, none⟩)] w fun e w' => e = .returned (.bool false) ∧ w = w' :=
  same_none p _ false w h.isNone (none_ok g true S T w hK)
theorem Unmade.below {p : Value} {w w' : World} (h : Unmade p w) (hb : Below w.heap.size w w') : Unmade p w' := by
  rcases h with rfl | ⟨g, rfl, h⟩
  · exact .inl rfl
  · exact .inr ⟨g, rfl, h.below hb h.lt⟩

set_option maxRecDepth 100000 in
set_option maxHeartbeats 3200000 in
theorem none_walk (A : Option Addr) (n c : Nat) (zero : Bool) (w : World) :
    Calls Try.prog 14 #[.slice A n c, .bool zero] w fun e w' => e = .returned (.bool true) ∧ Below w.heap.size w w' := by
  have hz := zero91
  refine (callsIn_wide (n := 8)).1 ?_
  refine callsIn_of_wp_marks Try.func14 rfl trivial ?_ rfl
  simp only [Try.ntmps14, List.size_toArray, List.length_cons, List.length_nil, Nat.reduceAdd, Nat.reduceSub, Array.replicate_succ, Array.replicate_zero, List.push_toArray, List.append_toArray, List.nil_append, List.cons_append]
  by_cases hn : 100 < n
  · have hn2 : (100 : Int) < (n : Int) := by omega
    gi_wp2_with (refine ⟨trivial, ?_⟩; gi_at_call 30; refine (callsIn_wide.2 (works43_true _)).mono ?_; rintro e w1 ⟨rfl, hB1⟩; have q9 := hB1.cell (p := ⟨w.heap.size, 0, none⟩) (by simp); have q9f := hB1.frozen (p := ⟨w.heap.size, 0, none⟩) (by simp))
    have h5 : (w1.setCell ⟨w.heap.size, 0, none⟩ (.bool true)).cell? ⟨w.heap.size, 0, none⟩ = some (.bool true) := World.cell?_setCell_same' w1 ⟨w.heap.size, 0, none⟩ (.bool true) (by rw [q9, (Blk.new w 4 #[.bool false]).cell 0]; rfl)
    refine ⟨.bool true, ?_, rfl, ?_⟩
    · simp [results, go_sem, h5]
    · exact (((Below.refl _ w).alloc (Nat.le_refl _) _).trans (hB1.mono (by simp))).setCell (p := ⟨w.heap.size, 0, none⟩) (Nat.le_refl _) _
  · have hn2 : ¬ (100 : Int) < (n : Int) := by omega
    obtain ⟨p, W0, hW0⟩ : ∃ p W0, (zero = false ∧ p = Value.pointer none ∧ W0 = w.alloc (.cells #[.bool false] 4)) ∨ (zero = true ∧ p = Value.pointer (some ⟨w.heap.size + 1, 0, none⟩) ∧ W0 = (w.alloc (.cells #[.bool false] 4)).alloc (.cells (csArr false (fun _ => Rx.zero) 0) 91)) := by
      cases zero
      · exact ⟨_, _, .inl ⟨rfl, rfl, rfl⟩⟩
      · exact ⟨_, _, .inr ⟨rfl, rfl, rfl⟩⟩
    have HU := Lib.hid (show Unmade p W0 from by
      rcases hW0 with ⟨_, rfl, _⟩ | ⟨_, rfl, rfl⟩
      · exact .inl rfl
      · exact .inr ⟨_, rfl, blk_at _ _ _ _ (by simp)⟩)
    have Q0 := Lib.hid (show Blk W0 w.heap.size 4 #[.bool false] from by
      rcases hW0 with ⟨_, _, rfl⟩ | ⟨_, _, rfl⟩
      · exact Blk.new _ _ _
      · exact (Blk.new _ _ _).alloc _)
    have B0 := Lib.hid (show Below w.heap.size w W0 from by
      rcases hW0 with ⟨_, _, rfl⟩ | ⟨_, _, rfl⟩
      · exact (Below.refl _ w).alloc (Nat.le_refl _) _
      · exact ((Below.refl _ w).alloc (Nat.le_refl _) _).alloc (by simp) _)
    rcases hW0 with ⟨rfl, hp, hW⟩ | ⟨rfl, hp, hW⟩
    all_goals
      have HP := Lib.hid hp
      have HW := Lib.hid hW
      clear hp hW
      gi_wp2_with (first
        | (refine ⟨trivial, ?_⟩; gi_at_call 32; rw [← HW.out]; (try rw [← HP.out]); refine (callsIn_wide.2 (HU.out.compress _)).mono ?_; rintro e w1 ⟨rfl, b1⟩; have HU1 := Lib.hid (HU.out.below b1); have Q1 := Lib.hid (Q0.out.below b1 Q0.out.lt); have B1 := Lib.hid (below_step B0.out b1); clear b1)
        | (refine ⟨trivial, ?_⟩; gi_at_call 40; (try rw [← HP.out]); refine (callsIn_wide.2 (HU1.out.contexts)).mono ?_; rintro e w2 ⟨rfl, c2, b2⟩; have HU2 := Lib.hid (HU1.out.below b2); have Q2 := Lib.hid (Q1.out.below b2 Q1.out.lt); have B2 := Lib.hid (below_step B1.out b2); have C2 := Lib.hid c2; have hnn := seq43_not_nil w1.heap.size; clear b2 c2))
      refine wpIn_rangeFunc_ownF rfl (by decide) (gf := 71) (lb := #[.pointer (some ⟨w1.heap.size, 0, none⟩)]) rfl trivial (enters_of Try.func71 (by kernel_rfl) rfl)
        (ctx_stops S0 w1.heap.size 7 w2 C2.out (by decide)) (fun _ _ => trivial) (fun _ _ _ _ _ _ _ _ => trivial) (Below.refl _ _) (fun _ => rfl)
        (fun _ W => Below w2.heap.size w2 W) (fun _ _ _ => False) (ownFrom_below (Nat.le_refl _) (Nat.le_refl _)) (fun _ _ _ _ _ h _ _ => h) (Below.refl _ _) ?_ ?_ ?_ ?_ ?_
      rotate_left
      · intro l x U K hK
        gi_wp2
        exact hK
      · intro l pre x U _ hlen
        rw [used0] at hlen
        exact absurd hlen (by simp)
      · rintro D xs W hD rfl hBW hK
        have HU3 := Lib.hid (HU2.out.below hBW)
        have Q3 := Lib.hid (Q2.out.below hBW Q2.out.lt)
        have B3 := Lib.hid (below_step B2.out hBW)
        have HBW := Lib.hid hBW
        have HK := Lib.hid hK
        clear hBW hK
        gi_wp2_with (first
          | (refine ⟨trivial, ?_⟩; gi_at_call 33; refine (callsIn_wide.2 (num43_ok _ _)).mono ?_; rintro e w3 ⟨rfl, rfl⟩)
          | (refine ⟨trivial, ?_⟩; gi_at_call 45; refine (callsIn_wide.2 (HU3.out.feedback _)).mono ?_; rintro e w3 ⟨rfl, rfl⟩)
          | (refine ⟨trivial, ?_⟩; gi_at_call 46; refine (callsIn_wide.2 (HU3.out.reset)).mono ?_; rintro e w3 ⟨rfl, rfl⟩)
          | (refine ⟨trivial, ?_⟩; gi_at_call 42; refine (callsIn_wide.2 (HU3.out.clone)).mono ?_; rintro e w3 ⟨rfl, rfl⟩)
          | (refine ⟨trivial, ?_⟩; gi_at_call 43; ((with_reducible refine (callsIn_wide.2 (HU3.out.same_nil)).mono ?_); rintro e w3 ⟨rfl, rfl⟩))
          | (refine ⟨trivial, ?_⟩; gi_at_call 31; refine (callsIn_wide.2 (new_ok2 _)).mono ?_; rintro e w4 ⟨rfl, k4, b4⟩; have K4 := Lib.hid k4; have HU4 := Lib.hid (HU3.out.below b4); have Q4 := Lib.hid (Q3.out.below b4 Q3.out.lt); have B4 := Lib.hid (below_step B3.out b4); have E4 := Lib.hid b4; clear k4 b4)
          | (refine ⟨trivial, ?_⟩; gi_at_call 43; ((with_reducible refine (callsIn_wide.2 (HU4.out.same_made _ _ _ K4.out)).mono ?_); rintro e w3 ⟨rfl, rfl⟩))
          | (refine ⟨trivial, ?_⟩; gi_at_call 30; refine (callsIn_wide.2 (works43_true _)).mono ?_; rintro e w9 ⟨rfl, b9⟩; have Q9 := Lib.hid (Q4.out.below b9 Q4.out.lt); have B9 := Lib.hid (below_step B4.out b9); have E9 := Lib.hid b9; have q9 := Q9.out.cell 0; have q9f := Q9.out.frozen 0; clear b9))
        have hDW : D < W.heap.size := (Array.getElem?_eq_some_iff.1 HK.out).1
        have hD9 : w9.heap[D]? = some (.deferred (some [])) := (E9.out.block D (by have := E4.out.size; omega)).trans ((E4.out.block D hDW).trans HK.out)
        have hD9' := (KeepsOthers.setCell w9 ⟨w.heap.size, 0, none⟩ (.bool true)).same D _ hD9 rfl
        refine ⟨by simp, .inl ⟨_, _, rfl, run_takeDeferred hD9', ?_⟩⟩
        have h5 : ((w9.setCell ⟨w.heap.size, 0, none⟩ (.bool true)).putObj D (.deferred none)).cell? ⟨w.heap.size, 0, none⟩ = some (.bool true) :=
          cell_kept (World.cell?_setCell_same' w9 ⟨w.heap.size, 0, none⟩ (.bool true) (by rw [q9]; rfl)) (grownBy_putObj' _ D (.deferred none)) (fun r e => by cases e; exact ⟨_, hD9', rfl⟩)
        refine ⟨.bool true, ?_, rfl, ?_⟩
        · simp [results, go_sem, h5]
        · have hb : Below w.heap.size w (w9.setCell ⟨w.heap.size, 0, none⟩ (.bool true)) := B9.out.setCell (p := ⟨w.heap.size, 0, none⟩) (Nat.le_refl _) _
          exact hb.grown (grownBy_putObj' _ D (.deferred none)) hb.size (fun k e => by cases e; have := B2.out.size; omega)
      · rintro D c pre W hD _ h _
        exact h.elim
end Go.Proofs.Ytejadoadpgcpjaa
