/- header.widths, parser.all. -/
import Derived.Test.YtejadoadpgcpjaaEO
namespace Go.Proofs.Ytejadoadpgcpjaa
open Go.RowKit Go.Shelf

attribute [local go_sem] Oper.semAt_some

theorem fields_fn (w : World) : Calls Try.prog 27 #[] w fun e w' => e = .returned (.func (.func 61) #[] #[]) ∧ w' = w := by
  go_enter Try.func27, Try.ntmps27
  go_wp2
  go_ret
  exact ⟨rfl, rfl⟩
def WidthsEnd (w : World) (e : Ending) (w' : World) : Prop :=
  ∃ B c, e = .returned (.slice B 10 c) ∧ Row w' w'.heap.size B 10 (fun j => .int .i64 (pwd j : Nat)) ∧ Fresh w.heap.size B ∧ Below w.heap.size w w'

set_option maxRecDepth 100000 in
set_option maxHeartbeats 2000000 in
theorem widths_ok (w : World) : Calls Try.prog 52 #[] w (WidthsEnd w) := by
  obtain ⟨i0, hi0, hz0, hz1, hz2⟩ := info_parts Try.infoInt
  refine (callsIn_wide (n := 8)).1 ?_
  refine callsIn_of_wp_marks Try.func52 rfl trivial ?_ rfl
  simp only [Try.ntmps52, List.size_toArray, List.length_nil, Nat.reduceSub, Array.replicate_succ, Array.replicate_zero, List.push_toArray, List.append_toArray, List.nil_append, List.cons_append]
  gi_wp2_with (refine ⟨trivial, ?_⟩; gi_at_call 27; refine (callsIn_wide.2 (fields_fn _)).mono ?_; rintro e w3 ⟨rfl, rfl⟩)
  obtain ⟨W0, hW0⟩ : ∃ W0, W0 = w.alloc (.cells #[.slice none 0 0] 43) := ⟨_, rfl⟩
  have z0 : W0.heap.size = w.heap.size + 1 := by rw [hW0]; simp
  have B0 : Boxed W0 w.heap.size 43 (.slice none 0 0) := by rw [hW0]; exact Boxed.new w _ _
  have hb0 : Below w.heap.size w W0 := by rw [hW0]; exact (Below.refl _ w).alloc (Nat.le_refl _) _
  rw [← hW0]
  clear hW0
  refine wpIn_rangeFunc_ownF rfl (by decide) (gf := 61) (lb := #[]) rfl trivial (enters_of Try.func61 (by kernel_rfl) rfl)
    (fields_stops 7 W0 (by decide)) (fun _ _ => trivial) (fun _ _ _ _ _ _ _ _ => trivial) (Below.refl _ _) (fun _ => rfl)
    (fun pre W => (∃ v, Boxed W w.heap.size 43 v ∧ W.ownsRow (w.heap.size + 1) 3 1 v pre.length (pre.map (fun k => Value.int .i64 (pwd k : Nat))) ∧ True) ∧ Below w.heap.size W0 W)
    (fun c pre W => False)
    (OwnFrom.and (Own.from (holdsRow_own (w.heap.size + 1) w.heap.size 43 3 1 (fun s : List Nat => s.length) (fun s => s.map (fun k => Value.int .i64 (pwd k : Nat))) (fun _ _ => True)) _) (ownFrom_below (by omega) (by omega)))
    (fun c s A B row hs hg hr => hs)
    ⟨⟨_, B0, World.ownsRow_nil _ _ _ _, trivial⟩, Below.refl _ _⟩
    ?a1 ?assign ?body ?done ?stop
  case assign =>
    intro l x W K hK
    gi_wp2
    exact hK
  case body =>
    rintro l pre x W ⟨⟨v, hbx, hown, _⟩, hBW⟩ hlen
    have hc := hbx.cell
    have hbs := hBW.size
    gi_wp2_with (gi_at_builtin; refine wpListIn_append_own _ rfl _ _ 43 rfl (w.heap.size + 1) 3 i0 (.int .i64 0) 1 8 Try.underlying43 hi0 hz0 hz1 hz2 rfl (by decide) _ _ _ rfl (hown.alloc _) ⟨W.heap.size, 0, none⟩ 1 1 [.int .i64 (pwd x : Nat)] rfl rfl (cell_one_new _ _ _) (by simp [Value.oneCell']) (by unfold maxLen; omega) (by omega) (by simp; omega) ?_; intro v' w1 hown' hgrow _; obtain ⟨g', cap', rfl⟩ := ownsRow_succ hown'; obtain ⟨hv1, hv2, hr2, hk2, hb2⟩ := hbx.appended (by decide) (ownsRow_mono hown (by omega)) (by omega : w.heap.size ≤ W.heap.size) (Nat.le_refl _) (ownsRow_mono hown' (by omega)) hgrow; have hc1 := hv1.cell; have hf1 := hv1.frozen)
    have hown2 := hown'.kept (grownBy_setCell' w1 w.heap.size (.slice (some ⟨g', 0, none⟩) (pre.length + 1) cap')) (.inr (hv1.not_row (by decide) hown').symm)
    exact ⟨hk2, trivial, ⟨_, hv2, by simpa using hown2, trivial⟩, hBW.trans hb2⟩
  case stop =>
    rintro D c pre W _ _ h _
    exact h.elim
  case done =>
    rintro D xs W hD rfl ⟨⟨v, hbx, hown, _⟩, hBW⟩ hK
    obtain ⟨A, cap, rfl, hcap, hcapm, hfr, hrow⟩ := own_any (f := fun j => .int .i64 (pwd j : Nat)) hown (fun j hj => by
      have : j < 10 := by simpa using hj
      simp [this])
    have hc := hbx.cell
    have hcf := hbx.frozen
    gi_wp2
    have hDn : D ≠ w.heap.size := by have := hBW.size; omega
    have hK2 : (W.setCell ⟨w.heap.size, 0, none⟩ (.slice A 10 cap)).heap[D]? = some (.deferred (some [])) := (Below.heap_setCell _ _ _ D hDn).trans hK
    refine ⟨by simp, .inl ⟨_, _, rfl, run_takeDeferred hK2, ?_⟩⟩
    have y0 := ((hbx.set (.slice A 10 cap)).kept (grownBy_putObj' _ D (.deferred none)) (fun e => hDn (by cases e; rfl))).cell
    refine ⟨.slice A 10 cap, by simp [results, Try.results52, go_sem, y0], A, cap, rfl, ?_, ?_, ?_⟩
    · have hfar := hrow.apart hbx (by intro i hi j; have hi1 : i < 1 := hi; obtain rfl : i = 0 := by omega
                                      simp) (p := ⟨w.heap.size, 0, none⟩) rfl (.slice A 10 cap)
      exact hfar.put hK2 rfl _
    · intro p hp
      have := hfr p hp
      omega
    · exact ((hb0.trans hBW).setCell (Nat.le_refl _) _).grown (grownBy_putObj' _ D _) (by have := hBW.size; simp; omega) (fun k e => by cases e; have := hBW.size; omega)
end Go.Proofs.Ytejadoadpgcpjaa
