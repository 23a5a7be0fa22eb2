/- handover: what is nil or zero: Tx, Rx, Side. -/
import Derived.Test.YtiffminhlimajaaGreatU
import Derived.Deep.RegionHeld3
import Derived.Laws.Rows
import Derived.Deep.DrawnRows
import Derived.Deep.RegionWith
import Derived.Deep.DeepCutAuto
import Derived.Deep.CutRange
import Derived.Deep.CutBlock
import Derived.BigQuiet
namespace Go.Proofs.YtiffminhlimajaaGreat
open Go.RowKit

attribute [local go_sem ↓] Go.wp_at_zero Go.wp_at_succ

/-- the zero configuration -/
def z39 : Array Value := #[.int .i64 0, .int .i64 0, .int .u8 0, .int .u8 0, .int .u8 0, .int .u8 0, .int .u8 0, .int .u8 0, .int .u8 0, .int .u8 0, .int .u8 0, .int .u8 0, .int .u8 0, .int .u8 0, .int .u8 0, .int .u8 0, .int .u8 0, .int .u8 0, .int .u8 0, .int .u8 0, .int .u8 0, .int .u8 0, .int .u8 0, .int .u8 0, .int .u8 0, .int .u8 0, .int .u8 0, .int .u8 0, .int .u8 0, .int .u8 0, .int .u8 0, .int .u8 0, .int .u8 0, .int .u8 0, .bool false, .bool false, .bool false, .int .i64 0, .int .i64 0]
theorem results_cell_one {P : Program} {fn : Func} {p q : Tmp} {ty : TypeId} (h : fn.results = #[.cell p ty, .tmp q]) (tmps : Array Value) (w : World) (g : Nat) (t : TypeId) (cs : Array Value) (fr : Nat × Nat) (d : TypeDesc)
    (hp : tmps.getD p undef = .pointer (some ⟨g, 0, none⟩)) (hg : w.heap[g]? = some (.cells cs t fr))
    (hu : P.underlying ty = some d) (hd : (match d with | .struct _ | .array _ _ => true | _ => false) = true) (hi : (P.info? ty).map (·.size) = some cs.size) (u : Value) (hq : tmps.getD q undef = u) :
    (results fn tmps).run P w = .ok (.tuple #[.agg cs, u]) w := by
  subst hq
  have hp' : tmps[p]?.getD undef = .pointer (some ⟨g, 0, none⟩) := by simpa using hp
  simp [results, h, hp', asAddr, run_loadVar_row w g t ty cs fr d hg hu hd hi]
theorem sizePd : (Tryz.prog.info? 25).map (·.size) = some 39 := by kernel_rfl
theorem z39_one : z39.all (·.oneCell') = true := by unfold z39; simp [Value.oneCell']
theorem Blk.setRow {w : World} {g : Nat} {t : TypeId} {cs ds : Array Value} (h : Blk w g t cs) : Blk (w.setRow g ds) g t ds := setRow_heap w g cs ds t (0, 0) h
theorem Blk.farRow {w : World} {g k : Nat} {t : TypeId} {cs ds : Array Value} (h : Blk w g t cs) (hne : g ≠ k) : Blk (w.setRow k ds) g t cs := (setRow_other w k g ds hne).trans h
theorem belowRow {b : Nat} {w0 w : World} (h : Below b w0 w) {g : Nat} (hg : b ≤ g) (cs : Array Value) : Below b w0 (w.setRow g cs) :=
  ⟨h.os, h.tape, h.output, by rw [size_setRow]; exact h.size, fun i hi => (setRow_other w g i cs (by omega)).trans (h.block i hi)⟩
section
variable {w w' : World} {g : Nat} {t : TypeId} {cs : Array Value}
theorem Blk.range {w : World} {g : Nat} {t : TypeId} {cs : Array Value} (h : Blk w g t cs) (vs : List Value) (hv : cs = vs.toArray) : w.rangeAt g 0 vs := fun j v hj => by
  rw [Nat.zero_add, h.cell j, hv]; simpa using hj
theorem Blk.there {w : World} {g : Nat} {t : TypeId} {cs : Array Value} (h : Blk w g t cs) (n : Nat) (hn : n ≤ cs.size) : w.there g 0 n := fun j hj => by
  rw [Nat.zero_add]
  refine ⟨?_, h.frozen j⟩
  rw [h.cell j, Array.getElem?_eq_getElem (by omega)]; rfl
end
/-- a transmitter that is nil or zero -/
def TNone (p : Value) (W : World) : Prop := p = .pointer none ∨ ∃ g, p = .pointer (some ⟨g, 0, none⟩) ∧ g < W.heap.size ∧ W.cell? ⟨g, 39, none⟩ = some (.bool false)
theorem TNone.below {p : Value} {W W' : World} (h : TNone p W) (hb : Below W.heap.size W W') : TNone p W' := by
  rcases h with rfl | ⟨g, rfl, h1, h2⟩
  · exact .inl rfl
  · exact .inr ⟨g, rfl, Nat.lt_of_lt_of_le h1 hb.size, (hb.cell (p := ⟨g, 39, none⟩) h1).trans h2⟩

theorem tnone_ok (p : Value) (w : World) (h : TNone p w) : Calls Tryz.prog 54 #[p] w fun e w' => e = .returned (.bool true) ∧ w = w' := by
  rcases h with rfl | ⟨g, rfl, _, h2⟩
  · go_enter Tryz.func54, Tryz.ntmps54
    go_wp2
    go_ret
    exact ⟨rfl, rfl⟩
  · go_enter Tryz.func54, Tryz.ntmps54
    go_wp2
    go_ret
    exact ⟨rfl, rfl⟩
theorem rnone_ok (p : Value) (w : World) (h : TNone p w) : Calls Tryz.prog 106 #[p] w fun e w' => e = .returned (.bool true) ∧ w = w' := by
  rcases h with rfl | ⟨g, rfl, _, h2⟩
  · go_enter Tryz.func106, Tryz.ntmps106
    go_wp2
    go_ret
    exact ⟨rfl, rfl⟩
  · go_enter Tryz.func106, Tryz.ntmps106
    go_wp2
    go_ret
    exact ⟨rfl, rfl⟩
set_option maxRecDepth 100000 in
theorem tconf_none (p : Value) (w : World) (h : TNone p w) : Calls Tryz.prog 27 #[p] w fun e w' => e = .returned (.tuple #[.agg z39, .int .i64 1]) ∧ Below w.heap.size w w' := by
  have HN := Lib.hid (fun W hW => tnone_ok p W hW)
  have HT := Lib.hid h
  clear h
  have HS : Hid ((Tryz.prog.info? 25).map (·.size) = some z39.size) := Lib.hid sizePd
  go_enter Tryz.func27, Tryz.ntmps27
  go_wp2_with (first
    | (go_at_call 54; refine (HN.out _ (HT.out.below ((Below.refl _ w).alloc (Nat.le_refl _) _))).mono ?_; rintro e w1 ⟨rfl, rfl⟩)
    | (refine wpList_store_row rfl _ _ _ rfl w.heap.size z39 rfl rfl 25 z39 (Blk.new w _ _) HS.out rfl z39_one ?_))
  refine bodyPost_ret (v := .tuple #[.agg z39, .int .i64 1]) (results_cell_one (g := w.heap.size) (t := 25) (fr := (0, 0)) Tryz.results27 _ _ z39 _ rfl (Blk.setRow (Blk.new w _ _)) Tryz.underlying25 rfl HS.out _ rfl) rfl ⟨rfl, belowRow ((Below.refl _ w).alloc (Nat.le_refl _) _) (Nat.le_refl _) _⟩
set_option maxRecDepth 100000 in
theorem rconf_none (p : Value) (w : World) (h : TNone p w) : Calls Tryz.prog 105 #[p] w fun e w' => e = .returned (.tuple #[.agg z39, .int .i64 1]) ∧ Below w.heap.size w w' := by
  have HN := Lib.hid (fun W hW => rnone_ok p W hW)
  have HT := Lib.hid h
  clear h
  have HS : Hid ((Tryz.prog.info? 25).map (·.size) = some z39.size) := Lib.hid sizePd
  go_enter Tryz.func105, Tryz.ntmps105
  go_wp2_with (first
    | (go_at_call 106; refine (HN.out _ (HT.out.below ((Below.refl _ w).alloc (Nat.le_refl _) _))).mono ?_; rintro e w1 ⟨rfl, rfl⟩)
    | (refine wpList_store_row rfl _ _ _ rfl w.heap.size z39 rfl rfl 25 z39 (Blk.new w _ _) HS.out rfl z39_one ?_))
  refine bodyPost_ret (v := .tuple #[.agg z39, .int .i64 1]) (results_cell_one (g := w.heap.size) (t := 25) (fr := (0, 0)) Tryz.results105 _ _ z39 _ rfl (Blk.setRow (Blk.new w _ _)) Tryz.underlying25 rfl HS.out _ rfl) rfl ⟨rfl, belowRow ((Below.refl _ w).alloc (Nat.le_refl _) _) (Nat.le_refl _) _⟩
set_option maxRecDepth 100000 in
theorem side_none (p r : Value) (w : World) (h : TNone p w) (h2 : TNone r w) : Calls Tryz.prog 80 #[.agg #[p, r]] w fun e w' => e = .returned (.bool true) ∧ Below w.heap.size w w' := by
  have HR := Lib.hid (fun W hW => tconf_none p W hW)
  have HR2 := Lib.hid (fun W hW => rconf_none r W hW)
  have HS : Hid ((Tryz.prog.info? 25).map (·.size) = some z39.size) := Lib.hid sizePd
  have HT := Lib.hid (h.below ((Below.refl _ w).alloc (Nat.le_refl _) (.cells #[p, r] 93)))
  have HT2 := Lib.hid (h2.below ((Below.refl _ w).alloc (Nat.le_refl _) (.cells #[p, r] 93)))
  clear h h2
  obtain ⟨Z, hZ⟩ : ∃ Z, Z = z39 := ⟨_, rfl⟩
  have HO : Hid (Z.all (·.oneCell') = true) := Lib.hid (by rw [hZ]; exact z39_one)
  have HZ : Hid (z39.size = Z.size) := Lib.hid (by rw [hZ])
  rw [← hZ] at HR HR2 HS
  clear hZ
  obtain ⟨W0, hW0⟩ : ∃ W0, W0 = w.alloc (.cells #[p, r] 93) := ⟨_, rfl⟩
  have BX := Lib.hid (show Blk W0 w.heap.size 93 #[p, r] from by rw [hW0]; exact Blk.new _ _ _)
  have B0 := Lib.hid (show Below w.heap.size w W0 from by rw [hW0]; exact (Below.refl _ w).alloc (Nat.le_refl _) _)
  rw [← hW0] at HT HT2
  have HW0 := Lib.hid hW0
  clear hW0
  go_enter Tryz.func80, Tryz.ntmps80
  go_upto_region 1 with (fail)
  rw [← HW0.out]
  have x0 := BX.out.cell 0
  have x1 := BX.out.cell 1
  simp at x0 x1
  go_upto_region 2 with (first
    | (go_at_call 27; refine (HR.out _ HT.out).mono ?_; rintro e w1 ⟨rfl, hB⟩; have B := Lib.hid hB; clear hB)
    | (refine wpList_store_row rfl _ _ _ rfl w1.heap.size Z rfl rfl 25 z39 (Blk.new w1 _ _) HS.out HZ.out HO.out ?_))
  obtain ⟨W2, hW2⟩ : ∃ W2, W2 = (w1.alloc (.cells z39 25)).setRow w1.heap.size Z := ⟨_, rfl⟩
  have B2 := Lib.hid (show Below W0.heap.size W0 W2 from by rw [hW2]; exact B.out.trans ((belowRow ((Below.refl _ w1).alloc (Nat.le_refl _) _) (Nat.le_refl _) _).mono B.out.size))
  have y1 : W2.cell? ⟨w.heap.size, 1, none⟩ = some r := (B2.out.cell (p := ⟨w.heap.size, 1, none⟩) BX.out.lt).trans x1
  rw [← show W2 = (w1.alloc (.cells #[.int .i64 0, .int .i64 0, .int .u8 0, .int .u8 0, .int .u8 0, .int .u8 0, .int .u8 0, .int .u8 0, .int .u8 0, .int .u8 0, .int .u8 0, .int .u8 0, .int .u8 0, .int .u8 0, .int .u8 0, .int .u8 0, .int .u8 0, .int .u8 0, .int .u8 0, .int .u8 0, .int .u8 0, .int .u8 0, .int .u8 0, .int .u8 0, .int .u8 0, .int .u8 0, .int .u8 0, .int .u8 0, .int .u8 0, .int .u8 0, .int .u8 0, .int .u8 0, .int .u8 0, .int .u8 0, .bool false, .bool false, .bool false, .int .i64 0, .int .i64 0] 25)).setRow w1.heap.size Z from hW2]
  clear hW2 x0 x1
  go_wp2_with (first
    | (go_at_call 105; refine (HR2.out _ (HT2.out.below B2.out)).mono ?_; rintro e w3 ⟨rfl, hB⟩; have B3 := Lib.hid hB; clear hB)
    | (refine wpList_store_row rfl _ _ _ rfl w3.heap.size Z rfl rfl 25 z39 (Blk.new w3 _ _) HS.out HZ.out HO.out ?_))
  go_ret
  exact ⟨rfl, below_step B0.out (below_step B2.out (B3.out.trans ((belowRow ((Below.refl _ w3).alloc (Nat.le_refl _) _) (Nat.le_refl _) _).mono B3.out.size)))⟩
end Go.Proofs.YtiffminhlimajaaGreat
