/- handover: what is nil or zero: Tx, Rx, Side. -/
import Derived.Test.YtmdpiajhfohagaaGreatU
import Derived.Deep.RegionHeld3
import Derived.Laws.Rows
import Derived.Deep.DrawnRows
import Derived.Deep.RegionWith
import Derived.Deep.DeepCutAuto
import Derived.Deep.CutRange
import Derived.Deep.CutBlock
import Derived.BigQuiet
namespace Go.Proofs.YtmdpiajhfohagaaGreat
open Go.RowKit

attribute [local go_sem ↓] Go.wp_at_zero Go.wp_at_succ

/-- the zero configuration -/
def z39 : Array Value := #[.int .i64 0, .int .i64 0, .int .u8 0, .int .u8 0, .int .u8 0, .int .u8 0, .int .u8 0, .int .u8 0, .int .u8 0, .int .u8 0, .int .u8 0, .int .u8 0, .int .u8 0, .int .u8 0, .int .u8 0, .int .u8 0, .int .u8 0, .int .u8 0, .int .u8 0, .int .u8 0, .int .u8 0, .int .u8 0, .int .u8 0, .int .u8 0, .int .u8 0, .int .u8 0, .int .u8 0, .int .u8 0, .int .u8 0, .int .u8 0, .int .u8 0, .int .u8 0, .int .u8 0, .int .u8 0, .bool false, .bool false, .bool false, .int .i64 0, .int .i64 0]
theorem results_cell_one {P : Program} {fn : Func} {p q : Tmp} {ty : TypeId} (h : fn.results = #[.cell p ty, .tmp q]) (tmps : Array Value) (w : World) (g : Nat) (t : TypeId) (cs : Array Value) (fr : Nat × Nat) (d : TypeDesc)
    (hp : tmps.getD p undef = .pointer (some ⟨g, 0, none⟩)) (hg : w.heap[g]? = some (.cells cs t fr))
    (hu : P.underlying ty = some d) (hd : (match d with | .struct _ | .array _ _ => true | _ => false) = true) (hi : (P.info? ty).map (·.size) = some cs.size) (u : Value) (hq : tmps.getD q undef = u) :
    (results fn tmps).run P w = .ok (.tuple #[.agg cs, u]) w := by
  subst hq
  have hp' : tmps[p]?.getD undef = .pointer (some ⟨g, 0, none⟩) := by simpa using hp
  simp [results, h, hp', asAddr, run_loadVar_row w g t ty cs fr d hg hu hd hi]
theorem sizePd : (Tryz.prog.info? 26).map (·.size) = some 39 := by kernel_rfl
theorem z39_one : z39.all (·.oneCell') = true := by unfold z39; simp [Value.oneCell']
theorem Blk.setRow {w : World} {g : Nat} {t : TypeId} {cs ds : Array Value} (h : Blk w g t cs) : Blk (w.setRow g ds) g t ds := setRow_heap w g cs ds t (0, 0) h
theorem Blk.farRow {w : World} {g k : Nat} {t : TypeId} {cs ds : Array Value} (h : Blk w g t cs) (hne : g ≠ k) : Blk (w.setRow k ds) g t cs := (setRow_other w k g ds hne).trans h
theorem belowRow {b : Nat} {w0 w : World} (h : Below b w0 w) {g : Nat} (hg : b ≤ g) (cs : Array Value) : Below b w0 (w.setRow g cs) :=
  ⟨h.os, h.tape, h.output, by rw [size_setRow]; exact h.size, fun i hi => (setRow_other w g i cs (by omega)).trans (h.block i hi)⟩
section
variable {w w' : World} {g : Nat} {t : TypeId} {cs : Array Value}
theorem Blk.range {w : World} {g : Nat} {t : TypeId} {cs : Array Value} (h : Blk w g t cs) (vs : List Value) (hv : cs = vs.toArray) : w.rangeAt g 0 vs := fun j v hj => by
  rw [Nat.zero_add, h.cell j, hv]; simpa using hj
theorem Blk.there {w : World} {g : Nat} {t : TypeId} {cs : Array Value} (h : Blk w g t cs) (n : Nat) (hn : n ≤ cs.size) : w.there g 0 n := fun j hj => by
  rw [Nat.zero_add]
  refine ⟨?_, h.frozen j⟩
  rw [h.cell j, Array.getElem?_eq_getElem (by omega)]; rfl
end
/-- a transmitter that is nil or zero -/
def TNone (p : Value) (W : World) : Prop := p = .pointer none ∨ ∃ g, p = .pointer (some ⟨g, 0, none⟩) ∧ g < W.heap.size ∧ W.cell? ⟨g, 39, none⟩ = some (.bool false)
theorem TNone.below {p : Value} {W W' : World} (h : TNone p W) (hb : Below W.heap.size W W') : TNone p W' := by
  rcases h with rfl | ⟨g, rfl, h1, h2⟩
  · exact .inl rfl
  · exact .inr ⟨g, rfl, Nat.lt_of_lt_of_le h1 hb.size, (hb.cell (p := ⟨g, 39, none⟩) h1).trans h2⟩

theorem tnone_ok (p : Value) (w : World) (h : TNone p w) : Calls Tryz.prog 76 #[p] w fun e w' => e = .returned (.bool true) ∧ w = w' := by
  rcases h with rfl | ⟨g, rfl, _, h2⟩
  · go_enter Tryz.func76, Tryz.ntmps76
    go_wp2
    go_ret
    exact ⟨rfl, rfl⟩
  · go_enter Tryz.func76, Tryz.ntmps76
    go_wp2
    go_ret
    exact ⟨rfl, rfl⟩
theorem rnone_ok (p : Value) (w : World) (h : TNone p w) : Calls Tryz.prog 43 #[p] w fun e w' => e = .returned (.bool true) ∧ w = w' := by
  rcases h with rfl | ⟨g, rfl, _, h2⟩
  · go_enter Tryz.func43, Tryz.ntmps43
    go_wp2
    go_ret
    exact ⟨rfl, rfl⟩
  · go_enter Tryz.func43, Tryz.ntmps43
    go_wp2
    go_ret
    exact ⟨rfl, rfl⟩
set_option maxRecDepth 100000 in
theorem rconf_none (p : Value) (w : World) (h : TNone p w) : Calls Tryz.prog 17 #[p] w fun e w' => e = .returned (.tuple #[.agg z39, .int .i64 1]) ∧ Below w.heap.size w w' := by
  have HN := Lib.hid (fun W hW => rnone_ok p W hW)
  have HT := Lib.hid h
  clear h
  have HS : Hid ((Tryz.prog.info? 26).map (·.size) = some z39.size) := Lib.hid sizePd
  go_enter Tryz.func17, Tryz.ntmps17
  go_wp2_with (first
    | (go_at_call 43; refine (HN.out _ (HT.out.below ((Below.refl _ w).alloc (Nat.le_refl _) _))).mono ?_; rintro e w1 ⟨rfl, rfl⟩)
    | (refine wpList_store_row rfl _ _ _ rfl w.heap.size z39 rfl rfl 26 z39 (Blk.new w _ _) HS.out rfl z39_one ?_))
  refine bodyPost_ret (v := .tuple #[.agg z39, .int .i64 1]) (results_cell_one (g := w.heap.size) (t := 26) (fr := (0, 0)) Tryz.results17 _ _ z39 _ rfl (Blk.setRow (Blk.new w _ _)) Tryz.underlying26 rfl HS.out _ rfl) rfl ⟨rfl, belowRow ((Below.refl _ w).alloc (Nat.le_refl _) _) (Nat.le_refl _) _⟩
end Go.Proofs.YtmdpiajhfohagaaGreat
