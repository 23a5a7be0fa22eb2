/- handover: what is nil or zero: Tx, Rx, Side. -/
import Derived.Test.YtiffminhlimajaaU
import Derived.Deep.RegionHeld3
import Derived.Laws.Rows
import Derived.Deep.DrawnRows
import Derived.Deep.RegionWith
import Derived.Deep.DeepCutAuto
import Derived.Deep.CutRange
import Derived.Deep.CutBlock
import Derived.BigQuiet
namespace Go.Proofs.Ytiffminhlimajaa
open Go.RowKit

attribute [local go_sem ↓] Go.wp_at_zero Go.wp_at_succ

/-- the zero configuration -/
def z39 : Array Value := #[.int .i64 0, .int .i64 0, .int .u8 0, .int .u8 0, .int .u8 0, .int .u8 0, .int .u8 0, .int .u8 0, .int .u8 0, .int .u8 0, .int .u8 0, .int .u8 0, .int .u8 0, .int .u8 0, .int .u8 0, .int .u8 0, .int .u8 0, .int .u8 0, .int .u8 0, .int .u8 0, .int .u8 0, .int .u8 0, .int .u8 0, .int .u8 0, .int .u8 0, .int .u8 0, .int .u8 0, .int .u8 0, .int .u8 0, .int .u8 0, .int .u8 0, .int .u8 0, .int .u8 0, .int .u8 0, .bool false, .bool false, .bool false, .int .i64 0, .int .i64 0]
theorem results_cell_one {P : Program} {fn : Func} {p q : Tmp} {ty : TypeId} (h : fn.results = #[.cell p ty, .tmp q]) (tmps : Array Value) (w : World) (g : Nat) (t : TypeId) (cs : Array Value) (fr : Nat × Nat) (d : TypeDesc)
    (hp : tmps.getD p undef = .pointer (some ⟨g, 0, none⟩)) (hg : w.heap[g]? = some (.cells cs t fr))
    (hu : P.underlying ty = some d) (hd : (match d with | .struct _ | .array _ _ => true | _ => false) = true) (hi : (P.info? ty).map (·.size) = some cs.size) (u : Value) (hq : tmps.getD q undef = u) :
    (results fn tmps).run P w = .ok (.tuple #[.agg cs, u]) w := by
  subst hq
  have hp' : tmps[p]?.getD undef = .pointer (some ⟨g, 0, none⟩) := by simpa using hp
  simp [results, h, hp', asAddr, run_loadVar_row w g t ty cs fr d hg hu hd hi]
theorem sizePd : (Try.prog.info? 37).map (·.size) = some 39 := by kernel_rfl
theorem z39_one : z39.all (·.oneCell') = true := by unfold z39; simp [Value.oneCell']
theorem Blk.setRow {w : World} {g : Nat} {t : TypeId} {cs ds : Array Value} (h : Blk w g t cs) : Blk (w.setRow g ds) g t ds := setRow_heap w g cs ds t (0, 0) h
theorem Blk.farRow {w : World} {g k : Nat} {t : TypeId} {cs ds : Array Value} (h : Blk w g t cs) (hne : g ≠ k) : Blk (w.setRow k ds) g t cs := (setRow_other w k g ds hne).trans h
theorem belowRow {b : Nat} {w0 w : World} (h : Below b w0 w) {g : Nat} (hg : b ≤ g) (cs : Array Value) : Below b w0 (w.setRow g cs) :=
  ⟨h.os, h.tape, h.output, by rw [size_setRow]; exact h.size, fun i hi => (setRow_other w g i cs (by omega)).trans (h.block i hi)⟩
section
variable {w w' : World} {g : Nat} {t : TypeId} {cs : Array Value}
theorem Blk.range {w : World} {g : Nat} {t : TypeId} {cs : Array Value} (h : Blk w g t cs) (vs : List Value) (hv : cs = vs.toArray) : w.rangeAt g 0 vs := fun j v hj => by
  rw [Nat.zero_add, h.cell j, hv]; simpa using hj
theorem Blk.there {w : World} {g : Nat} {t : TypeId} {cs : Array Value} (h : Blk w g t cs) (n : Nat) (hn : n ≤ cs.size) : w.there g 0 n := fun j hj => by
  rw [Nat.zero_add]
  refine ⟨?_, h.frozen j⟩
  rw [h.cell j, Array.getElem?_eq_getElem (by omega)]; rfl
end
/-- a transmitter that is nil or zero -/
def TNone (p : Value) (W : World) : Prop := p = .pointer none ∨ ∃ g, p = .pointer (some ⟨g, 0, none⟩) ∧ g < W.heap.size ∧ W.cell? ⟨g, 39, none⟩ = some (.bool false)
theorem TNone.below {p : Value} {W W' : World} (h : TNone p W) (hb : Below W.heap.size W W') : TNone p W' := by
  rcases h with rfl | ⟨g, rfl, h1, h2⟩
  · exact .inl rfl
  · exact .inr ⟨g, rfl, Nat.lt_of_lt_of_le h1 hb.size, (hb.cell (p := ⟨g, 39, none⟩) h1).trans h2⟩

theorem tnone_ok (p : Value) (w : World) (h : TNone p w) : Calls Try.prog 27 #[p] w fun e w' => e = .returned (.bool true) ∧ w = w' := by
  rcases h with rfl | ⟨g, rfl, _, h2⟩
  · go_enter Try.func27, Try.ntmps27
    go_wp2
    go_ret
    exact ⟨rfl, rfl⟩
  · go_enter Try.func27, Try.ntmps27
    go_wp2
    go_ret
    exact ⟨rfl, rfl⟩
set_option maxRecDepth 100000 in
theorem tconf_none (p : Value) (w : World) (h : TNone p w) : Calls Try.prog 21 #[p] w fun e w' => e = .returned (.tuple #[.agg z39, .int .i64 1]) ∧ Below w.heap.size w w' := by
  have HN := Lib.hid (fun W hW => tnone_ok p W hW)
  have HT := Lib.hid h
  clear h
  have HS : Hid ((Try.prog.info? 37).map (·.size) = some z39.size) := Lib.hid sizePd
  go_enter Try.func21, Try.ntmps21
  go_wp2_with (first
    | (go_at_call 27; refine (HN.out _ (HT.out.below ((Below.refl _ w).alloc (Nat.le_refl _) _))).mono ?_; rintro e w1 ⟨rfl, rfl⟩)
    | (refine wpList_store_row rfl _ _ _ rfl w.heap.size z39 rfl rfl 37 z39 (Blk.new w _ _) HS.out rfl z39_one ?_))
  refine bodyPost_ret (v := .tuple #[.agg z39, .int .i64 1]) (results_cell_one (g := w.heap.size) (t := 37) (fr := (0, 0)) Try.results21 _ _ z39 _ rfl (Blk.setRow (Blk.new w _ _)) Try.underlying37 rfl HS.out _ rfl) rfl ⟨rfl, belowRow ((Below.refl _ w).alloc (Nat.le_refl _) _) (Nat.le_refl _) _⟩
theorem apply_none (p x : Value) (w : World) (h : TNone p w) : Calls Try.prog 7 #[p, x] w fun e w' => e = .returned (.tuple #[.int .i64 0, .int .i64 1]) ∧ Below w.heap.size w w' := by
  have HR := Lib.hid (tconf_none p w h)
  have HS : Hid ((Try.prog.info? 37).map (·.size) = some z39.size) := Lib.hid sizePd
  clear h
  obtain ⟨Z, hZ⟩ : ∃ Z, Z = z39 := ⟨_, rfl⟩
  have HO : Hid (Z.all (·.oneCell') = true) := Lib.hid (by rw [hZ]; exact z39_one)
  have HZ : Hid (z39.size = Z.size) := Lib.hid (by rw [hZ])
  rw [← hZ] at HR HS
  clear hZ
  go_enter Try.func7, Try.ntmps7
  go_wp2_with (first
    | (go_at_call 21; refine (HR.out).mono ?_; rintro e w1 ⟨rfl, hB⟩; have B := Lib.hid hB; clear hB)
    | (refine wpList_store_row rfl _ _ _ rfl w1.heap.size Z rfl rfl 37 z39 (Blk.new w1 _ _) HS.out HZ.out HO.out ?_))
  go_ret2
  exact ⟨rfl, B.out.trans ((belowRow ((Below.refl _ w1).alloc (Nat.le_refl _) _) (Nat.le_refl _) _).mono B.out.size)⟩
end Go.Proofs.Ytiffminhlimajaa
