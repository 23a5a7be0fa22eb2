/- header.parts: the table of the fields. -/
import Derived.Test.YtejadoadpgcpjaaED
import Derived.Laws.Tables
import Derived.Laws.EntriesVeiled
namespace Go.Proofs.Ytejadoadpgcpjaa
open Go.RowKit

def str (l : List Nat) : Value := .string ⟨(l.map UInt8.ofNat).toArray⟩
/-- the table, whose first entry's closure holds the address of the variable fixed -/
def partsArr (b : Nat) : Array Value := #[
  str [118, 101, 114, 115, 105, 111, 110], .int .i64 4, .func (.func 78) #[] #[.pointer (some ⟨b, 0, none⟩)],
  str [99, 108, 97, 115, 115], .int .i64 4, .func (.func 79) #[] #[],
  str [102, 108, 111, 119], .int .i64 16, .func (.func 80) #[] #[],
  str [115, 111, 117, 114, 99, 101], .int .i64 32, .func (.func 81) #[] #[],
  str [100, 101, 115, 116], .int .i64 32, .func (.func 82) #[] #[],
  str [112, 114, 111, 116, 111], .int .i64 8, .func (.func 83) #[] #[],
  str [104, 111, 112, 115], .int .i64 8, .func (.func 84) #[] #[],
  str [105, 100, 101, 110, 116], .int .i64 16, .func (.func 85) #[] #[],
  str [116, 105, 109, 101], .int .i64 24, .func (.func 86) #[] #[],
  str [108, 101, 110, 103, 116, 104], .int .i64 16, .func (.func 87) #[] #[]]

theorem Blk.setRow {w : World} {g : Nat} {t : TypeId} {cs ds : Array Value} (h : Blk w g t cs) : Blk (w.setRow g ds) g t ds := setRow_heap w g cs ds t (0, 0) h
theorem Blk.farRow {w : World} {g k : Nat} {t : TypeId} {cs ds : Array Value} (h : Blk w g t cs) (hne : g ≠ k) : Blk (w.setRow k ds) g t cs := (setRow_other w k g ds hne).trans h
theorem belowRow {b : Nat} {w0 w : World} (h : Below b w0 w) {g : Nat} (hg : b ≤ g) (cs : Array Value) : Below b w0 (w.setRow g cs) :=
  ⟨h.os, h.tape, h.output, by rw [size_setRow]; exact h.size, fun i hi => (setRow_other w g i cs (by omega)).trans (h.block i hi)⟩
theorem sizeParts : (Try.prog.info? 106).map (·.size) = some 30 := by kernel_rfl

set_option maxRecDepth 100000 in
set_option maxHeartbeats 1600000 in
theorem parts_ok (w : World) :
    Calls Try.prog 53 #[] w fun e w' => e = .returned (.agg (partsArr (w.heap.size + 1))) ∧ Blk w' (w.heap.size + 1) 3 #[.int .i64 5] ∧ Below w.heap.size w w' := by
  go_enter Try.func53, Try.ntmps53
  go_wp2_with (refine wpList_store_row rfl _ _ _ rfl w.heap.size (partsArr (w.heap.size + 1)) rfl rfl 106 _ ((Below.heap_alloc _ _ _ (by simp)).trans (World.alloc_heap_new w _)) sizeParts rfl (by kernel_rfl) ?_)
  have B0 : Blk ((w.alloc (.cells #[.string ⟨#[]⟩, .int .i64 0, .nilFunc, .string ⟨#[]⟩, .int .i64 0, .nilFunc, .string ⟨#[]⟩, .int .i64 0, .nilFunc, .string ⟨#[]⟩, .int .i64 0, .nilFunc, .string ⟨#[]⟩, .int .i64 0, .nilFunc, .string ⟨#[]⟩, .int .i64 0, .nilFunc, .string ⟨#[]⟩, .int .i64 0, .nilFunc, .string ⟨#[]⟩, .int .i64 0, .nilFunc, .string ⟨#[]⟩, .int .i64 0, .nilFunc, .string ⟨#[]⟩, .int .i64 0, .nilFunc] 106)).alloc (.cells #[.int .i64 5] 3)) w.heap.size 106 _ := (Blk.new w _ _).alloc _
  have B1 := Blk.new (w.alloc (.cells #[.string ⟨#[]⟩, .int .i64 0, .nilFunc, .string ⟨#[]⟩, .int .i64 0, .nilFunc, .string ⟨#[]⟩, .int .i64 0, .nilFunc, .string ⟨#[]⟩, .int .i64 0, .nilFunc, .string ⟨#[]⟩, .int .i64 0, .nilFunc, .string ⟨#[]⟩, .int .i64 0, .nilFunc, .string ⟨#[]⟩, .int .i64 0, .nilFunc, .string ⟨#[]⟩, .int .i64 0, .nilFunc, .string ⟨#[]⟩, .int .i64 0, .nilFunc, .string ⟨#[]⟩, .int .i64 0, .nilFunc] 106)) 3 #[.int .i64 5]
  rw [World.size_alloc] at B1
  refine bodyPost_ret (v := .agg (partsArr (w.heap.size + 1))) (results_cell_row (g := w.heap.size) (t := 106) (fr := (0, 0)) Try.results53 _ _ _ _ rfl (B0.setRow (ds := partsArr (w.heap.size + 1))) Try.underlying106 rfl sizeParts) rfl ⟨rfl, B1.farRow (by simp), ?_⟩
  exact belowRow (((Below.refl _ w).alloc (Nat.le_refl _) _).alloc (by simp) _) (Nat.le_refl _) _
end Go.Proofs.Ytejadoadpgcpjaa
