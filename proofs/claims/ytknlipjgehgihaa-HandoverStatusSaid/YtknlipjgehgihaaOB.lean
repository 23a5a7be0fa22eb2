/- pdcprx: the map of stored packets in memory. -/
import Derived.Test.YtknlipjgehgihaaOA
import Derived.Maps.OwnSet
import Derived.RangeFuncOwn
namespace Go.Proofs.Ytknlipjgehgihaa
open Go.RowKit

def Keep1 (g : Nat) (w w' : World) : Prop := w.grownBy w' (some g)
theorem Keep1.blk {g b : Nat} {t : TypeId} {cs : Array Value} {w w' : World} (h : Keep1 g w w') (hB : Blk w b t cs) (hne : b ≠ g) : Blk w' b t cs := (h.block b hB.lt (fun e => by cases e; exact hne rfl)).trans hB
theorem keep_of_below {g : Nat} {w w' : World} (h : Below w.heap.size w w') : Keep1 g w w' := ⟨h.os, h.tape, h.output, h.size, fun i hi _ => h.block i hi⟩
theorem below_keep {B g : Nat} {w w1 w' : World} (h : Below B w w1) (k : Keep1 g w1 w') (hg : B ≤ g) (hB : B ≤ w1.heap.size) : Below B w w' :=
  ⟨k.os.trans h.os, k.tape.trans h.tape, k.output.trans h.output, Nat.le_trans h.size k.size, fun i hi => (k.block i (by omega) (fun e => by cases e; omega)).trans (h.block i hi)⟩
/-- where a key lies -/
def ukeyAt (f : Int) : List Int → Nat → Option Nat
  | [], _ => none
  | g :: gs, i => if f = g then some i else ukeyAt f gs (i + 1)
theorem ukeyAt_some {f : Int} : ∀ {l : List Int} {i j : Nat}, ukeyAt f l i = some j → i ≤ j ∧ l[j - i]? = some f
  | [], i, j, h => by cases h
  | g :: gs, i, j, h => by
    unfold ukeyAt at h
    split at h
    · rename_i e
      cases h
      exact ⟨Nat.le_refl _, by rw [Nat.sub_self, e]; rfl⟩
    · obtain ⟨h1, h2⟩ := ukeyAt_some h
      refine ⟨by omega, ?_⟩
      rw [show j - i = (j - (i + 1)) + 1 by omega, List.getElem?_cons_succ]
      exact h2
theorem ukeyAt_none {f : Int} : ∀ {l : List Int} {i : Nat}, ukeyAt f l i = none → f ∉ l
  | [], _, _ => by simp
  | g :: gs, i, h => by
    unfold ukeyAt at h
    split at h
    · cases h
    · rename_i e
      intro hm
      rcases List.mem_cons.1 hm with h1 | h1
      · exact e h1
      · exact ukeyAt_none h h1
theorem ufinding (f : Int) : ∀ (es : List MapEntry) (gs : List Int) (_ : es.map (·.key) = gs.map (Value.int .u64)) (i : Nat), ∃ v : Nat → Value, Instr.findNow (.int .u64) (.int .u64 f) es i = some ((ukeyAt f gs i).map fun j => (j, v j))
  | [], [], _, _ => ⟨fun _ => undef, rfl⟩
  | [], g :: gs, h, _ => by cases h
  | e :: es, [], h, _ => by cases h
  | e :: es, g :: gs, h, i => by
    simp only [List.map_cons, List.cons.injEq] at h
    obtain ⟨v, hv⟩ := ufinding f es gs h.2 (i + 1)
    unfold Instr.findNow ukeyAt
    by_cases hfg : f = g
    · refine ⟨fun _ => e.val, ?_⟩
      rw [h.1]
      simp [Instr.sameNow, hfg]
    · refine ⟨v, ?_⟩
      have hb : (f == g) = false := by simpa using hfg
      rw [h.1]
      simp [Instr.sameNow, hfg, hv, hb]
/-- block m is a map whose keys are L -/
def UB (W : World) (m : Nat) (L : List Int) : Prop := ∃ es c, W.heap[m]? = some (.map es c) ∧ es.toList.map (·.key) = L.map (Value.int .u64)
theorem UB.below {W W' : World} {m B : Nat} {L : List Int} (h : UB W m L) (hb : Below B W W') (hm : m < B) : UB W' m L := by
  obtain ⟨es, c, h1, h2⟩ := h
  exact ⟨es, c, (hb.block m hm).trans h1, h2⟩
theorem UB.keep {W W' : World} {m g : Nat} {L : List Int} (h : UB W m L) (k : Keep1 g W W') (hm : m ≠ g) : UB W' m L := by
  obtain ⟨es, c, h1, h2⟩ := h
  exact ⟨es, c, (k.block m (Array.getElem?_eq_some_iff.1 h1).1 (fun e => by cases e; exact hm rfl)).trans h1, h2⟩
theorem UB.lt {W : World} {m : Nat} {L : List Int} (h : UB W m L) : m < W.heap.size := by
  obtain ⟨es, c, h1, _⟩ := h
  exact (Array.getElem?_eq_some_iff.1 h1).1
theorem uput (W : World) (m : Nat) (L : List Int) (f : Int) (x : Value) (h : UB W m L) :
    ∃ X, (Instr.mapUpdate 72 (.map (some m)) (.int .u64 f) x).run Try.prog W = .ok () X ∧ UB X m (if f ∈ L then L else L ++ [f]) ∧ Keep1 m W X := by
  obtain ⟨es, c, h1, h2⟩ := h
  obtain ⟨v, hv⟩ := ufinding f es.toList L h2 0
  have hc : ∀ e : Bool, (Instr.checkKey e 10000 22 (.int .u64 f)).run Try.prog W = .ok () W := fun e => MapKept.run_checkKey (k := .int .u64 f) Try.underlying22 (by simp [MapKept.IsKey]) e 9999
  have hlt : m < W.heap.size := (Array.getElem?_eq_some_iff.1 h1).1
  cases hk : ukeyAt f L 0 with
  | none =>
    rw [hk] at hv
    rw [if_neg (ukeyAt_none hk)]
    refine ⟨W.putObj m (.map (es.push { key := .int .u64 f, val := x, born := c }) (c + 1)), ?_, ⟨_, _, World.putObj_heap_same hlt, by simp [h2]⟩, grownBy_putObj' W m _⟩
    simp only [Option.map_none] at hv
    simp [Instr.mapUpdate, run_underlying Try.underlying72, MapKept.run_getObj_map h1, hc, MapKept.run_findKey Try.underlying22 hv, MapKept.run_setObj_map _ h1, Result.andThen, World.putObj]
  | some j =>
    rw [hk] at hv
    obtain ⟨_, hj⟩ := ukeyAt_some hk
    have hmem : f ∈ L := List.mem_of_getElem? (by simpa using hj)
    rw [if_pos hmem]
    have hes : (es.toList.map (·.key))[j]? = some (.int .u64 f) := by rw [h2, List.getElem?_map]; simp at hj; rw [hj]; rfl
    rw [List.getElem?_map] at hes
    obtain ⟨e0, he0, hek⟩ := Option.map_eq_some_iff.1 hes
    have he1 : es[j]? = some e0 := by simpa using he0
    refine ⟨W.putObj m (.map (es.modify j fun e => { e with key := .int .u64 f, val := x }) c), ?_, ⟨_, _, World.putObj_heap_same hlt, ?_⟩, grownBy_putObj' W m _⟩
    · simp only [Option.map_some] at hv
      simp [Instr.mapUpdate, run_underlying Try.underlying72, MapKept.run_getObj_map h1, hc, MapKept.run_findKey Try.underlying22 hv, he1, hek, MapKept.run_setObj_map _ h1, Result.andThen, World.putObj, Instr.keyThatStays, Instr.sameBits]
    · rw [← h2]
      apply List.ext_getElem?
      intro i
      rw [List.getElem?_map, List.getElem?_map, Array.getElem?_toList, Array.getElem?_toList, Array.getElem?_modify]
      by_cases hij : j = i
      · subst hij
        rw [if_pos rfl, he1]
        simp [hek]
      · rw [if_neg hij]
theorem uget (W : World) (m : Nat) (L : List Int) (f : Int) (h : UB W m L) :
    ∃ v : Value, (Instr.lookup 72 (.map (some m)) (.int .u64 f) true).run Try.prog W = .ok (.tuple #[v, .bool (decide (f ∈ L))]) W := by
  obtain ⟨es, c, h1, h2⟩ := h
  obtain ⟨v, hv⟩ := ufinding f es.toList L h2 0
  have hc : ∀ e : Bool, (Instr.checkKey e 10000 22 (.int .u64 f)).run Try.prog W = .ok () W := fun e => MapKept.run_checkKey (k := .int .u64 f) Try.underlying22 (by simp [MapKept.IsKey]) e 9999
  have hz : ∀ W, (zeroValue 28).run Try.prog W = .ok (.slice none 0 0) W := fun W => by kernel_rfl
  cases hk : ukeyAt f L 0 with
  | none =>
    rw [hk] at hv
    refine ⟨.slice none 0 0, ?_⟩
    have hm := ukeyAt_none hk
    simp only [Option.map_none] at hv
    simp [Instr.lookup, run_underlying Try.underlying72, MapKept.run_getObj_map h1, hc, MapKept.run_findKey Try.underlying22 hv, hz, Result.andThen, hm]
  | some j =>
    rw [hk] at hv
    obtain ⟨_, hj⟩ := ukeyAt_some hk
    have hmem : f ∈ L := List.mem_of_getElem? (by simpa using hj)
    refine ⟨v j, ?_⟩
    simp only [Option.map_some] at hv
    simp [Instr.lookup, run_underlying Try.underlying72, MapKept.run_getObj_map h1, hc, MapKept.run_findKey Try.underlying22 hv, Result.andThen, hmem]
end Go.Proofs.Ytknlipjgehgihaa
