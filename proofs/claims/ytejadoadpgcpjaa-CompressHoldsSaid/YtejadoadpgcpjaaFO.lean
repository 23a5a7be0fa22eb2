/- A packet header by value among a law's arguments. -/
import Derived.Test.YtejadoadpgcpjaaFW
import Derived.ProofKit
import Derived.OpenShut
import Derived.ChangeOld
import Derived.Deep.Fields
namespace Go.Proofs.Ytejadoadpgcpjaa
open Go.ChangeShapes Go.WideShapes Go.ChangeAt Go.RowKit

set_option maxRecDepth 100000 in
theorem open_hdr {H : Type} {enc : TypeId × Value → H} {w : World} {base : Nat} {spare : Nat → Bool} {held : Bool} {r : Reach} {b0 : Nat} {v : Value} {d : DataW H} {p : List MemPlace}
    (hv : Value.okWide Try.prog w r b0 25 v) (h : DataW.Trod enc Try.prog w base spare held 25 v d p) : ∃ x : Nat → Int, v = .agg (hdr x) := by
  obtain ⟨cs, rfl, hsz⟩ := okWide_struct Try.underlying25 hv
  have hc : Try.prog.cellsOf 25 = 9 := by kernel_rfl
  have h9 : cs.size = 9 := hsz.trans hc
  obtain ⟨fuel, hf⟩ := h
  obtain ⟨xs, n, _, _, _, hlen, hg⟩ := DataW.trod_struct Try.underlying25 hf
  have c3 : Try.prog.cellsOf 3 = 1 := by kernel_rfl
  have hx9 : xs.length = 9 := hlen
  have key : ∀ (i : Nat), i < 9 → DataW.trod enc Try.prog w base spare held n 3 (List.take 1 (List.drop i (Value.agg cs).cells.toList)) = xs[i]? → ∃ a, cs[i]? = some (Value.int .i64 a) := by
    intro i hi h1
    rw [List.getElem?_eq_getElem (by omega)] at h1
    obtain ⟨a, e, _, _⟩ := DataW.trod_int Try.underlying3 h1
    refine ⟨a, ?_⟩
    have h2 := congrArg List.head? e
    simp [Value.cells, List.head?_take] at h2
    exact h2
  obtain ⟨a0, e0⟩ := key 0 (by decide) (by have h1 : DataW.trod enc Try.prog w base spare held n 3 (List.take (Try.prog.cellsOf 3) (List.drop 0 (Value.agg cs).cells.toList)) = xs[0]? := hg 0 _ rfl; rwa [c3] at h1)
  obtain ⟨a1, e1⟩ := key 1 (by decide) (by have h1 : DataW.trod enc Try.prog w base spare held n 3 (List.take (Try.prog.cellsOf 3) (List.drop 1 (Value.agg cs).cells.toList)) = xs[1]? := hg 1 _ rfl; rwa [c3] at h1)
  obtain ⟨a2, e2⟩ := key 2 (by decide) (by have h1 : DataW.trod enc Try.prog w base spare held n 3 (List.take (Try.prog.cellsOf 3) (List.drop 2 (Value.agg cs).cells.toList)) = xs[2]? := hg 2 _ rfl; rwa [c3] at h1)
  obtain ⟨a3, e3⟩ := key 3 (by decide) (by have h1 : DataW.trod enc Try.prog w base spare held n 3 (List.take (Try.prog.cellsOf 3) (List.drop 3 (Value.agg cs).cells.toList)) = xs[3]? := hg 3 _ rfl; rwa [c3] at h1)
  obtain ⟨a4, e4⟩ := key 4 (by decide) (by have h1 : DataW.trod enc Try.prog w base spare held n 3 (List.take (Try.prog.cellsOf 3) (List.drop 4 (Value.agg cs).cells.toList)) = xs[4]? := hg 4 _ rfl; rwa [c3] at h1)
  obtain ⟨a5, e5⟩ := key 5 (by decide) (by have h1 : DataW.trod enc Try.prog w base spare held n 3 (List.take (Try.prog.cellsOf 3) (List.drop 5 (Value.agg cs).cells.toList)) = xs[5]? := hg 5 _ rfl; rwa [c3] at h1)
  obtain ⟨a6, e6⟩ := key 6 (by decide) (by have h1 : DataW.trod enc Try.prog w base spare held n 3 (List.take (Try.prog.cellsOf 3) (List.drop 6 (Value.agg cs).cells.toList)) = xs[6]? := hg 6 _ rfl; rwa [c3] at h1)
  obtain ⟨a7, e7⟩ := key 7 (by decide) (by have h1 : DataW.trod enc Try.prog w base spare held n 3 (List.take (Try.prog.cellsOf 3) (List.drop 7 (Value.agg cs).cells.toList)) = xs[7]? := hg 7 _ rfl; rwa [c3] at h1)
  obtain ⟨a8, e8⟩ := key 8 (by decide) (by have h1 : DataW.trod enc Try.prog w base spare held n 3 (List.take (Try.prog.cellsOf 3) (List.drop 8 (Value.agg cs).cells.toList)) = xs[8]? := hg 8 _ rfl; rwa [c3] at h1)
  refine ⟨fun j => ([a0, a1, a2, a3, a4, a5, a6, a7, a8] : List Int).getD j 0, ?_⟩
  have : cs = hdr (fun j => ([a0, a1, a2, a3, a4, a5, a6, a7, a8] : List Int).getD j 0) := by
    apply Array.ext_getElem?
    intro i
    by_cases hi : i < 9
    · match i, hi with
      | 0, _ => exact e0
      | 1, _ => exact e1
      | 2, _ => exact e2
      | 3, _ => exact e3
      | 4, _ => exact e4
      | 5, _ => exact e5
      | 6, _ => exact e6
      | 7, _ => exact e7
      | 8, _ => exact e8
    · rw [Array.getElem?_eq_none (by omega), Array.getElem?_eq_none (by simp [hdr]; omega)]
  rw [this]
end Go.Proofs.Ytejadoadpgcpjaa
