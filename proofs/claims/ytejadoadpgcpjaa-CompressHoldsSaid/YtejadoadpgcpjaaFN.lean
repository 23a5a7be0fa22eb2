/- header.Parse, all ends in one contract; the example's numbers. -/
import Derived.Test.YtejadoadpgcpjaaEY
import Derived.Test.YtejadoadpgcpjaaEZ
import Derived.Test.YtejadoadpgcpjaaFM
namespace Go.Proofs.Ytejadoadpgcpjaa
open Go.RowKit

/-- the error of n bytes z -/
def pErr (n : Nat) (z : Nat → Int) : Int := if n < 20 then 5 else if 9000 < n then 4 else if fieldv z 0 = 5 ∧ fieldv z 9 = n then 0 else 9
/-- the header's fields -/
def pHdr (n : Nat) (z : Nat → Int) (j : Nat) : Int := if pErr n z = 0 then gpart z 10 j else 0
/-- the payload's length -/
def pLen (n : Nat) (z : Nat → Int) : Nat := if pErr n z = 0 then n - 20 else 0
theorem pLen_le (n : Nat) (z : Nat → Int) : pLen n z ≤ n - 20 := by unfold pLen; split <;> omega
theorem pHdr_zero (n : Nat) (z : Nat → Int) (h : pErr n z ≠ 0) : hdr (pHdr n z) = hdr (fun _ => 0) := by
  unfold hdr pHdr
  simp [h]
theorem pHdr_good (n : Nat) (z : Nat → Int) (h : pErr n z = 0) : hdr (pHdr n z) = hdr (gpart z 10) := by
  unfold hdr pHdr
  simp [h]

def ParseEnd (n : Nat) (z : Nat → Int) (w : World) (e : Ending) (w' : World) : Prop :=
  ∃ P c, e = .returned (.tuple #[.agg (hdr (pHdr n z)), .slice P (pLen n z : Nat) c, .int .i64 (pErr n z)]) ∧ pLen n z ≤ c ∧
    w'.ownsRow w.heap.size 5 1 (.slice P (pLen n z : Nat) c) (pLen n z) ((List.range (pLen n z)).map (fun j => .int .u8 (z (20 + j)))) ∧ Below w.heap.size w w'
theorem ParseEnd.bad {n : Nat} {z : Nat → Int} {w : World} {e : Ending} {w' : World} {x : Int} (h : BadEnd w x e w') (hx : pErr n z = x) (h0 : x ≠ 0) : ParseEnd n z w e w' := by
  obtain ⟨rfl, hb⟩ := h
  subst hx
  have hl : pLen n z = 0 := by unfold pLen; rw [if_neg h0]
  refine ⟨none, 0, ?_, by omega, ?_, hb⟩
  · rw [pHdr_zero n z h0, hl]
  · rw [hl]; exact World.ownsRow_nil _ _ _ _

theorem parse_any (A : Option Addr) (n c : Nat) (z : Nat → Int) (hnc : n ≤ c) (hz : ∀ j, j < n → 0 ≤ z j ∧ z j < 256) (w : World) (hr : Row w w.heap.size A n (fun j => .int .u8 (z j))) :
    Calls Try.prog 16 #[.slice A n c] w (ParseEnd n z w) := by
  by_cases h20 : n < 20
  · exact (parse_short A n c h20 w).mono fun _ _ h => ParseEnd.bad h (by unfold pErr; rw [if_pos h20]) (by decide)
  by_cases h9 : 9000 < n
  · exact (parse_long A n c h9 w).mono fun _ _ h => ParseEnd.bad h (by unfold pErr; rw [if_neg h20, if_pos h9]) (by decide)
  by_cases h5 : fieldv z 0 = 5
  · refine (parse_rest A n c z (by omega) (by omega) hnc hz h5 w hr).mono fun e w' h => ?_
    by_cases hl : fieldv z 9 = n
    · have h0 : pErr n z = 0 := by unfold pErr; rw [if_neg h20, if_neg h9, if_pos ⟨h5, hl⟩]
      obtain ⟨P, c2, he, hc, ho, hb⟩ := h.1 hl
      have hp : pLen n z = n - 20 := by unfold pLen; rw [if_pos h0]
      exact ⟨P, c2, by rw [he, pHdr_good n z h0, hp, h0], by omega, by rw [hp]; exact ho, hb⟩
    · exact ParseEnd.bad (h.2 hl) (by unfold pErr; rw [if_neg h20, if_neg h9, if_neg (fun h => hl h.2)]) (by decide)
  · exact (parse_version A n c z (by omega) (by omega) hz (fun h => h5 h) w hr).mono fun _ _ h => ParseEnd.bad h (by unfold pErr; rw [if_neg h20, if_neg h9, if_neg (fun h => h5 h.1)]) (by decide)
end Go.Proofs.Ytejadoadpgcpjaa
