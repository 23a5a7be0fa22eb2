/- a copy of a list of packets with COUNTs: append(nil, l...). -/
import Derived.Test.YtknlipjgehgihaaOH
import Derived.Maps.AppendAt
namespace Go.Proofs.Ytknlipjgehgihaa
open Go.RowKit

theorem infoCounted : ∃ i : TypeInfo, Try.prog.info? 30 = some i ∧ i.zero = some (.agg #[.int .u32 0, .slice none 0 0]) ∧ i.size = 2 ∧ i.bytes = 32 := by
  have h : (Try.prog.info? 30).map (fun i => (i.zero, i.size, i.bytes)) = some (some (.agg #[.int .u32 0, .slice none 0 0]), 2, 32) := by kernel_rfl
  cases hi : Try.prog.info? 30 with
  | none => rw [hi] at h; cases h
  | some i =>
    rw [hi] at h
    simp only [Option.map_some, Option.some.injEq, Prod.mk.injEq] at h
    exact ⟨i, rfl, h.1, h.2.1, h.2.2⟩
/-- the cells of the list -/
def cntCell (ct : Nat → Int) (PA : Nat → Option Addr) (pn pc : Nat → Nat) (j : Nat) : Value := if j % 2 = 0 then .int .u32 (ct (j / 2)) else .slice (PA (j / 2)) (pn (j / 2)) (pc (j / 2))
theorem cntCell_even (ct : Nat → Int) (PA : Nat → Option Addr) (pn pc : Nat → Nat) (k : Nat) : cntCell ct PA pn pc (k * 2) = .int .u32 (ct k) := by
  unfold cntCell
  rw [if_pos (by omega), show k * 2 / 2 = k by omega]
theorem cntCell_odd (ct : Nat → Int) (PA : Nat → Option Addr) (pn pc : Nat → Nat) (k : Nat) : cntCell ct PA pn pc (k * 2 + 1) = .slice (PA k) (pn k) (pc k) := by
  unfold cntCell
  rw [if_neg (by omega), show (k * 2 + 1) / 2 = k by omega]
theorem cnts_copy (A : Option Addr) (m c : Nat) (ct : Nat → Int) (PA : Nat → Option Addr) (pn pc : Nat → Nat) (z : Nat → Nat → Int) (w : World) (ty : TypeId) (hm : m * 32 ≤ 140737488355328) (h : Cnts w A m ct PA pn pc z) :
    ∃ A' c' w', (Builtin.append_ #[23, 23] ty #[.slice none 0 0, .slice A m c]).run Try.prog w = .ok (.slice A' m c') w' ∧ Cnts w' A' m ct PA pn pc z ∧ Below w.heap.size w w' := by
  obtain ⟨i, hi, hz, hs, hb⟩ := infoCounted
  have ht : Try.prog.underlying 23 = some (.slice 30) := Try.underlying23
  rcases A with _ | ad
  · have h0 : m = 0 := by
      rcases Nat.eq_zero_or_pos m with h0 | h0
      · exact h0
      · obtain ⟨lb, lo, e, _⟩ := h.at_ (by omega)
        cases e
    subst h0
    refine ⟨none, 0, w, ?_, ⟨fun hne => absurd rfl hne, h.rng, h.len, h.cap, h.byte, h.row⟩, Below.refl _ _⟩
    simp [Builtin.append_, run_underlying ht, sizeOf, typeInfo, hi, Builtin.lenOf, Builtin.firstCells]
  · obtain ⟨v', w', hrun, hown, hgr, _, _⟩ := run_append_own_at (P := Try.prog) w w.heap.size 23 ty 30 i _ 2 32 ht hi hz hs hb (by simp [Value.cells]) (by omega) (.slice none 0 0) 0 [] (World.ownsRow_nil _ _ _ _) ad m c ((List.range (m * 2)).map (cntCell ct PA pn pc)) (by simp)
      (fun j u hu => by
        have hj : j < m * 2 := by
          rcases Nat.lt_or_ge j (m * 2) with hlt | hge
          · exact hlt
          · rw [List.getElem?_eq_none (by simpa using hge)] at hu; cases hu
        obtain ⟨lb, lo, e, hlb, hc⟩ := h.at_ (by omega)
        replace e := Option.some.inj e
        subst e
        have hadd : (⟨lb, lo, none⟩ : Addr).add j = ⟨lb, lo + j, none⟩ := by unfold Addr.add; split <;> simp_all
        have hu' : cntCell ct PA pn pc j = u := by simpa [hj] using hu
        obtain ⟨q0, q1⟩ := hc (j / 2) (by omega)
        rw [hadd, ← hu']
        obtain ⟨k, hk⟩ : ∃ k, k = j / 2 := ⟨_, rfl⟩
        rw [← hk] at q0 q1
        rcases Nat.mod_two_eq_zero_or_one j with h2 | h2
        · obtain rfl : j = k * 2 := by omega
          rw [cntCell_even, q0]
        · obtain rfl : j = k * 2 + 1 := by omega
          rw [cntCell_odd]
          exact q1)
      (by intro u hu; obtain ⟨j, _, rfl⟩ := List.mem_map.1 hu; unfold cntCell; split <;> simp [Value.oneCell'])
      (by unfold maxLen; omega) (by omega) (Nat.le_refl _)
    have hB : Below w.heap.size w w' := (Below.refl _ w).grown hgr (Nat.le_refl _) (fun j e => by cases e)
    rw [Nat.zero_add, List.nil_append] at hown
    have hrow : ∀ k, k < m → Row w' w'.heap.size (PA k) (pn k) (fun j => .int .u8 (z k j)) := fun k hk => (h.row k hk).next hB
    rcases hown.2 with ⟨rfl, h0⟩ | ⟨g, cap, cur, rfl, hbg, hh, hc, hmx, hcs, htk⟩
    · subst h0
      exact ⟨none, 0, w', hrun, ⟨fun hne => absurd rfl hne, h.rng, h.len, h.cap, h.byte, hrow⟩, hB⟩
    · refine ⟨some ⟨g, 0, none⟩, cap, w', hrun, ⟨fun _ => ⟨g, 0, rfl, (Array.getElem?_eq_some_iff.1 hh).1, fun k hk => ?_⟩, h.rng, h.len, h.cap, h.byte, hrow⟩, hB⟩
      have hcell : ∀ j, j < m * 2 → w'.cell? ⟨g, j, none⟩ = some (cntCell ct PA pn pc j) := fun j hj => by
        rw [Blk.cell (show Blk w' g 30 cur from hh) j, ← Array.getElem?_toList]
        have : (cur.toList.take (m * 2))[j]? = ((List.range (m * 2)).map (cntCell ct PA pn pc))[j]? := by rw [htk]
        rw [List.getElem?_take, if_pos hj] at this
        rw [this]
        simp [hj]
      rw [Nat.zero_add]
      exact ⟨by rw [hcell _ (by omega), cntCell_even], by rw [hcell _ (by omega), cntCell_odd]⟩
end Go.Proofs.Ytknlipjgehgihaa
