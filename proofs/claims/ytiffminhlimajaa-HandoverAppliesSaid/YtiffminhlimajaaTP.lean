/- opening api.Forward. -/
import Derived.Test.YtiffminhlimajaaTO
import Derived.Deep.SlicePairs
import Derived.Deep.Slices
namespace Go.Proofs.Ytiffminhlimajaa
open Go.RowKit Go.ChangeShapes Go.WideShapes

theorem open_bytes_row {H : Type} {enc : TypeId × Value → H} {w : World} {base : Nat} {spare : Nat → Bool} {held : Bool} {fuel : Nat} {v : Value} {x : DataW H × List MemPlace} (h : DataW.trod enc Try.prog w base spare held fuel 27 [v] = some x) (hsp : ∀ b, spare b = true) :
    ∃ a len cap zs, v = .slice a len cap ∧ IsRow .u8 w a len cap zs := by
  rcases open_ints Try.underlying27 Try.underlying5 (by kernel_rfl) h with ⟨hcs, _⟩ | ⟨x, l, c, zs, hcs, _, hl, hm, hz, _, hcell, hwz⟩
  · simp at hcs
    subst hcs
    exact ⟨none, 0, 0, [], rfl, .inl ⟨rfl, rfl, rfl, rfl⟩⟩
  · simp at hcs
    subst hcs
    rw [if_pos (hsp _)] at hz
    exact ⟨some x, l, c, zs, rfl, .inr ⟨x, rfl, hl, hm, hz, hcell, hwz⟩⟩
theorem open_cnts {H : Type} {enc : TypeId × Value → H} {w : World} {base : Nat} {spare : Nat → Bool} {held : Bool} {fuel : Nat} {a : Option Addr} {len cap : Nat} {x : DataW H × List MemPlace}
    (h : DataW.trod enc Try.prog w base spare held fuel 23 [.slice a len cap] = some x) (hsp : ∀ b, spare b = true) :
    len ≤ maxLen ∧ len ≤ cap ∧ ∃ ct PA pn pc z, Cnts w a len ct PA pn pc z := by
  rcases Go.Deep.open_slice_pairs Try.underlying23 Try.underlying50 (by kernel_rfl) rfl rfl (by kernel_rfl) (by kernel_rfl) h with ⟨hcs, _⟩ | ⟨ad, l, c, m, n, V0, V1, D0, D1, P0, P1, hcs, _, hl, hm, hmm, _, hf⟩
  · simp at hcs
    obtain ⟨rfl, rfl, rfl⟩ := hcs
    exact ⟨by unfold maxLen; omega, Nat.le_refl _, fun _ => 0, fun _ => none, fun _ => 0, fun _ => 0, fun _ _ => 0, ⟨fun h => absurd rfl h, fun k hk => by omega, fun k hk => by omega, fun k hk => by omega, fun k hk => by omega, fun k hk => by omega⟩⟩
  · simp at hcs
    obtain ⟨rfl, rfl, rfl⟩ := hcs
    rw [if_pos (hsp _)] at hmm
    subst hmm
    have h0 : ∀ i, ∃ q : Int, i < len → V0 i = .int .u32 q ∧ (Lit.int .u32 q).wf = true := fun i => by
      by_cases hi : i < len
      · obtain ⟨q, hq, _, hw⟩ := DataW.trod_int Try.underlying22 (hf i (by omega)).2.2.1
        exact ⟨q, fun _ => ⟨by simpa using hq, hw⟩⟩
      · exact ⟨0, fun h => absurd h hi⟩
    have h1 : ∀ i, ∃ q : Option Addr × Nat × Nat × List Int, i < len → V1 i = .slice q.1 q.2.1 q.2.2.1 ∧ IsRow .u8 w q.1 q.2.1 q.2.2.1 q.2.2.2 := fun i => by
      by_cases hi : i < len
      · obtain ⟨a, l, c, zs, hv, hr⟩ := open_bytes_row (hf i (by omega)).2.2.2 hsp
        exact ⟨(a, l, c, zs), fun _ => ⟨hv, hr⟩⟩
      · exact ⟨(none, 0, 0, []), fun h => absurd h hi⟩
    obtain ⟨q0, hq0⟩ := Classical.axiomOfChoice h0
    obtain ⟨q1, hq1⟩ := Classical.axiomOfChoice h1
    refine ⟨by omega, hl, q0, fun k => (q1 k).1, fun k => (q1 k).2.1, fun k => (q1 k).2.2.1, fun k j => (q1 k).2.2.2.getD j 0, ⟨fun hn => ?_, fun k hk => by
      have h2 := (by simpa [Lit.wf] using (hq0 k hk).2 : IntKind.u32.min ≤ q0 k ∧ q0 k ≤ IntKind.u32.max)
      rw [show IntKind.u32.min = 0 from rfl, show IntKind.u32.max = 4294967295 from rfl] at h2
      omega, fun k hk => by
      rcases (hq1 k hk).2 with ⟨_, h0, _⟩ | ⟨_, _, hl2, hm2, _⟩
      · show (q1 k).2.1 ≤ _
        omega
      · show (q1 k).2.1 ≤ _
        unfold maxLen at hm2
        omega, fun k hk => (isRow_u8 (hq1 k hk).2).1, fun k hk => (isRow_u8 (hq1 k hk).2).2, fun k hk => isRow_row (hq1 k hk).2⟩⟩
    · obtain ⟨b, off, spot⟩ := ad
      have c0 := (hf 0 (by omega)).1
      have hspot : spot = none := by simpa [Addr.add] using World.cell?_spot c0
      subst hspot
      have hadd : ∀ j, (⟨b, off, none⟩ : Addr).add j = ⟨b, off + j, none⟩ := fun j => by unfold Addr.add; split <;> simp_all
      refine ⟨b, off, rfl, ?_, fun k hk => ?_⟩
      · rw [hadd] at c0
        exact World.block_lt_of_cell? w _ c0
      · obtain ⟨e0, e1, _, _⟩ := hf k (by omega)
        rw [hadd] at e0 e1
        rw [(hq0 k hk).1] at e0
        rw [(hq1 k hk).1] at e1
        exact ⟨e0, e1⟩
theorem open_brows {H : Type} {enc : TypeId × Value → H} {w : World} {base : Nat} {spare : Nat → Bool} {held : Bool} {fuel : Nat} {a : Option Addr} {len cap : Nat} {x : DataW H × List MemPlace}
    (h : DataW.trod enc Try.prog w base spare held fuel 24 [.slice a len cap] = some x) (hsp : ∀ b, spare b = true) :
    len ≤ maxLen ∧ len ≤ cap ∧ ∃ PA pn pc z, BRows w a len PA pn pc z := by
  rcases Go.Deep.open_slice Try.underlying24 h with ⟨hcs, _⟩ | ⟨ad, l, c, m, n, D, Pl, hcs, _, hl, hm, hmm, _, hf⟩
  · simp at hcs
    obtain ⟨rfl, rfl, rfl⟩ := hcs
    exact ⟨by unfold maxLen; omega, Nat.le_refl _, fun _ => none, fun _ => 0, fun _ => 0, fun _ _ => 0, ⟨fun h => absurd rfl h, fun k hk => by omega, fun k hk => by omega, fun k hk => by omega, fun k hk => by omega⟩⟩
  · simp at hcs
    obtain ⟨rfl, rfl, rfl⟩ := hcs
    rw [if_pos (hsp _)] at hmm
    subst hmm
    have c1 : Try.prog.cellsOf 27 = 1 := by kernel_rfl
    have h1 : ∀ i, ∃ q : Option Addr × Nat × Nat × List Int, i < len → w.cell? (ad.add i) = some (.slice q.1 q.2.1 q.2.2.1) ∧ IsRow .u8 w q.1 q.2.1 q.2.2.1 q.2.2.2 := fun i => by
      by_cases hi : i < len
      · obtain ⟨cs', g1, g2⟩ := hf i (by omega)
        rw [c1, Nat.mul_one] at g1
        obtain ⟨_, hlen, hcell⟩ := World.cells?_some g1
        match cs', hlen with
        | [v], _ =>
          obtain ⟨a, l, c, zs, hv, hr⟩ := open_bytes_row (v := v) g2 hsp
          have hc0 := hcell 0 (by omega)
          simp at hc0
          exact ⟨(a, l, c, zs), fun _ => ⟨by rw [← hv]; simpa [Addr.add] using hc0, hr⟩⟩
      · exact ⟨(none, 0, 0, []), fun h => absurd h hi⟩
    obtain ⟨q1, hq1⟩ := Classical.axiomOfChoice h1
    refine ⟨by omega, hl, fun k => (q1 k).1, fun k => (q1 k).2.1, fun k => (q1 k).2.2.1, fun k j => (q1 k).2.2.2.getD j 0, ⟨fun hn => ?_, fun k hk => Nat.le_trans (isRow_len (hq1 k hk).2) (by unfold maxLen; decide), fun k hk => (isRow_u8 (hq1 k hk).2).1, fun k hk => (isRow_u8 (hq1 k hk).2).2, fun k hk => isRow_row (hq1 k hk).2⟩⟩
    obtain ⟨b, off, spot⟩ := ad
    have c0 := (hq1 0 (by omega)).1
    have hspot : spot = none := by simpa [Addr.add] using World.cell?_spot c0
    subst hspot
    have hadd : ∀ j, (⟨b, off, none⟩ : Addr).add j = ⟨b, off + j, none⟩ := fun j => by unfold Addr.add; split <;> simp_all
    refine ⟨b, off, rfl, ?_, fun k hk => ?_⟩
    · rw [hadd] at c0
      exact World.block_lt_of_cell? w _ c0
    · have := (hq1 k hk).1
      rwa [hadd] at this
set_option maxRecDepth 100000 in
theorem open_forward {H : Type} {enc : TypeId × Value → H} {w : World} {base : Nat} {spare : Nat → Bool} {held : Bool} {r : Reach} {b0 : Nat} {v : Value} {d : DataW H} {p : List MemPlace}
    (hv : Value.okWide Try.prog w r b0 26 v) (h : DataW.Trod enc Try.prog w base spare held 26 v d p) (hsp : ∀ b, spare b = true) :
    ∃ (x : Int) (us : Bool) (A A2 : Option Addr) (m c mq c2 : Nat) (ct : Nat → Int) (PA : Nat → Option Addr) (pn pc : Nat → Nat) (z : Nat → Nat → Int) (QA : Nat → Option Addr) (qn qc : Nat → Nat) (y : Nat → Nat → Int), v = .agg #[.int .u32 x, .bool us, .slice A m c, .slice A2 mq c2] ∧ (0 ≤ x ∧ x < 4294967296) ∧ m ≤ maxLen ∧ mq ≤ maxLen ∧ Cnts w A m ct PA pn pc z ∧ BRows w A2 mq QA qn qc y := by
  obtain ⟨cs, rfl, hsz⟩ := okWide_struct Try.underlying26 hv
  have hc : Try.prog.cellsOf 26 = 4 := by kernel_rfl
  have h3 : cs.size = 4 := hsz.trans hc
  obtain ⟨fuel, hf⟩ := h
  obtain ⟨xs, n, _, _, _, hlen, hg⟩ := DataW.trod_struct Try.underlying26 hf
  have hx3 : xs.length = 4 := hlen
  have c1 : Try.prog.cellsOf 22 = 1 := by kernel_rfl
  have c0 : Try.prog.cellsOf 4 = 1 := by kernel_rfl
  have c2 : Try.prog.cellsOf 23 = 1 := by kernel_rfl
  have c3 : Try.prog.cellsOf 24 = 1 := by kernel_rfl
  obtain ⟨l⟩ := cs
  match l, h3 with
  | [a, b, e, f], _ =>
    have g0 : DataW.trod enc Try.prog w base spare held n 22 (List.take (Try.prog.cellsOf 22) (List.drop 0 [a, b, e, f])) = xs[0]? := hg 0 _ rfl
    have g1 : DataW.trod enc Try.prog w base spare held n 4 (List.take (Try.prog.cellsOf 4) (List.drop 1 [a, b, e, f])) = xs[1]? := hg 1 _ rfl
    have g2 : DataW.trod enc Try.prog w base spare held n 23 (List.take (Try.prog.cellsOf 23) (List.drop 2 [a, b, e, f])) = xs[2]? := hg 2 _ rfl
    have g3 : DataW.trod enc Try.prog w base spare held n 24 (List.take (Try.prog.cellsOf 24) (List.drop 3 [a, b, e, f])) = xs[3]? := hg 3 _ rfl
    rw [c1, List.getElem?_eq_getElem (by omega)] at g0
    rw [c0, List.getElem?_eq_getElem (by omega)] at g1
    rw [c2, List.getElem?_eq_getElem (by omega)] at g2
    rw [c3, List.getElem?_eq_getElem (by omega)] at g3
    obtain ⟨x, e0, _, w0⟩ := DataW.trod_int Try.underlying22 g0
    obtain ⟨us, e1, _⟩ := DataW.trod_bool Try.underlying4 g1
    simp at e0 e1 g2 g3
    subst e0 e1
    have u0 := (by simpa [Lit.wf] using w0 : IntKind.u32.min ≤ x ∧ x ≤ IntKind.u32.max)
    rw [show IntKind.u32.min = 0 from rfl, show IntKind.u32.max = 4294967295 from rfl] at u0
    obtain ⟨A, m, c, rfl⟩ : ∃ A m c, e = .slice A m c := by
      rcases Go.Deep.open_slice_pairs Try.underlying23 Try.underlying50 (by kernel_rfl) rfl rfl (by kernel_rfl) (by kernel_rfl) g2 with ⟨hcs, _⟩ | ⟨ad, l, c, m, n, V0, V1, D0, D1, P0, P1, hcs, _⟩
      · simp at hcs; exact ⟨_, _, _, hcs⟩
      · simp at hcs; exact ⟨_, _, _, hcs⟩
    obtain ⟨A2, mq, c2', rfl⟩ : ∃ A m c, f = .slice A m c := by
      rcases Go.Deep.open_slice Try.underlying24 g3 with ⟨hcs, _⟩ | ⟨ad, l, c, m, n, D, Pl, hcs, _⟩
      · simp at hcs; exact ⟨_, _, _, hcs⟩
      · simp at hcs; exact ⟨_, _, _, hcs⟩
    obtain ⟨hm, _, ct, PA, pn, pc, z, hC⟩ := open_cnts g2 hsp
    obtain ⟨hmq, _, QA, qn, qc, y, hQ⟩ := open_brows g3 hsp
    exact ⟨x, us, A, A2, m, c, mq, c2', ct, PA, pn, pc, z, QA, qn, qc, y, rfl, ⟨u0.1, Int.lt_of_le_of_lt u0.2 (by decide)⟩, hm, hmq, hC, hQ⟩
end Go.Proofs.Ytiffminhlimajaa
