/- slices of byte slices; few. -/
import Derived.Test.YtofaghpflmeblaaQ8
import Derived.Deep.Slices
namespace Go.Proofs.Ytofaghpflmeblaa
open Go.RowKit Go.ChangeShapes Go.WideShapes
attribute [local go_sem ↓] Go.wp_at_zero Go.wp_at_succ

theorem open_bytes_row {H : Type} {enc : TypeId × Value → H} {w : World} {base : Nat} {spare : Nat → Bool} {held : Bool} {fuel : Nat} {v : Value} {x : DataW H × List MemPlace} (h : DataW.trod enc Try.prog w base spare held fuel 24 [v] = some x) (hsp : ∀ b, spare b = true) :
    ∃ a len cap zs, v = .slice a len cap ∧ IsRow .u8 w a len cap zs := by
  rcases open_ints Try.underlying24 Try.underlying5 (by kernel_rfl) h with ⟨hcs, _⟩ | ⟨x, l, c, zs, hcs, _, hl, hm, hz, _, hcell, hwz⟩
  · simp at hcs
    subst hcs
    exact ⟨none, 0, 0, [], rfl, .inl ⟨rfl, rfl, rfl, rfl⟩⟩
  · simp at hcs
    subst hcs
    rw [if_pos (hsp _)] at hz
    exact ⟨some x, l, c, zs, rfl, .inr ⟨x, rfl, hl, hm, hz, hcell, hwz⟩⟩
structure Rows2 (w : World) (A : Option Addr) (m : Nat) (PA : Nat → Option Addr) (pn pc : Nat → Nat) (z : Nat → Nat → Int) : Prop where
  at_ : m ≠ 0 → ∃ lb lo, A = some ⟨lb, lo, none⟩ ∧ lb < w.heap.size ∧ ∀ k, k < m → w.cell? ⟨lb, lo + k, none⟩ = some (.slice (PA k) (pn k) (pc k))
  cap : ∀ k, k < m → pn k ≤ pc k
  byte : ∀ k, k < m → ∀ j, j < pn k → 0 ≤ z k j ∧ z k j < 256
  row : ∀ k, k < m → Row w w.heap.size (PA k) (pn k) (fun j => .int .u8 (z k j))
theorem Rows2.below {w w' : World} {A : Option Addr} {m : Nat} {PA : Nat → Option Addr} {pn pc : Nat → Nat} {z : Nat → Nat → Int} (h : Rows2 w A m PA pn pc z) (hb : Below w.heap.size w w') : Rows2 w' A m PA pn pc z :=
  ⟨fun hm => by
    obtain ⟨lb, lo, e, hlt, hc⟩ := h.at_ hm
    exact ⟨lb, lo, e, Nat.lt_of_lt_of_le hlt hb.size, fun k hk => (hb.cell (p := ⟨lb, lo + k, none⟩) hlt).trans (hc k hk)⟩, h.cap, h.byte, fun k hk => (h.row k hk).next hb⟩
theorem open_rows2 {H : Type} {enc : TypeId × Value → H} {w : World} {base : Nat} {spare : Nat → Bool} {held : Bool} {fuel : Nat} {a : Option Addr} {len cap : Nat} {x : DataW H × List MemPlace}
    (h : DataW.trod enc Try.prog w base spare held fuel 33 [.slice a len cap] = some x) (hsp : ∀ b, spare b = true) :
    len ≤ maxLen ∧ len ≤ cap ∧ ∃ PA pn pc z, Rows2 w a len PA pn pc z := by
  rcases Go.Deep.open_slice Try.underlying33 h with ⟨hcs, _⟩ | ⟨ad, l, c, m, n, D, Pl, hcs, _, hl, hm, hmm, _, hf⟩
  · simp at hcs
    obtain ⟨rfl, rfl, rfl⟩ := hcs
    exact ⟨by unfold maxLen; omega, Nat.le_refl _, fun _ => none, fun _ => 0, fun _ => 0, fun _ _ => 0, ⟨fun h => absurd rfl h, fun k hk => by omega, fun k hk => by omega, fun k hk => by omega⟩⟩
  · simp at hcs
    obtain ⟨rfl, rfl, rfl⟩ := hcs
    rw [if_pos (hsp _)] at hmm
    subst hmm
    have c1 : Try.prog.cellsOf 24 = 1 := by kernel_rfl
    have h1 : ∀ i, ∃ q : Option Addr × Nat × Nat × List Int, i < len → w.cell? (ad.add i) = some (.slice q.1 q.2.1 q.2.2.1) ∧ IsRow .u8 w q.1 q.2.1 q.2.2.1 q.2.2.2 := fun i => by
      by_cases hi : i < len
      · obtain ⟨cs', g1, g2⟩ := hf i (by omega)
        rw [c1, Nat.mul_one] at g1
        obtain ⟨_, hlen, hcell⟩ := World.cells?_some g1
        match cs', hlen with
        | [v], _ =>
          obtain ⟨a, l, c, zs, hv, hr⟩ := open_bytes_row (v := v) g2 hsp
          have hc0 := hcell 0 (by omega)
          simp at hc0
          exact ⟨(a, l, c, zs), fun _ => ⟨by rw [← hv]; simpa [Addr.add] using hc0, hr⟩⟩
      · exact ⟨(none, 0, 0, []), fun h => absurd h hi⟩
    obtain ⟨q1, hq1⟩ := Classical.axiomOfChoice h1
    refine ⟨by omega, hl, fun k => (q1 k).1, fun k => (q1 k).2.1, fun k => (q1 k).2.2.1, fun k j => (q1 k).2.2.2.getD j 0, ⟨fun hn => ?_, fun k hk => (isRow_u8 (hq1 k hk).2).1, fun k hk => (isRow_u8 (hq1 k hk).2).2, fun k hk => isRow_row (hq1 k hk).2⟩⟩
    obtain ⟨b, off, spot⟩ := ad
    have c0 := (hq1 0 (by omega)).1
    have hspot : spot = none := by simpa [Addr.add] using World.cell?_spot c0
    subst hspot
    have hadd : ∀ j, (⟨b, off, none⟩ : Addr).add j = ⟨b, off + j, none⟩ := fun j => by unfold Addr.add; split <;> simp_all
    refine ⟨b, off, rfl, ?_, fun k hk => ?_⟩
    · rw [hadd] at c0
      exact World.block_lt_of_cell? w _ c0
    · have := (hq1 k hk).1
      rwa [hadd] at this
theorem few44_yes (A : Option Addr) (m c : Nat) (most : Int) (PA : Nat → Option Addr) (pn pc : Nat → Nat) (z : Nat → Nat → Int) (w : World) (h : Rows2 w A m PA pn pc z) (hm : (m : Int) ≤ most) (hall : ∀ k, k < m → pn k ≤ 100) (hmx : m ≤ maxLen) :
    Calls Try.prog 16 #[.slice A m c, .int .i64 most] w fun e w' => e = .returned (.bool true) ∧ w = w' := by
  unfold maxLen at hmx
  have H := Lib.hid h
  have HA := Lib.hid hall
  have h1 : ¬ most < (m : Int) := by omega
  clear h hall
  go_enter Try.func16, Try.ntmps16
  go_wp2
  go_loop [5] (fun v => ∃ k : Nat, k ≤ m ∧ v = .int .i64 k) (fun v => m - (intOf v).toNat)
  case atStart => exact ⟨0, by omega, rfl⟩
  case round =>
    obtain ⟨k, hk, rfl⟩ := hrel
    by_cases hlt : k < m
    · obtain ⟨lb, lo, rfl, _, hc⟩ := H.out.at_ (by omega)
      have c1 := hc k hlt
      have hp : ¬ (100 : Int) < (pn k : Int) := by have := HA.out k hlt; omega
      clear hc
      go_wp2
      go_round
      case rel => exact ⟨k + 1, by omega, by go_num⟩
      case measure => simp [intOf]; omega
    · obtain rfl : k = m := by omega
      go_wp2
      go_ret
      exact ⟨rfl, rfl⟩
theorem few44_no (A : Option Addr) (m c : Nat) (most : Int) (PA : Nat → Option Addr) (pn pc : Nat → Nat) (z : Nat → Nat → Int) (w : World) (h : Rows2 w A m PA pn pc z) (hno : ¬ ((m : Int) ≤ most ∧ ∀ k, k < m → pn k ≤ 100)) (hmx : m ≤ maxLen) :
    Calls Try.prog 16 #[.slice A m c, .int .i64 most] w fun e w' => e = .returned (.bool false) ∧ w = w' := by
  unfold maxLen at hmx
  by_cases hm : (m : Int) ≤ most
  · have H := Lib.hid h
    have HN := Lib.hid (show ¬ ∀ k, k < m → pn k ≤ 100 from fun h => hno ⟨hm, h⟩)
    have h1 : ¬ most < (m : Int) := by omega
    clear h hno
    go_enter Try.func16, Try.ntmps16
    go_wp2
    go_loop [5] (fun v => ∃ k : Nat, k ≤ m ∧ v = .int .i64 k ∧ ∀ j, j < k → pn j ≤ 100) (fun v => m - (intOf v).toNat)
    case atStart => exact ⟨0, by omega, rfl, fun j hj => by omega⟩
    case round =>
      obtain ⟨k, hk, rfl, hall⟩ := hrel
      have HA := Lib.hid hall
      clear hall
      by_cases hlt : k < m
      · obtain ⟨lb, lo, rfl, _, hc⟩ := H.out.at_ (by omega)
        have c1 := hc k hlt
        clear hc
        by_cases hp : (100 : Int) < (pn k : Int)
        · go_wp2
          go_ret
          exact ⟨rfl, rfl⟩
        · go_wp2
          go_round
          case rel => exact ⟨k + 1, by omega, by go_num, fun j hj => by by_cases hjk : j = k; (subst hjk; omega); exact HA.out j (by omega)⟩
          case measure => simp [intOf]; omega
      · exact absurd (fun j hj => HA.out j (by omega)) HN.out
  · have h1 : most < (m : Int) := by omega
    clear h hno hm
    go_enter Try.func16, Try.ntmps16
    go_wp2
    go_ret
    exact ⟨rfl, rfl⟩
end Go.Proofs.Ytofaghpflmeblaa
