/- ExpandPlays: the walk. -/
import Derived.Test.YtofaghpflmeblaaPR
namespace Go.Proofs.Ytofaghpflmeblaa
open Go.RowKit Go.WideShapes
set_option linter.unusedVariables false
attribute [local go_sem ↓] Go.wp_at_zero Go.wp_at_succ

set_option maxRecDepth 100000 in
set_option maxHeartbeats 3200000 in
theorem plays44_walk (A : Option Addr) (m c : Nat) (PA : Nat → Option Addr) (pn pc : Nat → Nat) (z : Nat → Nat → Int) (w : World) (hA : Rows2 w A m PA pn pc z) (hmx : m ≤ maxLen) :
    Calls Try.prog 4 #[.slice A m c] w fun e w' => e = .returned (.bool true) ∧ Below w.heap.size w w' := by
  by_cases hfew : (m : Int) ≤ 60 ∧ ∀ k, k < m → pn k ≤ 100
  rotate_left
  · have HF := Lib.hid (few44_no A m c 60 PA pn pc z w hA hfew hmx)
    clear hA hfew
    go_enter Try.func4, Try.ntmps4
    go_wp2_with (first
      | (go_at_call 16; refine (HF.out).mono ?_; rintro e w1 ⟨rfl, rfl⟩)
      | (go_at_call 13; refine (works44_true _).mono ?_; rintro e w1 ⟨rfl, hB1⟩))
    go_ret
    exact ⟨rfl, hB1⟩
  obtain ⟨hm60, hall⟩ := hfew
  have HF := Lib.hid (few44_yes A m c 60 PA pn pc z w hA hm60 hall hmx)
  have HST := Lib.hid (fun (W : World) (hb : Below w.heap.size w W) (h : EB W w.heap.size true (fun _ => Ec.zero)) => steps44_ok w.heap.size (fun _ => Ec.zero) A m c PA pn pc z w W hA hb (Nat.le_refl _) hall (by omega) zero_all h)
  have HNW := Lib.hid (fun W => ernew_ok W)
  have hz' := zeroXp
  obtain ⟨Z, hZ⟩ : ∃ Z, Z = rxArr (fun _ => Ec.zero) := ⟨_, rfl⟩
  obtain ⟨LM, hLM⟩ : ∃ LM, LM = rxArr (xrun pn z (fun _ => Ec.zero) m) := ⟨_, rfl⟩
  have HSM : Hid ((Try.prog.info? 41).map (·.size) = some LM.size) := Lib.hid (by rw [hLM, rxArr_size]; exact sizeXp)
  have HZM : Hid (Z.size = LM.size) := Lib.hid (by rw [hLM, hZ, rxArr_size, rxArr_size])
  have HOM : Hid (LM.all (·.oneCell') = true) := Lib.hid (by rw [hLM]; exact rxp_one _)
  rw [← hZ] at hz' HNW HST
  rw [← hLM] at HST
  clear hA hall hZ hLM hmx
  go_enter Try.func4, Try.ntmps4
  go_wp2_with (first
    | (go_at_call 16; refine (HF.out).mono ?_; rintro e w1 ⟨rfl, rfl⟩)
    | (go_at_call 10; refine (enew_ok2 _).mono ?_; rintro e w1 ⟨rfl, hK1, hB1⟩; have K1 := Lib.hid hK1; have B1 := Lib.hid hB1; clear hK1 hB1)
    | (go_at_call 18; refine (HNW.out w1).mono ?_; rintro e w2 ⟨rfl, hB2⟩; have K2 := Lib.hid (K1.out.below hB2 K1.out.lt); have B2 := Lib.hid (below_step B1.out hB2); clear hB2)
    | (go_at_call 17; refine (HST.out w2 B2.out K2.out).mono ?_; rintro e w3 ⟨rfl, _, hK3⟩; have B3 := Lib.hid (below_keep B2.out hK3 (Nat.le_refl _) B2.out.size); clear hK3)
    | (refine wpList_store_row rfl _ _ _ rfl w3.heap.size LM rfl rfl 41 Z (Blk.new w3 _ _) HSM.out HZM.out HOM.out ?_)
    | (go_at_call 13; refine (works44_true _).mono ?_; rintro e w9 ⟨rfl, hB9⟩))
  go_ret
  have hb : Below w.heap.size w ((w3.alloc (.cells Z 41)).setRow w3.heap.size LM) := belowRow (below_new B3.out _) B3.out.size _
  exact ⟨rfl, below_step hb hB9⟩
end Go.Proofs.Ytofaghpflmeblaa
