/- pdcptx.tick: what has expired is deleted from the queue (slices.DeleteFunc). -/
import Derived.Test.YtiffminhlimajaaGreatZA
namespace Go.Proofs.YtiffminhlimajaaGreat
open Go.RowKit
set_option linter.unusedVariables false
attribute [local go_sem ↓] Go.wp_at_zero Go.wp_at_succ

/-- a list in which what is to be deleted is overwritten: j elements looked at, i kept -/
structure DL {α : Type} (l : List α) (p : α → Bool) (j i : Nat) (L : List α) : Prop where
  len : L.length = l.length
  ij : i ≤ j
  jl : j ≤ l.length
  pre : L.take i = (l.take j).filter (fun x => !p x)
  rest : ∀ k, j ≤ k → L[k]? = l[k]?
theorem DL.start {α : Type} {l : List α} {p : α → Bool} {i : Nat} {x : α} (hx : l[i]? = some x) (hp : p x = true) (hno : ∀ k, k < i → ∀ y, l[k]? = some y → p y = false) : DL l p (i + 1) i l := by
  have hil : i < l.length := (List.getElem?_eq_some_iff.1 hx).1
  have hxe : l[i] = x := (List.getElem?_eq_some_iff.1 hx).2
  refine ⟨rfl, by omega, hil, ?_, fun _ _ => rfl⟩
  rw [List.take_succ_eq_append_getElem hil, List.filter_append, hxe]
  have : (l.take i).filter (fun x => !p x) = l.take i := List.filter_eq_self.2 fun y hy => by
    obtain ⟨k, hk, rfl⟩ := List.mem_iff_getElem.1 hy
    have hk2 : k < i := by simp at hk; omega
    rw [List.getElem_take]
    simp [hno k hk2 l[k] (List.getElem?_eq_getElem (by omega))]
  rw [this]
  simp [hp]
theorem DL.keep {α : Type} {l L : List α} {p : α → Bool} {j i : Nat} {x : α} (h : DL l p j i L) (hx : l[j]? = some x) (hp : p x = false) : DL l p (j + 1) (i + 1) (L.set i x) := by
  have hjl : j < l.length := (List.getElem?_eq_some_iff.1 hx).1
  have hxe : l[j] = x := (List.getElem?_eq_some_iff.1 hx).2
  have hij := h.ij
  have hlen := h.len
  refine ⟨by simp [h.len], by omega, by omega, ?_, fun k hk => ?_⟩
  · rw [List.take_succ_eq_append_getElem hjl, List.filter_append, hxe, ← h.pre, List.take_succ_eq_append_getElem (by simp; omega)]
    simp [hp, List.take_set_of_le]
  · rw [List.getElem?_set_ne (by omega)]
    exact h.rest k (by omega)
theorem DL.drop {α : Type} {l L : List α} {p : α → Bool} {j i : Nat} {x : α} (h : DL l p j i L) (hx : l[j]? = some x) (hp : p x = true) : DL l p (j + 1) i L := by
  have hjl : j < l.length := (List.getElem?_eq_some_iff.1 hx).1
  have hxe : l[j] = x := (List.getElem?_eq_some_iff.1 hx).2
  have hij := h.ij
  refine ⟨h.len, by omega, by omega, ?_, fun k hk => h.rest k (by omega)⟩
  rw [List.take_succ_eq_append_getElem hjl, List.filter_append, hxe, ← h.pre]
  simp [hp]
theorem DL.done {α : Type} {l L : List α} {p : α → Bool} {i : Nat} (h : DL l p l.length i L) : L.take i = l.filter (fun x => !p x) := by
  have := h.pre
  rwa [List.take_length] at this
theorem firstP_cases (p : Nat → Bool) (n : Nat) : (∃ i, i < n ∧ firstP p 0 n = (i : Int) ∧ p i = true ∧ ∀ j, j < i → p j = false) ∨ (firstP p 0 n = -1 ∧ ∀ j, j < n → p j = false) := by
  have : ∀ d k, k + d = n → (∀ j, j < k → p j = false) → (∃ i, i < n ∧ firstP p k d = (i : Int) ∧ p i = true ∧ ∀ j, j < i → p j = false) ∨ (firstP p k d = -1 ∧ ∀ j, j < n → p j = false) := by
    intro d
    induction d with
    | zero => intro k h1 h2; exact .inr ⟨rfl, fun j hj => h2 j (by omega)⟩
    | succ d ih =>
      intro k h1 h2
      rw [firstP]
      by_cases hk : p k = true
      · rw [if_pos hk]
        exact .inl ⟨k, by omega, rfl, hk, h2⟩
      · rw [if_neg hk]
        refine ih (k + 1) (by omega) (fun j hj => ?_)
        by_cases hjk : j = k
        · subst hjk; simpa using hk
        · exact h2 j (by omega)
  exact this n 0 (by omega) (fun j hj => absurd hj (by omega))
/-- a packet's time has come -/
def goneB (ds n a : Int) : Bool := decide (0 < ds) && decide (ds ≤ n - a)
set_option maxRecDepth 100000 in
theorem tgone_ok (ds n a : Int) (h1 : 0 ≤ ds ∧ ds ≤ 1073741824) (h2 : 0 ≤ a ∧ a ≤ n) (h3 : n < 1073741824) (A : Option Addr) (m c g tb : Nat) (w : World) (x0 : w.cell? ⟨tb, 0, none⟩ = some (.pointer (some ⟨g, 0, none⟩))) (x1 : w.cell? ⟨g, 37, none⟩ = some (.int .i64 ds)) (x2 : w.cell? ⟨g, 40, none⟩ = some (.int .i64 n)) (l1 : tb < w.heap.size) (l2 : g < w.heap.size) :
    Calls Tryz.prog 86 #[.agg #[.slice A m c, .int .i64 a], .pointer (some ⟨tb, 0, none⟩)] w fun e w' => e = .returned (.bool (goneB ds n a)) ∧ Below w.heap.size w w' := by
  have HG := Lib.hid (show goneB ds n a = (decide (0 < ds) && decide (ds ≤ n - a)) from rfl)
  go_enter Tryz.func86, Tryz.ntmps86
  go_upto_region 1 with (fail)
  refine wp_let (fun V => V.cell? ⟨w.heap.size, 1, none⟩ = some (.int .i64 a) ∧ V.cell? ⟨tb, 0, none⟩ = some (.pointer (some ⟨g, 0, none⟩)) ∧ V.cell? ⟨g, 37, none⟩ = some (.int .i64 ds) ∧ V.cell? ⟨g, 40, none⟩ = some (.int .i64 n) ∧ Below w.heap.size w V) ⟨(Blk.new _ _ _).cell 1, Lib.cell?_alloc_some _ x0, Lib.cell?_alloc_some _ x1, Lib.cell?_alloc_some _ x2, (Below.refl _ w).alloc (Nat.le_refl _) _⟩ ?_
  rintro W1 ⟨y, y0, y1, y2, b1⟩
  have B1 := Lib.hid b1
  obtain ⟨bb, hbb⟩ : ∃ bb, bb = w.heap.size := ⟨_, rfl⟩
  rw [← hbb] at y B1 ⊢
  have HBB := Lib.hid hbb
  clear x0 x1 x2 b1 hbb
  have s1 : -9223372036854775808 ≤ n - a := by omega
  have s2 : n - a ≤ 9223372036854775807 := by omega
  by_cases c0 : 0 < ds
  · have d0 : decide (0 < ds) = true := decide_eq_true c0
    by_cases c1 : ds ≤ n - a
    · have d1 : decide (ds ≤ n - a) = true := decide_eq_true c1
      go_quiet (fail)
      go_wp2
      go_ret
      exact ⟨ret_bool (by rw [HG.out, d0, d1]; first | rfl | simp [*]), by rw [← HBB.out]; exact below_drewN B1.out _⟩
    · have d1 : decide (ds ≤ n - a) = false := decide_eq_false c1
      go_quiet (fail)
      go_wp2
      go_ret
      exact ⟨ret_bool (by rw [HG.out, d0, d1]; first | rfl | simp [*]), by rw [← HBB.out]; exact below_drewN B1.out _⟩
  · have d0 : decide (0 < ds) = false := decide_eq_false c0
    go_quiet (fail)
    go_wp2
    go_ret
    exact ⟨ret_bool (by rw [HG.out, d0]; first | rfl | simp [*]), by rw [← HBB.out]; exact below_drewN B1.out _⟩
/-- an element of the queue is to be deleted -/
def delAt (lq : List WE) (p : WE → Bool) (k : Nat) : Bool := match lq[k]? with | some e => p e | none => false
/-- the closure answers p -/
def Picks (p : WE → Bool) (tb : Nat) (lq : List WE) (W : World) : Prop := ∀ e, e ∈ lq → Calls Tryz.prog 86 #[.agg #[.slice e.A e.v.n e.c, .int .i64 e.v.at_], .pointer (some ⟨tb, 0, none⟩)] W fun x w' => x = .returned (.bool (p e)) ∧ Below W.heap.size W w'
set_option maxRecDepth 100000 in
theorem windex_ok (A : Option Addr) (n c : Nat) (lq : List WE) (hn : n = lq.length) (p : WE → Bool) (tb : Nat) (w : World) (h : SL w 103 2 A n c (lq.flatMap WE.cells)) (hx : ∀ W, Below w.heap.size w W → Picks p tb lq W) :
    Calls Tryz.prog 110 #[.slice A n c, .func (.func 86) #[] #[.pointer (some ⟨tb, 0, none⟩)]] w fun e w' => e = .returned (.int .i64 (firstP (delAt lq p) 0 n)) ∧ Below w.heap.size w w' := by
  have hcm := h.cmax
  have hle := h.le
  unfold maxLen at hcm
  have HSL := Lib.hid h
  have HX := Lib.hid hx
  obtain ⟨F, hF⟩ : ∃ F, F = delAt lq p := ⟨_, rfl⟩
  have HF0 := Lib.hid hF
  have HN := Lib.hid hn
  rw [← hF]
  clear h hx hF hn
  go_enter Tryz.func110, Tryz.ntmps110
  go_wp2
  go_loopw [8] (fun v wr => ∃ k : Nat, k ≤ n ∧ v = .int .i64 k ∧ firstP F 0 n = firstP F k (n - k) ∧ Below w.heap.size w wr) (fun v _ => n - (intOf v).toNat)
  case atStart => exact ⟨0, by omega, rfl, rfl, Below.refl _ _⟩
  case round =>
    obtain ⟨k, hk, rfl, hfw, hb⟩ := hrel
    have HF := Lib.hid hfw
    have HB := Lib.hid hb
    clear hfw hb
    by_cases hlt2 : k < n
    · obtain ⟨e0, he0⟩ : ∃ e0, lq[k]? = some e0 := ⟨lq[k]'(by have := HN.out; omega), by simp [HN.out ▸ hlt2]⟩
      have hS := HSL.out.next HB.out
      obtain ⟨b, o, hA, hbl⟩ := hS.some_ (by omega)
      have c0 := hS.cell hA (j := k * 2 + 0) (by omega)
      have c1 := hS.cell hA (j := k * 2 + 1) (by omega)
      rw [flat_at WE.cells 2 WE.len lq k _ e0 he0 (by omega)] at c0 c1
      have hFk : F k = p e0 := by rw [HF0.out]; unfold delAt; rw [he0]
      have HC := Lib.hid (HX.out wr HB.out e0 (List.mem_of_getElem? he0))
      simp only [WE.cells, List.getElem?_cons_zero, List.getElem?_cons_succ, Nat.add_zero] at c0 c1
      have HST := Lib.hid (firstP_step F k n hlt2)
      obtain ⟨bb, hbb⟩ : ∃ bb, bb = p e0 := ⟨_, rfl⟩
      rw [← hbb] at HC hFk
      have HFk := Lib.hid hFk
      subst hA
      clear hbb hFk hS he0
      have k0 : (0 : Int) ≤ (k : Int) := by omega
      have k1 : (k : Int) < (n : Int) := by omega
      rw [← Nat.add_assoc] at c1
      cases bb
      · have HS2 := Lib.hid (HST.out.trans (if_neg (by rw [HFk.out]; decide)))
        go_wp2_with (go_at_call 86; refine (HC.out).mono ?_; rintro e w2 ⟨rfl, hB2⟩; have HB2 := Lib.hid (HB.out.trans (hB2.mono HB.out.size)); clear hB2)
        go_roundw
        case rel => exact ⟨k + 1, by omega, by go_num, by rw [HF.out, HS2.out], HB2.out⟩
        case measure => simp [intOf]; omega
      · have HS2 := Lib.hid (HST.out.trans (if_pos HFk.out))
        go_wp2_with (go_at_call 86; refine (HC.out).mono ?_; rintro e w2 ⟨rfl, hB2⟩; have HB2 := Lib.hid (HB.out.trans (hB2.mono HB.out.size)); clear hB2)
        go_ret
        exact ⟨ret_int (by rw [HF.out, HS2.out]), HB2.out⟩
    · obtain rfl : k = n := by omega
      have HF2 := Lib.hid (show firstP F 0 k = -1 by rw [HF.out, Nat.sub_self]; rfl)
      clear HF
      go_wp2
      go_ret
      exact ⟨ret_int HF2.out.symm, HB.out⟩
end Go.Proofs.YtiffminhlimajaaGreat
