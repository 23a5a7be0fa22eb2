/- pdcptx.Next: the first packet that is to be repeated; lemmas. -/
import Derived.Test.YtiffminhlimajaaGreatZF
namespace Go.Proofs.YtiffminhlimajaaGreat
open Go.RowKit
set_option linter.unusedVariables false
attribute [local go_sem ↓] Go.wp_at_zero Go.wp_at_succ

theorem firstRep_eq : ∀ {l : List PV} {i : Nat} {p : PV}, l[i]? = some p → p.rep = true → (∀ j, j < i → ∀ e, l[j]? = some e → e.rep = false) → firstRep l = some (i, p)
  | [], i, p, h, _, _ => by simp at h
  | q :: r, 0, p, h, hp, _ => by
    have : q = p := by simpa using h
    subst this
    unfold firstRep
    rw [if_pos hp]
  | q :: r, i + 1, p, h, hp, hno => by
    have hq := hno 0 (by omega) q rfl
    unfold firstRep
    rw [if_neg (by rw [hq]; decide), firstRep_eq (l := r) (i := i) (p := p) (by simpa using h) hp (fun j hj e he => hno (j + 1) (by omega) e (by simpa using he))]
    rfl
theorem firstRep_no : ∀ {l : List PV}, (∀ e, e ∈ l → e.rep = false) → firstRep l = none
  | [], _ => rfl
  | q :: r, h => by
    unfold firstRep
    rw [if_neg (by rw [h q List.mem_cons_self]; decide), firstRep_no (fun e he => h e (List.mem_cons_of_mem _ he))]
    rfl
/-- an element of the pending packets is to be repeated -/
def isRep (lp : List PE) (k : Nat) : Bool := match lp[k]? with | some e => e.v.rep | none => false
theorem rep_cases (lp : List PE) : (∃ (i : Nat) (e : PE), lp[i]? = some e ∧ firstP (isRep lp) 0 lp.length = (i : Int) ∧ firstRep (lp.map (·.v)) = some (i, e.v)) ∨ (firstP (isRep lp) 0 lp.length = -1 ∧ firstRep (lp.map (·.v)) = none) := by
  rcases firstP_cases (isRep lp) lp.length with ⟨i, hi, hf, hp, hno⟩ | ⟨hf, hno⟩
  · refine .inl ⟨i, lp[i], List.getElem?_eq_getElem hi, hf, firstRep_eq (by rw [List.getElem?_map, List.getElem?_eq_getElem hi]; rfl) ?_ (fun j hj e he => ?_)⟩
    · unfold isRep at hp
      rw [List.getElem?_eq_getElem hi] at hp
      exact hp
    · have h1 := hno j hj
      have hjl : j < lp.length := by omega
      unfold isRep at h1
      rw [List.getElem?_eq_getElem hjl] at h1
      rw [List.getElem?_map, List.getElem?_eq_getElem hjl] at he
      have : lp[j].v = e := by simpa using he
      rw [← this]
      exact h1
  · refine .inr ⟨hf, firstRep_no (fun e he => ?_)⟩
    obtain ⟨x, hx, rfl⟩ := List.mem_map.1 he
    obtain ⟨j, hj, rfl⟩ := List.mem_iff_getElem.1 hx
    have h1 := hno j hj
    unfold isRep at h1
    rw [List.getElem?_eq_getElem hj] at h1
    exact h1
theorem trep_ok (y : Int) (A : Option Addr) (n c : Nat) (r : Bool) (w : World) : Calls Tryz.prog 50 #[.agg #[.int .u32 y, .slice A n c, .bool r]] w fun e w' => e = .returned (.bool r) ∧ Below w.heap.size w w' := by
  go_enter Tryz.func50, Tryz.ntmps50
  go_wp2
  go_ret
  exact ⟨rfl, (Below.refl _ _).alloc (Nat.le_refl _) _⟩
theorem rindex_ok (A : Option Addr) (n c : Nat) (lp : List PE) (hn : n = lp.length) (w : World) (h : SL w 101 3 A n c (lp.flatMap PE.cells)) :
    Calls Tryz.prog 49 #[.slice A n c, .func (.func 50) #[] #[]] w fun e w' => e = .returned (.int .i64 (firstP (isRep lp) 0 n)) ∧ Below w.heap.size w w' := by
  have hcm := h.cmax
  have hle := h.le
  unfold maxLen at hcm
  have HSL := Lib.hid h
  obtain ⟨F, hF⟩ : ∃ F, F = isRep lp := ⟨_, rfl⟩
  have HF0 := Lib.hid hF
  have HN := Lib.hid hn
  rw [← hF]
  clear h hF hn
  go_enter Tryz.func49, Tryz.ntmps49
  go_wp2
  go_loopw [8] (fun v wr => ∃ k : Nat, k ≤ n ∧ v = .int .i64 k ∧ firstP F 0 n = firstP F k (n - k) ∧ Below w.heap.size w wr) (fun v _ => n - (intOf v).toNat)
  case atStart => exact ⟨0, by omega, rfl, rfl, Below.refl _ _⟩
  case round =>
    obtain ⟨k, hk, rfl, hfw, hb⟩ := hrel
    have HF := Lib.hid hfw
    have HB := Lib.hid hb
    clear hfw hb
    by_cases hlt2 : k < n
    · obtain ⟨e0, he0⟩ : ∃ e0, lp[k]? = some e0 := ⟨lp[k]'(by have := HN.out; omega), by simp [HN.out ▸ hlt2]⟩
      have hS := HSL.out.next HB.out
      obtain ⟨b, o, hA, hbl⟩ := hS.some_ (by omega)
      have c0 := hS.cell hA (j := k * 3 + 0) (by omega)
      have c1 := hS.cell hA (j := k * 3 + 1) (by omega)
      have c2 := hS.cell hA (j := k * 3 + 2) (by omega)
      rw [flat_at PE.cells 3 PE.len lp k _ e0 he0 (by omega)] at c0 c1 c2
      have hFk : F k = e0.v.rep := by rw [HF0.out]; unfold isRep; rw [he0]
      obtain ⟨⟨y, pn, pz, pr⟩, PA, pc⟩ := e0
      simp only [PE.cells, List.getElem?_cons_zero, List.getElem?_cons_succ, Nat.add_zero] at c0 c1 c2
      dsimp only at hFk
      have HC := Lib.hid (trep_ok y PA pn pc pr wr)
      have HST := Lib.hid (firstP_step F k n hlt2)
      obtain ⟨bb, hbb⟩ : ∃ bb, bb = pr := ⟨_, rfl⟩
      rw [← hbb] at HC hFk c2
      have HFk := Lib.hid hFk
      subst hA
      have c1' : wr.cell? ⟨b, o + (k * 3 + 1), none⟩ = _ := c1
      clear hbb hFk hS he0
      have k0 : (0 : Int) ≤ (k : Int) := by omega
      have k1 : (k : Int) < (n : Int) := by omega
      rw [← Nat.add_assoc] at c1 c2
      cases bb
      · have HS2 := Lib.hid (HST.out.trans (if_neg (by rw [HFk.out]; decide)))
        go_wp2_with (go_at_call 50; refine (HC.out).mono ?_; rintro e w2 ⟨rfl, hB2⟩; have HB2 := Lib.hid (HB.out.trans (hB2.mono HB.out.size)); clear hB2)
        go_roundw
        case rel => exact ⟨k + 1, by omega, by go_num, by rw [HF.out, HS2.out], HB2.out⟩
        case measure => simp [intOf]; omega
      · have HS2 := Lib.hid (HST.out.trans (if_pos HFk.out))
        go_wp2_with (go_at_call 50; refine (HC.out).mono ?_; rintro e w2 ⟨rfl, hB2⟩; have HB2 := Lib.hid (HB.out.trans (hB2.mono HB.out.size)); clear hB2)
        go_ret
        exact ⟨ret_int (by rw [HF.out, HS2.out]), HB2.out⟩
    · obtain rfl : k = n := by omega
      have HF2 := Lib.hid (show firstP F 0 k = -1 by rw [HF.out, Nat.sub_self]; rfl)
      clear HF
      go_wp2
      go_ret
      exact ⟨ret_int HF2.out.symm, HB.out⟩
theorem SL.drop {w : World} {e : TypeId} {sz b o n c : Nat} {xs : List Value} (h : SL w e sz (some ⟨b, o, none⟩) n c xs) (k : Nat) (hk : k ≤ n) : SL w e sz (if c = k then some ⟨b, o, none⟩ else some ⟨b, o + k * sz, none⟩) (n - k) (c - k) (xs.drop (k * sz)) := by
  have hm : k * sz ≤ n * sz := Nat.mul_le_mul_right _ hk
  rcases h.at_ with ⟨h1, _⟩ | ⟨b', o', cur, h1, h2, h3, h4, h5, h6⟩
  · cases h1
  cases h1
  refine ⟨by rw [List.length_drop, h.len, Nat.sub_mul], .inr ?_⟩
  have hcm : k * sz ≤ c * sz := Nat.mul_le_mul_right _ (by omega)
  by_cases hc : c = k
  · rw [if_pos hc]
    have hnk : n - k = 0 := by omega
    have hck : c - k = 0 := by omega
    exact ⟨b, o, cur, rfl, h2, by omega, by omega, by rw [hck]; omega, fun j hj => by rw [hnk] at hj; omega⟩
  · rw [if_neg hc]
    refine ⟨b, o + k * sz, cur, rfl, h2, by omega, by omega, by rw [Nat.sub_mul]; omega, fun j hj => ?_⟩
    rw [Nat.sub_mul] at hj
    rw [Nat.add_assoc, h6 _ (by omega), List.getElem?_drop]
theorem drop_flatW (lq : List WE) (k : Nat) : (lq.flatMap WE.cells).drop (k * 2) = (lq.drop k).flatMap WE.cells := by
  induction lq generalizing k with
  | nil => simp
  | cons x r ih =>
    cases k with
    | zero => simp
    | succ k => rw [List.flatMap_cons, List.drop_succ_cons, ← ih k, show (k + 1) * 2 = (WE.cells x).length + k * 2 from by show _ = 2 + k * 2; omega, List.drop_length_add_append]
/-- one cell stored -/
theorem SL.setOne {w : World} {e : TypeId} {sz b o n c : Nat} {xs : List Value} (h : SL w e sz (some ⟨b, o, none⟩) n c xs) (q : Nat) (hq : q < n * sz) (v : Value) : SL (w.setCell ⟨b, o + q, none⟩ v) e sz (some ⟨b, o, none⟩) n c (xs.set q v) := by
  rcases h.at_ with ⟨h1, _⟩ | ⟨b', o', cur, h1, h2, h3, h4, h5, h6⟩
  · cases h1
  cases h1
  have hcn : n * sz ≤ c * sz := Nat.mul_le_mul_right _ h3
  refine ⟨by rw [List.length_set, h.len], .inr ⟨b, o, _, rfl, (show Blk w b e cur from h2).set_ (o + q) v, h3, h4, by simpa using h5, fun j hj => ?_⟩⟩
  by_cases hjq : j = q
  · subst hjq
    rw [List.getElem?_set_self (by rw [h.len]; exact hj), Array.getElem?_setIfInBounds_self_of_lt (by omega)]
  · rw [List.getElem?_set_ne (fun e => hjq e.symm), Array.getElem?_setIfInBounds_ne (by omega), h6 j hj]
theorem rep_set (lp : List PE) (i : Nat) (e : PE) (h : lp[i]? = some e) : (lp.flatMap PE.cells).set (i * 3 + 2) (.bool false) = ((lp.set i { e with v := { e.v with rep := false } }).flatMap PE.cells) := by
  have hil : i < lp.length := (List.getElem?_eq_some_iff.1 h).1
  apply List.ext_getElem?
  intro j
  rw [flat_set PE.cells 3 PE.len lp i hil]
  by_cases hj : j = i * 3 + 2
  · subst hj
    rw [List.getElem?_set_self (by rw [flat_len PE.cells 3 PE.len]; omega), if_pos ⟨by omega, by omega⟩, show i * 3 + 2 - i * 3 = 2 by omega]
    rfl
  · rw [List.getElem?_set_ne (fun e => hj e.symm)]
    by_cases hin : i * 3 ≤ j ∧ j < i * 3 + 3
    · rw [if_pos hin]
      obtain ⟨d, rfl⟩ : ∃ d, j = i * 3 + d := ⟨j - i * 3, by omega⟩
      rw [flat_at PE.cells 3 PE.len lp i d e h (by omega), show i * 3 + d - i * 3 = d by omega]
      rcases (by omega : d = 0 ∨ d = 1) with rfl | rfl <;> rfl
    · rw [if_neg hin]
end Go.Proofs.YtiffminhlimajaaGreat
