/- the reference receiver: Resume. Printed by gen/xoj.py. -/
import Derived.Test.YtknlipjgehgihaaOI
import Derived.Deep.RegionHeld3
namespace Go.Proofs.Ytknlipjgehgihaa
open Go.RowKit

attribute [local go_sem ↓] Go.wp_at_zero Go.wp_at_succ

theorem wp_append_cnts {o : Oper} {a : Act} {K : Act → World → Prop} {Q : Exit → Act → World → Prop} (s x : Operand)
    (ho : o.op = .call { callee := .builtin .append, args := #[s, x], argTypes := #[23, 23] })
    (A : Option Addr) (m c : Nat) (ct : Nat → Int) (PA : Nat → Option Addr) (pn pc : Nat → Nat) (z : Nat → Nat → Int) (w : World) (hs : a.eval s = .slice none 0 0) (hx : a.eval x = .slice A m c) (hm : m * 32 ≤ 140737488355328) (hC : Cnts w A m ct PA pn pc z)
    (h : ∀ A' c' w', Cnts w' A' m ct PA pn pc z → Below w.heap.size w w' → K (a.put o.dst (.slice A' m c')) w') : o.wp Try.prog a w K Q := by
  obtain ⟨A', c', w', hrun, h1, h2⟩ := cnts_copy A m c ct PA pn pc z w o.type hm hC
  unfold Oper.wp execOp
  simp only [ho, resolve, invoke, builtin, Sem.run_bind, Sem.run_pure, Result.andThen_ok, List.map_toArray, List.map_cons, List.map_nil, hs, hx, hrun]
  exact h A' c' w' h1 h2
theorem wp_build16 {o : Oper} {a : Act} {K : Act → World → Prop} {Q : Exit → Act → World → Prop} (x : Operand) (ho : o.op = .buildSlice 97 1 #[(0, x)]) (w : World) (hx : a.eval x = .agg k16)
    (h : K (a.put o.dst (.slice (some ⟨w.heap.size, 0, none⟩) 1 1)) (w.alloc (.cells k16 36))) : o.wp Try.prog a w K Q := by
  have hrun : (Instr.buildSlice 97 1 #[(0, .agg k16)]).run Try.prog w = .ok (.slice (some ⟨w.heap.size, 0, none⟩) 1 1) (w.alloc (.cells k16 36)) := by kernel_rfl
  unfold Oper.wp execOp
  simp only [ho, Sem.run_bind, List.map_toArray, List.map_cons, List.map_nil, hx, hrun, Result.andThen_ok]
  exact h
/-- the reference's receiver -/
def rfArr (d nx : Int) (S U : Value) : Array Value := z39 ++ #[.int .i64 0, .int .u64 d, .int .u64 nx, S, .bool false, .int .u64 0, .int .i64 0, U, .int .i64 0]
set_option maxRecDepth 100000 in
set_option maxHeartbeats 3200000 in
theorem rfres_ok (A : Option Addr) (m c : Nat) (d nx : Int) (ct : Nat → Int) (PA : Nat → Option Addr) (pn pc : Nat → Nat) (z : Nat → Nat → Int) (w : World) (hm : m * 32 ≤ 140737488355328) (h : Cnts w A m ct PA pn pc z) :
    Calls Try.prog 10 #[.agg z39, .agg #[.int .u64 d, .int .u64 nx, .slice A m c]] w fun e w' => ∃ g A' c' U, e = .returned (.pointer (some ⟨g, 0, none⟩)) ∧ Blk w' g 99 (rfArr d nx (.slice A' m c') U) ∧ Cnts w' A' m ct PA pn pc z ∧ Below w.heap.size w w' := by
  have HC := Lib.hid h
  have HU : Hid (Try.prog.underlying 38 = _) := Lib.hid Try.underlying38
  have HUK : Hid (Try.prog.underlying 36 = _) := Lib.hid Try.underlying36
  have HS39 : Hid ((Try.prog.info? 38).map (·.size) = some z39.toList.length) := Lib.hid sizePdL
  have HS16 : Hid ((Try.prog.info? 36).map (·.size) = some k16.toList.length) := Lib.hid (by kernel_rfl)
  clear h
  go_enter Try.func10, Try.ntmps10
  go_upto_region 1 with (fail)
  refine wp_world (fun W => Blk W w.heap.size 38 z39 ∧ Blk W (w.heap.size + 1) 25 #[.int .u64 d, .int .u64 nx, .slice A m c] ∧ Below w.heap.size w W) ⟨(Blk.new _ _ _).alloc _, blk_at _ _ _ _ (by simp), ((Below.refl _ w).alloc (Nat.le_refl _) _).alloc (by simp) _⟩ ?_
  rintro W1 ⟨b1, b2, b3⟩
  have B1 := Lib.hid b1
  have B2 := Lib.hid b2
  have B3 := Lib.hid b3
  clear b1 b2 b3
  obtain ⟨zb, hzb⟩ : ∃ zb, zb = w.heap.size := ⟨_, rfl⟩
  rw [← hzb] at B1 B2 ⊢
  have HZB := Lib.hid hzb
  have hC1 := HC.out.below B3.out
  have HC1 := Lib.hid hC1
  clear hC1 hzb
  obtain ⟨Bn, hBn⟩ : ∃ Bn, Bn = W1.heap.size := ⟨_, rfl⟩
  have hzl : zb + 1 < Bn := by rw [hBn]; exact B2.out.lt
  have HZR := Lib.hid (show ∀ W, Below Bn W1 W → W.rangeAt zb 0 z39.toList from fun W hW => ((B1.out.below hW (by omega)).range z39.toList (by simp)))
  have HKR := Lib.hid (show ∀ W, Below Bn W1 W → W.rangeAt zb 2 k16.toList from fun W hW j v hv => by
    have hj : j < 16 := by have := (List.getElem?_eq_some_iff.1 hv).1; simpa [k16] using this
    rw [(B1.out.below hW (by omega)).cell (2 + j)]
    have : ∀ j, j < 16 → z39[2 + j]? = k16.toList[j]? := fun j hj => by
      rcases (by omega : j = 0 ∨ j = 1 ∨ j = 2 ∨ j = 3 ∨ j = 4 ∨ j = 5 ∨ j = 6 ∨ j = 7 ∨ j = 8 ∨ j = 9 ∨ j = 10 ∨ j = 11 ∨ j = 12 ∨ j = 13 ∨ j = 14 ∨ j = 15) with rfl | rfl | rfl | rfl | rfl | rfl | rfl | rfl | rfl | rfl | rfl | rfl | rfl | rfl | rfl | rfl <;> rfl
    rw [this j hj]; exact hv)
  have HSR := Lib.hid (show ∀ W, Below Bn W1 W → W.cell? ⟨zb + 1, 0, none⟩ = some (.int .u64 d) ∧ W.cell? ⟨zb + 1, 1, none⟩ = some (.int .u64 nx) ∧ W.cell? ⟨zb + 1, 2, none⟩ = some (.slice A m c) from fun W hW => ⟨(B2.out.below hW hzl).cell 0, (B2.out.below hW hzl).cell 1, (B2.out.below hW hzl).cell 2⟩)
  obtain ⟨w0, hw0⟩ : ∃ w0, w0 = W1.drew := ⟨_, rfl⟩
  have hb0 : Below Bn W1 w0 := by rw [hw0, hBn]; exact (Below.refl _ W1).drew
  refine wp_region_held_drew (S := fun w' => Below Bn W1 w') (by kernel_rfl) (by rw [← hw0]; exact hb0) (fun hHeld => ?_)
  rw [← hw0]
  clear hw0 hHeld
  have hHeld := hb0
  refine' wpAnyH_take (i := 0) (oi := ⟨some 5, _, _, _, _, _⟩) (v := _) rfl (by kernel_rfl) (by kernel_rfl) (by kernel_rfl) (fun _ _ _ h => h) (yieldsIf_load_mid (by rfl) _ _ rfl zb 0 rfl z39.toList _ (fun w h => HZR.out w h) HU.out rfl HS39.out) (by assumption) ?_
  try simp only [Act.put, List.setIfInBounds_toArray, List.set_cons_zero, List.set_cons_succ]
  refine wpAnyH_take (i := 1) (oi := ⟨some 6, _, _, _, _, _⟩) (v := .pointer (some ⟨zb + 1, 0, none⟩)) rfl (by kernel_rfl) (by kernel_rfl) (by kernel_rfl) (fun _ _ _ h => h) (Or.inl ⟨by rfl, fun W hW => (by go_simp)⟩) (by assumption) ?_
  try simp only [Act.put, List.setIfInBounds_toArray, List.set_cons_zero, List.set_cons_succ]
  refine wpAnyH_take (i := 2) (oi := ⟨some 7, _, _, _, _, _⟩) (v := .int .u64 d) rfl (by kernel_rfl) (by kernel_rfl) (by kernel_rfl) (fun _ _ _ h => h) (Or.inl ⟨by rfl, fun W hW => (by obtain ⟨u0, u1, u2⟩ := HSR.out W hW; go_simp)⟩) (by assumption) ?_
  try simp only [Act.put, List.setIfInBounds_toArray, List.set_cons_zero, List.set_cons_succ]
  refine wpAnyH_take (i := 3) (oi := ⟨some 8, _, _, _, _, _⟩) (v := .pointer (some ⟨zb + 1, 1, none⟩)) rfl (by kernel_rfl) (by kernel_rfl) (by kernel_rfl) (fun _ _ _ h => h) (Or.inl ⟨by rfl, fun W hW => (by go_simp)⟩) (by assumption) ?_
  try simp only [Act.put, List.setIfInBounds_toArray, List.set_cons_zero, List.set_cons_succ]
  refine wpAnyH_take (i := 4) (oi := ⟨some 9, _, _, _, _, _⟩) (v := .int .u64 nx) rfl (by kernel_rfl) (by kernel_rfl) (by kernel_rfl) (fun _ _ _ h => h) (Or.inl ⟨by rfl, fun W hW => (by obtain ⟨u0, u1, u2⟩ := HSR.out W hW; go_simp)⟩) (by assumption) ?_
  try simp only [Act.put, List.setIfInBounds_toArray, List.set_cons_zero, List.set_cons_succ]
  refine wpAnyH_take (i := 5) (oi := ⟨some 10, _, _, _, _, _⟩) (v := .pointer (some ⟨zb + 1, 2, none⟩)) rfl (by kernel_rfl) (by kernel_rfl) (by kernel_rfl) (fun _ _ _ h => h) (Or.inl ⟨by rfl, fun W hW => (by go_simp)⟩) (by assumption) ?_
  try simp only [Act.put, List.setIfInBounds_toArray, List.set_cons_zero, List.set_cons_succ]
  refine wpAnyH_take (i := 6) (oi := ⟨some 11, _, _, _, _, _⟩) (v := .slice A m c) rfl (by kernel_rfl) (by kernel_rfl) (by kernel_rfl) (fun _ _ _ h => h) (Or.inl ⟨by rfl, fun W hW => (by obtain ⟨u0, u1, u2⟩ := HSR.out W hW; go_simp)⟩) (by assumption) ?_
  try simp only [Act.put, List.setIfInBounds_toArray, List.set_cons_zero, List.set_cons_succ]
  refine wpAnyH_take (i := 8) (oi := ⟨some 13, _, _, _, _, _⟩) (v := .pointer (some ⟨zb, 2, none⟩)) rfl (by kernel_rfl) (by kernel_rfl) (by kernel_rfl) (fun _ _ _ h => h) (Or.inl ⟨by rfl, fun W hW => (by go_simp)⟩) (by assumption) ?_
  try simp only [Act.put, List.setIfInBounds_toArray, List.set_cons_zero, List.set_cons_succ]
  refine' wpAnyH_take (i := 9) (oi := ⟨some 14, _, _, _, _, _⟩) (v := _) rfl (by kernel_rfl) (by kernel_rfl) (by kernel_rfl) (fun _ _ _ h => h) (yieldsIf_load_mid (by rfl) _ _ rfl zb 2 rfl k16.toList _ (fun w h => HKR.out w h) HUK.out rfl HS16.out) (by assumption) ?_
  try simp only [Act.put, List.setIfInBounds_toArray, List.set_cons_zero, List.set_cons_succ]
  refine wpAnyH_ready (rs := [7, 10]) (by kernel_rfl) (by simp) ?_
  refine AllReadyH.cons (o := ⟨some 12, _, _, _, _, _⟩) rfl (fun K hK => ?_) (AllReadyH.cons (o := ⟨some 15, _, _, _, _, _⟩) rfl (fun K hK => ?_) AllReadyH.nil)
  · rw [if_pos (by rfl)]
    refine wp_append_cnts _ _ rfl A m c ct PA pn pc z w0 rfl rfl hm (HC1.out.below (by rw [← hBn]; exact hHeld)) (fun A' c' wa hCa hba => ?_)
    replace hHeld := hHeld.trans (hba.mono (by rw [hBn]; exact hHeld.size))
    refine hK.out _ _ hHeld (fun _ => ?_)
    clear hK K hba
    try simp only [Act.put, List.setIfInBounds_toArray, List.set_cons_zero, List.set_cons_succ]
    refine wpAnyH_ready (rs := [10]) (by kernel_rfl) (by simp) ?_
    refine AllReadyH.cons (o := ⟨some 15, _, _, _, _, _⟩) rfl (fun K hK => ?_) AllReadyH.nil
    rw [if_pos (by rfl)]
    refine wp_build16 _ rfl wa rfl ?_
    obtain ⟨wb, hv⟩ : ∃ wb, wb = wa.alloc (.cells k16 36) := ⟨_, rfl⟩
    obtain ⟨ub, hU⟩ : ∃ ub, ub = wa.heap.size := ⟨_, rfl⟩
    have hH2 : Below Bn W1 wb := by rw [hv]; exact hHeld.alloc (by rw [hBn]; exact hHeld.size) _
    replace hCa : Cnts wb A' m ct PA pn pc z := by rw [hv]; exact hCa.below ((Below.refl _ _).alloc (Nat.le_refl _) _)
    rw [← hv, ← hU]
    clear hv hU
    refine hK.out _ _ hH2 (fun hHeld => ?_)
    clear hK K hH2
    try simp only [Act.put, List.setIfInBounds_toArray, List.set_cons_zero, List.set_cons_succ]
    refine wpAnyH_take (i := 11) (oi := ⟨some 16, _, _, _, _, _⟩) (v := .agg (rfArr d nx (.slice A' m c') (.slice (some ⟨ub, 0, none⟩) 1 1))) rfl (by kernel_rfl) (by kernel_rfl) (by kernel_rfl) (fun _ _ _ h => h) (Or.inl ⟨by rfl, fun W hW => (by kernel_rfl)⟩) (by assumption) ?_
    try simp only [Act.put, List.setIfInBounds_toArray, List.set_cons_zero, List.set_cons_succ]
    refine wpAnyH_ready (rs := [12]) (by kernel_rfl) (by simp) ?_
    refine AllReadyH.cons (o := ⟨some 17, _, _, _, _, _⟩) rfl (fun K hK => ?_) AllReadyH.nil
    rw [if_pos (by rfl)]
    go_simp
    obtain ⟨wv, hv⟩ : ∃ wv, wv = wb.alloc (.cells (rfArr d nx (.slice A' m c') (.slice (some ⟨ub, 0, none⟩) 1 1)) 99) := ⟨_, rfl⟩
    obtain ⟨rb, hrb⟩ : ∃ rb, rb = wb.heap.size := ⟨_, rfl⟩
    have hR : Blk wv rb 99 (rfArr d nx (.slice A' m c') (.slice (some ⟨ub, 0, none⟩) 1 1)) := by rw [hv, hrb]; exact Blk.new _ _ _
    have hH2 : Below Bn W1 wv := by rw [hv]; exact hHeld.alloc (by rw [hBn]; exact hHeld.size) _
    have hCv : Cnts wv A' m ct PA pn pc z := by rw [hv]; exact hCa.below ((Below.refl _ _).alloc (Nat.le_refl _) _)
    rw [← hv, ← hrb]
    refine hK.out _ _ hH2 (fun hHeld => ?_)
    clear hK K
    try simp only [Act.put, List.setIfInBounds_toArray, List.set_cons_zero, List.set_cons_succ]
    refine wpAnyH_take (i := 13) (oi := ⟨some 4, _, _, _, _, _⟩) (v := .pointer (some ⟨rb, 0, none⟩)) rfl (by kernel_rfl) (by kernel_rfl) (by kernel_rfl) (fun _ _ _ h => h) (Or.inl ⟨by rfl, fun W hW => (by rfl)⟩) (by assumption) ?_
    try simp only [Act.put, List.setIfInBounds_toArray, List.set_cons_zero, List.set_cons_succ]
    refine wpAnyH_done (by kernel_rfl) ?_ _
    go_wp2
    go_ret
    exact ⟨rb, A', c', _, rfl, hR, hCv, B3.out.trans ((show Below W1.heap.size W1 wv from by rw [← hBn]; exact hH2).mono B3.out.size)⟩
  · rw [if_pos (by rfl)]
    refine wp_build16 _ rfl w0 rfl ?_
    obtain ⟨wb, hv⟩ : ∃ wb, wb = w0.alloc (.cells k16 36) := ⟨_, rfl⟩
    obtain ⟨ub, hU⟩ : ∃ ub, ub = w0.heap.size := ⟨_, rfl⟩
    have hH2 : Below Bn W1 wb := by rw [hv]; exact hHeld.alloc (by rw [hBn]; exact hHeld.size) _
    rw [← hv, ← hU]
    clear hv hU
    refine hK.out _ _ hH2 (fun hHeld => ?_)
    clear hK K hH2
    try simp only [Act.put, List.setIfInBounds_toArray, List.set_cons_zero, List.set_cons_succ]
    refine wpAnyH_ready (rs := [7]) (by kernel_rfl) (by simp) ?_
    refine AllReadyH.cons (o := ⟨some 12, _, _, _, _, _⟩) rfl (fun K hK => ?_) AllReadyH.nil
    rw [if_pos (by rfl)]
    refine wp_append_cnts _ _ rfl A m c ct PA pn pc z wb rfl rfl hm (HC1.out.below (by rw [← hBn]; exact hHeld)) (fun A' c' wa hCa hba => ?_)
    replace hHeld := hHeld.trans (hba.mono (by rw [hBn]; exact hHeld.size))
    refine hK.out _ _ hHeld (fun _ => ?_)
    clear hK K hba
    try simp only [Act.put, List.setIfInBounds_toArray, List.set_cons_zero, List.set_cons_succ]
    refine wpAnyH_take (i := 11) (oi := ⟨some 16, _, _, _, _, _⟩) (v := .agg (rfArr d nx (.slice A' m c') (.slice (some ⟨ub, 0, none⟩) 1 1))) rfl (by kernel_rfl) (by kernel_rfl) (by kernel_rfl) (fun _ _ _ h => h) (Or.inl ⟨by rfl, fun W hW => (by kernel_rfl)⟩) (by assumption) ?_
    try simp only [Act.put, List.setIfInBounds_toArray, List.set_cons_zero, List.set_cons_succ]
    refine wpAnyH_ready (rs := [12]) (by kernel_rfl) (by simp) ?_
    refine AllReadyH.cons (o := ⟨some 17, _, _, _, _, _⟩) rfl (fun K hK => ?_) AllReadyH.nil
    rw [if_pos (by rfl)]
    go_simp
    obtain ⟨wv, hv⟩ : ∃ wv, wv = wa.alloc (.cells (rfArr d nx (.slice A' m c') (.slice (some ⟨ub, 0, none⟩) 1 1)) 99) := ⟨_, rfl⟩
    obtain ⟨rb, hrb⟩ : ∃ rb, rb = wa.heap.size := ⟨_, rfl⟩
    have hR : Blk wv rb 99 (rfArr d nx (.slice A' m c') (.slice (some ⟨ub, 0, none⟩) 1 1)) := by rw [hv, hrb]; exact Blk.new _ _ _
    have hH2 : Below Bn W1 wv := by rw [hv]; exact hHeld.alloc (by rw [hBn]; exact hHeld.size) _
    have hCv : Cnts wv A' m ct PA pn pc z := by rw [hv]; exact hCa.below ((Below.refl _ _).alloc (Nat.le_refl _) _)
    rw [← hv, ← hrb]
    refine hK.out _ _ hH2 (fun hHeld => ?_)
    clear hK K
    try simp only [Act.put, List.setIfInBounds_toArray, List.set_cons_zero, List.set_cons_succ]
    refine wpAnyH_take (i := 13) (oi := ⟨some 4, _, _, _, _, _⟩) (v := .pointer (some ⟨rb, 0, none⟩)) rfl (by kernel_rfl) (by kernel_rfl) (by kernel_rfl) (fun _ _ _ h => h) (Or.inl ⟨by rfl, fun W hW => (by rfl)⟩) (by assumption) ?_
    try simp only [Act.put, List.setIfInBounds_toArray, List.set_cons_zero, List.set_cons_succ]
    refine wpAnyH_done (by kernel_rfl) ?_ _
    go_wp2
    go_ret
    exact ⟨rb, A', c', _, rfl, hR, hCv, B3.out.trans ((show Below W1.heap.size W1 wv from by rw [← hBn]; exact hH2).mono B3.out.size)⟩
end Go.Proofs.Ytknlipjgehgihaa
