/- pdcptx.Confirm: slices.Delete, the walk. -/
import Derived.Test.YtiffminhlimajaaGreatTH
namespace Go.Proofs.YtiffminhlimajaaGreat
open Go.RowKit
set_option linter.unusedVariables false
attribute [local go_sem ↓] Go.wp_at_zero Go.wp_at_succ

theorem pe_one (lp : List PE) : ∀ u, u ∈ lp.flatMap PE.cells → u.oneCell' = true := fun u hu => by
  obtain ⟨e, _, he⟩ := List.mem_flatMap.1 hu
  simp only [PE.cells, List.mem_cons, List.not_mem_nil, or_false] at he
  rcases he with rfl | rfl | rfl <;> rfl
theorem wp_sl_room {P : Program} {op : Oper} {a : Act} {K : Act → World → Prop} {Q : Exit → Act → World → Prop} (s x : Operand) (t tx : TypeId) (ho : op.op = .call { callee := .builtin .append, args := #[s, x], argTypes := #[t, tx] })
    (w : World) (e : TypeId) (i : TypeInfo) (sz : Nat) (ht : P.underlying t = some (.slice e)) (hi : P.info? e = some i) (hsize : i.size = sz) (b o n c : Nat) (xs : List Value) (hsv : a.eval s = .slice (some ⟨b, o, none⟩) n c) (h : SL w e sz (some ⟨b, o, none⟩) n c xs)
    (xv : Value) (hxv : a.eval x = xv) (m : Nat) (news : List Value) (hs : Src P sz tx xv m news w) (hroom : n + m ≤ c)
    (hK : ∀ w', SL w' e sz (some ⟨b, o, none⟩) (n + m) c (xs ++ news) → KeepF (fun k => k = b) w w' → K (a.put op.dst (.slice (some ⟨b, o, none⟩) (n + m) c)) w') : op.wp P a w K Q := by
  have hf := fun ty => @sl_append_room P w t tx ty e i sz ht hi hsize b o n c xs h xv m news hs hroom
  obtain ⟨w', hrun, h1, h2⟩ := hf op.type
  unfold Oper.wp execOp
  simp only [ho, resolve, invoke, builtin, Sem.run_bind, Sem.run_pure, Result.andThen_ok, List.map_toArray, List.map_cons, List.map_nil, hsv, hxv, hrun]
  exact hK w' h1 h2
set_option maxRecDepth 100000 in
set_option maxHeartbeats 1600000 in
theorem tdelete_ok (b o n c i : Nat) (lp : List PE) (hn : n = lp.length) (hi : i < n) (w : World) (h : SL w 101 3 (some ⟨b, o, none⟩) n c (lp.flatMap PE.cells)) :
    Calls Tryz.prog 56 #[.slice (some ⟨b, o, none⟩) n c, .int .i64 i, .int .i64 ((i : Int) + 1)] w fun e w' => e = .returned (.slice (some ⟨b, o, none⟩) (n - 1) c) ∧ SL w' 101 3 (some ⟨b, o, none⟩) (n - 1) c ((lp.eraseIdx i).flatMap PE.cells) ∧ KeepF (fun k => k = b) w w' := by
  have hcm := h.cmax
  have hle := h.le
  unfold maxLen at hcm
  have HSL := Lib.hid h
  have HN := Lib.hid hn
  have h1 : (i : Int) + 1 ≤ (n : Int) := by omega
  have h2 : (n : Int) ≤ (c : Int) := by omega
  have h3 : (c : Int) ≤ 9223372036854775807 := by omega
  have h4 : (0 : Int) ≤ (i : Int) := by omega
  have HTAKE := Lib.hid (take_flat lp i ▸ h.take i (by omega))
  have HDROP := Lib.hid (drop_flat lp (i + 1))
  have hci : ¬ c < i := by omega
  have h5 : (0 : Int) ≤ (i : Int) + 1 := by omega
  clear h hn
  go_enter Tryz.func56, Tryz.ntmps56
  go_upto_region 5 with (fail)
  obtain ⟨ip, hip, hipz, hips, hipb⟩ := infoPend
  obtain ⟨w0, hw0⟩ : ∃ w0, w0 = w.drew := ⟨_, rfl⟩
  have hb0 : Below w.heap.size w w0 := by rw [hw0]; exact (Below.refl _ _).drew
  refine wp_region_held_drew (S := fun w' => KeepF (fun j => j = b) w w') (by kernel_rfl) ((KeepF.refl (w := w)).drew) (fun hHeld => ?_)
  rw [← hw0]
  rw [← hw0] at hHeld
  obtain ⟨SA, hSA⟩ : ∃ SA : Addr, SA = if c = i + 1 then ⟨b, o, none⟩ else ⟨b, o + (i + 1) * 3, none⟩ := ⟨_, rfl⟩
  have hSS : (if c = i + 1 then some (⟨b, o, none⟩ : Addr) else some ⟨b, o + (i + 1) * 3, none⟩) = some SA := by rw [hSA]; split <;> rfl
  have HAD := Lib.hid (show ∀ j, j < (n - (i + 1)) * 3 → SA = ⟨b, o + (i + 1) * 3, none⟩ from fun j hj => by rw [hSA, if_neg (by omega)])
  clear hw0 hSA
  refine wpAnyH_take (i := 0) (oi := ⟨some 20, _, _, _, _, _⟩) (v := .slice (some ⟨b, o, none⟩) n c) rfl (by kernel_rfl) (by kernel_rfl) (by kernel_rfl) (fun _ _ _ h => h) (Or.inl ⟨by rfl, fun W hW => (by rfl)⟩) (by assumption) ?_
  try simp only [Act.put, List.setIfInBounds_toArray, List.set_cons_zero, List.set_cons_succ]
  refine wpAnyH_take (i := 1) (oi := ⟨some 21, _, _, _, _, _⟩) (v := .int .i64 i) rfl (by kernel_rfl) (by kernel_rfl) (by kernel_rfl) (fun _ _ _ h => h) (Or.inl ⟨by rfl, fun W hW => (by rfl)⟩) (by assumption) ?_
  try simp only [Act.put, List.setIfInBounds_toArray, List.set_cons_zero, List.set_cons_succ]
  refine wpAnyH_take (i := 2) (oi := ⟨some 22, _, _, _, _, _⟩) (v := .slice (some ⟨b, o, none⟩) i c) rfl (by kernel_rfl) (by kernel_rfl) (by kernel_rfl) (fun _ _ _ h => h) (Or.inl ⟨by rfl, fun W hW => (by go_simp)⟩) (by assumption) ?_
  try simp only [Act.put, List.setIfInBounds_toArray, List.set_cons_zero, List.set_cons_succ]
  refine wpAnyH_take (i := 3) (oi := ⟨some 23, _, _, _, _, _⟩) (v := .slice (some ⟨b, o, none⟩) n c) rfl (by kernel_rfl) (by kernel_rfl) (by kernel_rfl) (fun _ _ _ h => h) (Or.inl ⟨by rfl, fun W hW => (by rfl)⟩) (by assumption) ?_
  try simp only [Act.put, List.setIfInBounds_toArray, List.set_cons_zero, List.set_cons_succ]
  refine wpAnyH_take (i := 4) (oi := ⟨some 24, _, _, _, _, _⟩) (v := .int .i64 ((i : Int) + 1)) rfl (by kernel_rfl) (by kernel_rfl) (by kernel_rfl) (fun _ _ _ h => h) (Or.inl ⟨by rfl, fun W hW => (by rfl)⟩) (by assumption) ?_
  try simp only [Act.put, List.setIfInBounds_toArray, List.set_cons_zero, List.set_cons_succ]
  refine wpAnyH_take (i := 5) (oi := ⟨some 25, _, _, _, _, _⟩) (v := .slice (some SA) (n - (i + 1)) (c - (i + 1))) rfl (by kernel_rfl) (by kernel_rfl) (by kernel_rfl) (fun _ _ _ h => h) (Or.inl ⟨by rfl, fun W hW => (by go_simp)⟩) (by assumption) ?_
  try simp only [Act.put, List.setIfInBounds_toArray, List.set_cons_zero, List.set_cons_succ]
  clear hSS
  refine wpAnyH_ready (rs := [6]) (by kernel_rfl) (by simp) ?_
  refine AllReadyH.cons (o := ⟨some 26, _, _, _, _, _⟩) rfl (fun K hK => ?_) AllReadyH.nil
  rw [if_pos (by rfl)]
  have hS0 := HTAKE.out.next hb0
  have hF0 := HSL.out.next hb0
  have hdl : ((lp.drop (i + 1)).flatMap PE.cells).length = (n - (i + 1)) * 3 := by rw [flat_len PE.cells 3 PE.len, List.length_drop, HN.out]
  refine wp_sl_room _ _ 82 82 rfl w0 101 ip 3 Tryz.underlying82 hip hips b o i c _ rfl hS0 (.slice (some SA) (n - (i + 1)) (c - (i + 1))) rfl (n - (i + 1)) ((lp.drop (i + 1)).flatMap PE.cells)
    (Src.ofSlice _ Tryz.underlying82 SA (n - (i + 1)) (c - (i + 1)) _ hdl (fun j u hu => by
      have hj : j < (n - (i + 1)) * 3 := by rw [← hdl]; exact (List.getElem?_eq_some_iff.1 hu).1
      rw [HAD.out j hj, Addr.add_lit, show o + (i + 1) * 3 + j = o + ((i + 1) * 3 + j) by omega, hF0.cell rfl (by omega)]
      rw [← HDROP.out, List.getElem?_drop] at hu
      exact hu) (pe_one _)) (by omega) ?_
  intro wA hSA hKA
  have hxs : (lp.take i).flatMap PE.cells ++ (lp.drop (i + 1)).flatMap PE.cells = (lp.eraseIdx i).flatMap PE.cells := by rw [← List.flatMap_append, List.eraseIdx_eq_take_drop_succ]
  rw [hxs] at hSA
  rw [show i + (n - (i + 1)) = n - 1 by omega] at hSA ⊢
  have HSA := Lib.hid hSA
  have HKA := Lib.hid ((KeepF.of_below (F := fun k => k = b) hb0).trans hKA (fun _ _ h => h))
  clear hS0 hF0 hdl hxs hSA hKA
  refine hK.out _ _ HKA.out (fun hHeld => ?_)
  clear hK K
  try simp only [Act.put, List.setIfInBounds_toArray]
  refine wpAnyH_take (i := 7) (oi := ⟨some 0, _, _, _, _, _⟩) (v := .slice (some ⟨b, o, none⟩) (n - 1) c) rfl (by kernel_rfl) (by kernel_rfl) (by kernel_rfl) (fun _ _ _ h => h) (Or.inl ⟨by rfl, fun W hW => (by go_simp)⟩) (by assumption) ?_
  try simp only [Act.put, List.setIfInBounds_toArray, List.set_cons_zero, List.set_cons_succ]
  refine wpAnyH_done (by kernel_rfl) ?_ _
  have hroom : ∀ j, j < 3 → (wA.cell? ⟨b, o + (n - 1) * 3 + j, none⟩).isSome = true := fun j hj => by
    have := HSA.out.room (j := (n - 1) * 3 + j) (by omega)
    rwa [← Nat.add_assoc] at this
  have hfr : ∀ j, j < 3 → wA.frozen? ⟨b, o + (n - 1) * 3 + j, none⟩ = false := fun j hj => HSA.out.frozen rfl _
  have hcl : ∀ ty, (Builtin.clear_ #[82] ty #[.slice (some ⟨b, o + (n - 1) * 3, none⟩) (n - (n - 1)) (c - (n - 1))]).run Tryz.prog wA = .ok (.tuple #[]) (wA.setCells b (o + (n - 1) * 3) [.int .u32 0, .slice none 0 0, .bool false]) := fun ty => by
    rw [show n - (n - 1) = 1 by omega]
    exact run_clear_one wA 82 101 ty _ [.int .u32 0, .slice none 0 0, .bool false] Tryz.underlying82 zPend_run rfl (by simp [Value.oneCell']) b (o + (n - 1) * 3) (c - (n - 1)) (fun j hj => hroom j hj) (fun j hj => hfr j hj)
  have HF := Lib.hid (HSA.out.past ((n - 1) * 3) (Nat.le_refl _) [.int .u32 0, .slice none 0 0, .bool false])
  have HG := Lib.hid (HKA.out.trans (ts_keep (F := fun k => k = b) (b := b) rfl [.int .u32 0, .slice none 0 0, .bool false] (o + (n - 1) * 3) wA) (fun _ _ h => h))
  obtain ⟨wB, hwB⟩ : ∃ wB, wB = wA.setCells b (o + (n - 1) * 3) [.int .u32 0, .slice none 0 0, .bool false] := ⟨_, rfl⟩
  rw [← hwB] at hcl HF HG
  clear hroom hfr hwB HSA HKA
  have hn1 : ((n - 1 : Nat) : Int) = (n : Int) - 1 := by omega
  go_wp2
  go_ret
  exact ⟨rfl, HF.out, HG.out⟩
set_option maxRecDepth 100000 in
set_option maxHeartbeats 1600000 in
theorem tconfirm_ok (g : Nat) (s : TS) (W R : Nat → Prop) (w : World) (h : TxI w g s W R) (x : Int) (i : Nat) (e0 : PV) (he : s.P[i]? = some e0) (hx : e0.ct = x) (hno : ∀ j, j < i → ∀ e, s.P[j]? = some e → e.ct ≠ x) :
    Calls Tryz.prog 20 #[.pointer (some ⟨g, 0, none⟩), .int .u32 x] w fun e w' => e = .returned (.int .i64 0) ∧ TxO W R w w' g { s with P := s.P.eraseIdx i } := by
  have HM := Lib.hid (fun (V : World) (hb : Below w.heap.size w V) => tmade_ok g s W R V (h.below hb))
  obtain ⟨qA, qc, lq, pA, pc, lp, ub, cb, hT⟩ := h
  have HT := Lib.hid hT
  obtain ⟨pe, hpe, hpev⟩ : ∃ pe, lp[i]? = some pe ∧ pe.v = e0 := by
    rw [← hT.pv, List.getElem?_map] at he
    cases hq : lp[i]? with
    | none => rw [hq] at he; cases he
    | some q => rw [hq] at he; exact ⟨q, rfl, by simpa using he⟩
  have hil : i < lp.length := (List.getElem?_eq_some_iff.1 hpe).1
  obtain ⟨b, o, hpA, hbl⟩ := hT.p.some_ (by omega)
  have hF0 : firstP (isCt lp x) 0 lp.length = (i : Int) := firstP_eq _ _ _ hil (by unfold isCt; rw [hpe]; simp [hpev, hx]) (fun j hj => by
    unfold isCt
    have hjl : j < lp.length := by omega
    rw [List.getElem?_eq_getElem hjl]
    have := hno j hj lp[j].v (by rw [← hT.pv, List.getElem?_map, List.getElem?_eq_getElem hjl]; rfl)
    simpa using this)
  subst hpA
  have hcm := hT.p.cmax
  unfold maxLen at hcm
  have hle := hT.p.le
  obtain ⟨n, hn⟩ : ∃ n, n = lp.length := ⟨_, rfl⟩
  have HN := Lib.hid hn
  have hgl := hT.blk.lt
  rw [← hn] at hle hil hF0
  have HF0 := Lib.hid hF0
  clear hT he hno hpe hF0 hn
  go_enter Tryz.func20, Tryz.ntmps20
  go_upto_region 1 with (fail)
  refine wp_let (fun V => V.cell? ⟨w.heap.size, 0, none⟩ = some (.int .u32 x) ∧ Below w.heap.size w V ∧ w.heap.size < V.heap.size) ⟨(Blk.new _ _ _).cell 0, (Below.refl _ w).alloc (Nat.le_refl _) _, by simp⟩ ?_
  rintro W1 ⟨b1, b2, b3⟩
  obtain ⟨xb, hxb⟩ : ∃ xb, xb = w.heap.size := ⟨_, rfl⟩
  have B2 := Lib.hid b2
  have T1 := Lib.hid (HT.out.below b2)
  have HI := Lib.hid (pindex_ok (some ⟨b, o, none⟩) lp.length pc lp rfl x xb W1 T1.out.p (by rw [hxb]; exact b1) (by omega))
  rw [← HN.out] at HI
  have c1 := T1.out.cp
  rw [← HN.out] at c1
  rw [← hxb]
  rw [HF0.out] at HI
  have i0 : (0 : Int) ≤ (i : Int) := by omega
  have i1 : (i : Int) < (n : Int) := by omega
  have i2 : (n : Int) ≤ 9223372036854775807 := by omega
  clear b1 b2 hxb
  go_upto_region 6 with (first
    | (go_at_call 54; refine (HM.out _ B2.out).mono ?_; rintro e w2 ⟨rfl, rfl⟩)
    | (go_at_call 49; refine (HI.out).mono ?_; rintro e w3 ⟨rfl, hB⟩; have E2 := Lib.hid hB; clear hB))
  have B3 := Lib.hid (B2.out.trans (E2.out.mono B2.out.size))
  have T3 := Lib.hid (T1.out.below E2.out)
  have c3 := T3.out.cp
  rw [← HN.out] at c3
  have HD := Lib.hid (tdelete_ok b o n pc i lp HN.out hil w3 (HN.out ▸ T3.out.p))
  clear c1
  have hgb : g ≠ b := T3.out.gp _ rfl
  have hel : (lp.eraseIdx i).length = n - 1 := by rw [List.length_eraseIdx, if_pos (by rw [← HN.out]; exact hil), HN.out]
  have HEL := Lib.hid hel
  clear hel
  go_wp2_with (go_at_call 56; refine (HD.out).mono ?_; rintro e w4 ⟨rfl, hS4, hK4⟩; have S4 := Lib.hid hS4; have K4 := Lib.hid hK4; have G4 := hK4.blk T3.out.blk hgb; have c4 := (G4.cell 43).trans (tArr_high s.C.arr_size 4); have f4 := G4.frozen 43; simp at c4; clear hS4 hK4 G4)
  go_ret
  have hK5 : KeepF (fun k => ∃ a, (some ⟨b, o, none⟩ : Option Addr) = some a ∧ k = a.block) w3 w4 := K4.out.mono (fun k e => ⟨_, rfl, e⟩)
  have TF := T3.out.setP (lp' := lp.eraseIdx i) (pA' := some ⟨b, o, none⟩) (pc' := pc) hK5 (fun a ha => .inl ⟨a, ha, rfl⟩) (by rw [HEL.out]; exact S4.out)
    (fun e he => (T3.out.pe e (List.mem_of_mem_eraseIdx he)).keep hK5 (fun k ⟨a, ha, e2⟩ hr => T3.out.dis k (by rw [e2]; exact T3.out.wp a ha) hr))
    (fun e he => T3.out.pr e.v (by rw [← T3.out.pv]; exact List.mem_map_of_mem (List.mem_of_mem_eraseIdx he)))
  rw [HEL.out] at TF
  have hpm : (lp.eraseIdx i).map (·.v) = s.P.eraseIdx i := by rw [List.eraseIdx_eq_take_drop_succ, List.map_append, List.map_take, List.map_drop, T3.out.pv, ← List.eraseIdx_eq_take_drop_succ]
  rw [hpm] at TF
  refine ⟨rfl, _, R, ⟨_, _, _, _, _, _, _, _, TF⟩, ?_, fun k hr => .inl hr, ?_⟩
  · rintro k (hk | ⟨a, ha, rfl⟩)
    · exact .inl hk
    · exact .inl (T3.out.wp a ha)
  · exact ((KeepF.of_below (F := W) B3.out).trans (K4.out.mono (G := W) (fun k e => by rw [e]; exact T3.out.wp _ rfl)) (fun _ _ h => h)).setCell (p := ⟨g, 43, none⟩) T3.out.wg _
end Go.Proofs.YtiffminhlimajaaGreat
