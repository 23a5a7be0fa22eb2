/- maps with keys of 16 bytes; the compressor's Reset. pdcptx.Rekey. Printed by gen/xse.py. law 45's steps in memory; Few; Submit of any length. law 45: calls of one transmitter among other blocks; PdcptxUnique in plain Lean. PdcptxUnique: the walk. Printed by gen/xsj.py. -/
import Derived.Test.YtiffminhlimajaaGreatMGP
import Derived.Deep.Slices
namespace Go.Proofs.YtiffminhlimajaaGreat
open Go.RowKit
set_option linter.unusedVariables false
attribute [local go_sem ↓] Go.wp_at_zero Go.wp_at_succ

def keyEq (f g : Nat → Int) : Bool := (List.range 16).all fun j => decide (f j = g j)
theorem keyEq_iff {f g : Nat → Int} : keyEq f g = true ↔ ∀ j, j < 16 → f j = g j := by
  unfold keyEq
  simp
theorem kArr_congr {f g : Nat → Int} (h : ∀ j, j < 16 → f j = g j) : kArr f = kArr g := by
  apply Array.ext_getElem?
  intro j
  by_cases hj : j < 16
  · rw [kArr_at f j hj, kArr_at g j hj, h j hj]
  · rw [Array.getElem?_eq_none (by show 16 ≤ j; omega), Array.getElem?_eq_none (by show 16 ≤ j; omega)]
theorem kArr_inj {f g : Nat → Int} (h : kArr f = kArr g) : ∀ j, j < 16 → f j = g j := fun j hj => by
  have := congrArg (fun a : Array Value => a[j]?) h
  simp only [kArr_at f j hj, kArr_at g j hj, Option.some.injEq, Value.int.injEq, true_and] at this
  exact this
theorem keyEq_refl (f : Nat → Int) : keyEq f f = true := keyEq_iff.2 fun _ _ => rfl
theorem k_items2 (f g : Nat → Int) (d : Nat) : ∀ (is : List Nat) (_ : ∀ i, i ∈ is → i < 16) (w : World), (Op.eqItems (d + 1) 5 1 (kArr f) (kArr g) is).run Tryz.prog w = .ok (is.all fun j => decide (f j = g j)) w
  | [], _, w => by simp [Op.eqItems]
  | i :: is, h, w => by
    simp only [Op.eqItems, Sem.run_bind, k_part f i (h i (by simp)) w, k_part g i (h i (by simp)) w, Result.andThen_ok]
    have hr := k_items2 f g d is (fun j hj => h j (by simp [hj])) w
    by_cases e : f i = g i
    · simp [go_sem, hr, e]
    · have e2 : (f i == g i) = false := by simpa using e
      simp [go_sem, e, e2]
theorem k_eq (f g : Nat → Int) (d : Nat) (w : World) : (Op.equalIn (d + 2) 23 (.agg (kArr f)) (.agg (kArr g))).run Tryz.prog w = .ok (keyEq f g) w := by
  obtain ⟨q, hq, _⟩ := info_parts Tryz.infoByte
  rw [run_equalIn_array w (d + 1) (kArr f) (kArr g) Tryz.underlying23 hq, cells5, k_items2 f g d (List.range 16) (fun i hi => by simpa using hi) w]
  rfl
/-- where a key lies -/
def kAt (f : Nat → Int) : List (Nat → Int) → Nat → Option Nat
  | [], _ => none
  | g :: gs, i => if keyEq f g = true then some i else kAt f gs (i + 1)
def hasKey (f : Nat → Int) (U : List (Nat → Int)) : Bool := U.any (keyEq f)
theorem kAt_has (f : Nat → Int) : ∀ (U : List (Nat → Int)) (i : Nat), (kAt f U i).isSome = hasKey f U
  | [], _ => rfl
  | g :: gs, i => by
    have := kAt_has f gs (i + 1)
    unfold kAt hasKey
    rw [List.any_cons]
    by_cases h : keyEq f g = true
    · rw [if_pos h, h]; rfl
    · have h2 : keyEq f g = false := by simpa using h
      rw [if_neg h, h2, this]; rfl
theorem k_ask (f : Nat → Int) (w : World) : ∀ (es : List MapEntry) (U : List (Nat → Int)) (_ : es.map (·.key) = (U.map kArr).map Value.agg) (_ : ∀ e, e ∈ es → e.val = .bool true) (i : Nat), (Instr.findAsking 23 (.agg (kArr f)) es i).run Tryz.prog w = .ok ((kAt f U i).map fun j => (j, .bool true)) w
  | [], [], _, _, _ => by simp [Instr.findAsking, kAt]
  | [], g :: gs, h, _, _ => by cases h
  | e :: es, [], h, _, _ => by cases h
  | e :: es, g :: gs, h, hv, i => by
    simp only [List.map_cons, List.cons.injEq] at h
    have ih := k_ask f w es gs h.2 (fun e he => hv e (by simp [he])) (i + 1)
    have hq : (Op.equal 23 (.agg (kArr f)) e.key).run Tryz.prog w = .ok (keyEq f g) w := by
      rw [h.1]
      exact k_eq f g 9998 w
    unfold Instr.findAsking kAt
    by_cases hfg : keyEq f g = true
    · rw [hfg] at hq
      simp [hq, hfg, hv e (by simp)]
    · have h2 : keyEq f g = false := by simpa using hfg
      rw [h2] at hq
      simp [hq, h2, ih]
theorem k_checkE (e : Bool) (f : Nat → Int) (W : World) : (Instr.checkKey e 10000 23 (.agg (kArr f))).run Tryz.prog W = .ok () W := by
  cases e <;> kernel_rfl
theorem k_find (f : Nat → Int) (w : World) (es : List MapEntry) (U : List (Nat → Int)) (h : es.map (·.key) = (U.map kArr).map Value.agg) (hv : ∀ e, e ∈ es → e.val = .bool true) : (Instr.findKey 23 (.agg (kArr f)) es).run Tryz.prog w = .ok ((kAt f U 0).map fun j => (j, .bool true)) w := by
  unfold Instr.findKey
  simp only [Sem.run_bind, run_underlying Tryz.underlying23, Result.andThen_ok]
  cases es with
  | nil =>
    cases U with
    | nil => simp [Instr.findNow, kAt]
    | cons g gs => cases h
  | cons e es =>
    have hn : ∀ d, Instr.findNow (.array 16 d) (.agg (kArr f)) (e :: es) 0 = none := fun d => by
      unfold Instr.findNow
      rfl
    rw [hn]
    exact k_ask f w (e :: es) U h hv 0
theorem k_lookup (W : World) (m : Nat) (U : List (Nat → Int)) (f : Nat → Int) (h : UK W m (U.map kArr)) : (Instr.lookup 83 (.map (some m)) (.agg (kArr f)) false).run Tryz.prog W = .ok (.bool (hasKey f U)) W := by
  obtain ⟨es, c, h1, h2, h3⟩ := h
  have hf := k_find f W es.toList U h2 h3
  have hc := fun e => k_checkE e f W
  have hz : (zeroValue 4).run Tryz.prog W = .ok (.bool false) W := by kernel_rfl
  have hh := kAt_has f U 0
  cases hk : kAt f U 0 with
  | none =>
    rw [hk] at hf hh
    have hh : hasKey f U = false := hh.symm
    simp only [Option.map_none] at hf
    simp [Instr.lookup, run_underlying Tryz.underlying83, MapKept.run_getObj_map h1, hc, hf, hz, hh]
  | some j =>
    rw [hk] at hf hh
    have hh : hasKey f U = true := hh.symm
    simp only [Option.map_some] at hf
    simp [Instr.lookup, run_underlying Tryz.underlying83, MapKept.run_getObj_map h1, hc, hf, hh]
theorem k_put (W : World) (m : Nat) (U : List (Nat → Int)) (f : Nat → Int) (h : UK W m (U.map kArr)) (hno : hasKey f U = false) : ∃ X, (Instr.mapUpdate 83 (.map (some m)) (.agg (kArr f)) (.bool true)).run Tryz.prog W = .ok () X ∧ UK X m ((U ++ [f]).map kArr) ∧ KeepF (fun k => k = m) W X := by
  obtain ⟨es, c, h1, h2, h3⟩ := h
  have hf := k_find f W es.toList U h2 h3
  have hh := kAt_has f U 0
  rw [hno] at hh
  have hk : kAt f U 0 = none := by
    cases hk : kAt f U 0 with
    | none => rfl
    | some j => rw [hk] at hh; cases hh
  rw [hk] at hf
  simp only [Option.map_none] at hf
  have hlt : m < W.heap.size := (Array.getElem?_eq_some_iff.1 h1).1
  refine ⟨W.putObj m (.map (es.push { key := .agg (kArr f), val := .bool true, born := c }) (c + 1)), ?_, ⟨_, _, World.putObj_heap_same hlt, by simp [h2], fun e he => ?_⟩, KeepF.of_row (grownBy_putObj' W m _) rfl⟩
  · simp [Instr.mapUpdate, run_underlying Tryz.underlying83, MapKept.run_getObj_map h1, k_checkE false f W, hf, MapKept.run_setObj_map _ h1, Result.andThen, World.putObj]
  · rcases Array.mem_push.1 (Array.mem_toList_iff.1 he) with h | h
    · exact h3 e (Array.mem_toList_iff.2 h)
    · rw [h]
theorem keepF_row {F : Nat → Prop} {w w' : World} (h : KeepF F w w') {g : Nat} (hg : F g) (cs : Array Value) : KeepF F w (w'.setRow g cs) := by
  have hb := belowRow (Below.refl 0 w') (Nat.zero_le g) cs
  exact ⟨hb.os.trans h.os, hb.tape.trans h.tape, hb.output.trans h.output, Nat.le_trans h.size hb.size, fun k hk hn => (setRow_other _ _ _ _ (fun e => hn (by rw [e]; exact hg))).trans (h.block k hk hn)⟩
/-- a made compressor -/
def CompOk (o : Obj) : Prop := ∃ X : Array Value, o = .cells X 160 (0, 0) ∧ X.size = 226 ∧ X[0]? = some (.bool true)
theorem cNew_ok : CompOk cNew := ⟨_, rfl, by rw [Array.size_setIfInBounds, zcC_size], by rw [Array.getElem?_setIfInBounds_self_of_lt (by rw [zcC_size]; decide)]⟩
theorem sizeComp : (Tryz.prog.info? 160).map (·.size) = some 226 := by kernel_rfl
theorem comp_one : (zcC.setIfInBounds 0 (.bool true)).all (·.oneCell') = true := by kernel_rfl
theorem cnone_ok (cb : Nat) (o : Obj) (w : World) (h : w.heap[cb]? = some o) (ho : CompOk o) : Calls Tryz.prog 95 #[.pointer (some ⟨cb, 0, none⟩)] w fun e w' => e = .returned (.bool false) ∧ w = w' := by
  obtain ⟨X, rfl, hs, h0⟩ := ho
  have c0 : w.cell? ⟨cb, 0, none⟩ = some (.bool true) := (Blk.cell (show Blk w cb 160 X from h) 0).trans h0
  clear h
  go_enter Tryz.func95, Tryz.ntmps95
  go_wp2
  go_ret
  exact ⟨rfl, rfl⟩
set_option maxRecDepth 100000 in
set_option maxHeartbeats 1600000 in
theorem creset_ok (cb : Nat) (o : Obj) (w : World) (h : w.heap[cb]? = some o) (ho : CompOk o) : Calls Tryz.prog 60 #[.pointer (some ⟨cb, 0, none⟩)] w fun e w' => e = .returned (.int .i64 0) ∧ w'.heap[cb]? = some cNew ∧ KeepF (fun k => k = cb) w w' := by
  have HNO := Lib.hid (fun V hV => cnone_ok cb o V hV ho)
  have HNW := Lib.hid (fun V => tcnew_ok V)
  obtain ⟨X, hX, hs, h0⟩ := ho
  have HH := Lib.hid h
  have HB : Hid (Blk w cb 160 X) := Lib.hid (h.trans (by rw [hX]))
  obtain ⟨N, hN⟩ : ∃ N, N = zcC.setIfInBounds 0 (.bool true) := ⟨_, rfl⟩
  have HN := Lib.hid hN
  have HNS : Hid (N.size = 226) := Lib.hid (by rw [hN, Array.size_setIfInBounds, zcC_size])
  have HSZ : Hid ((Tryz.prog.info? 160).map (·.size) = some N.size) := Lib.hid (by rw [HNS.out]; exact sizeComp)
  have HXN : Hid (X.size = N.size) := Lib.hid (by rw [HNS.out, hs])
  have HO : Hid (N.all (·.oneCell') = true) := Lib.hid (by rw [hN]; exact comp_one)
  have HCN : Hid (cNew = .cells N 160 (0, 0)) := Lib.hid (by rw [hN]; rfl)
  have HU := Lib.hid Tryz.underlying160
  clear h hX h0 hs hN
  go_enter Tryz.func60, Tryz.ntmps60
  go_upto_region 3 with (go_at_call 95; refine (HNO.out _ HH.out).mono ?_; rintro e w1 ⟨rfl, rfl⟩)
  go_upto_region 4 with (first
    | (go_at_call 46; refine (HNW.out _).mono ?_; rintro e w1 ⟨rfl, hA⟩; have WA := Lib.hid hA.symm; have HNB : Hid (Blk w1 w.heap.size 160 N) := Lib.hid (by rw [← hA, HCN.out]; exact Blk.new _ _ _); have HB1 : Hid (Blk w1 cb 160 X) := Lib.hid (by rw [← hA]; exact HB.out.alloc _); clear hA)
    | (refine wpList_load_row rfl _ _ rfl w.heap.size rfl 160 N (0, 0) _ HNB.out HU.out rfl HSZ.out ?_)
    | (refine wpList_store_row rfl _ _ _ rfl cb N rfl rfl 160 X HB1.out HSZ.out HXN.out HO.out ?_))
  try simp only [Act.put]
  refine wp_let (fun V => V.heap[cb]? = some cNew ∧ KeepF (fun k => k = cb) w V) ⟨by rw [HCN.out]; exact setRow_heap _ _ _ N 160 (0, 0) HB1.out, keepF_row (F := fun k => k = cb) (by rw [WA.out]; exact KeepF.refl.alloc _) rfl _⟩ ?_
  rintro V ⟨v1, v2⟩
  have V1 := Lib.hid v1
  have V2 := Lib.hid v2
  clear v1 v2
  go_wp2
  go_ret
  exact ⟨rfl, V1.out, V2.out⟩
end Go.Proofs.YtiffminhlimajaaGreat
namespace Go.Proofs.YtiffminhlimajaaGreat
open Go.RowKit
set_option linter.unusedVariables false
attribute [local go_sem ↓] Go.wp_at_zero Go.wp_at_succ

def Cfg.keys (C : Cfg) (f c : Nat → Int) : Cfg := { C with key := f, code := c }
theorem tArr_keys (C : Cfg) (f c : Nat → Int) (made : Bool) (now next : Int) (q p : Value) (ub cb : Nat) : tsAll (tsAll (tArr C.arr made now next q p ub cb) 2 (kArr f).toList) 18 (kArr c).toList = tArr (C.keys f c).arr made now next q p ub cb := by
  have l1 : (kArr f).toList.length = 16 := rfl
  have l2 : (kArr c).toList.length = 16 := rfl
  have hs := tArr_size (made := made) (now := now) (next := next) (q := q) (p := p) (ub := ub) (cb := cb) C.arr_size
  apply Array.ext_getElem?
  intro j
  by_cases h1 : 18 ≤ j ∧ j < 34
  · have := tsAll_in (kArr c).toList 18 (tsAll (tArr C.arr made now next q p ub cb) 2 (kArr f).toList) (j - 18) (by omega) (by rw [tsAll_size, hs]; omega)
    rw [show 18 + (j - 18) = j by omega] at this
    rw [this, Array.getElem?_toList, kArr_at c _ (by omega), tArr_low (C.keys f c).arr_size (by omega), Cfg.arr_at _ (by omega)]
    unfold Cfg.cell
    rw [if_neg (by omega), if_neg (by omega), if_neg (by omega), if_pos (by omega)]
    rfl
  · rw [tsAll_out _ _ _ _ (by omega)]
    by_cases h2 : 2 ≤ j ∧ j < 18
    · have := tsAll_in (kArr f).toList 2 (tArr C.arr made now next q p ub cb) (j - 2) (by omega) (by rw [hs]; omega)
      rw [show 2 + (j - 2) = j by omega] at this
      rw [this, Array.getElem?_toList, kArr_at f _ (by omega), tArr_low (C.keys f c).arr_size (by omega), Cfg.arr_at _ (by omega)]
      unfold Cfg.cell
      rw [if_neg (by omega), if_neg (by omega), if_pos (by omega)]
      rfl
    · rw [tsAll_out _ _ _ _ (by omega)]
      by_cases h3 : j < 39
      · rw [tArr_low C.arr_size h3, tArr_low (C.keys f c).arr_size h3, C.arr_at h3, Cfg.arr_at _ h3]
        unfold Cfg.cell Cfg.keys
        by_cases h4 : j < 18
        · have : j = 0 ∨ j = 1 := by omega
          rcases this with rfl | rfl <;> rfl
        · have : j = 34 ∨ j = 35 ∨ j = 36 ∨ j = 37 ∨ j = 38 := by omega
          rcases this with rfl | rfl | rfl | rfl | rfl <;> rfl
      · by_cases h4 : j < 46
        · have := tArr_high (made := made) (now := now) (next := next) (q := q) (p := p) (ub := ub) (cb := cb) C.arr_size (j - 39)
          have h5 := tArr_high (made := made) (now := now) (next := next) (q := q) (p := p) (ub := ub) (cb := cb) (C.keys f c).arr_size (j - 39)
          rw [show 39 + (j - 39) = j by omega] at this h5
          rw [this, h5]
        · rw [Array.getElem?_eq_none (by omega), Array.getElem?_eq_none (by rw [tArr_size (C.keys f c).arr_size]; omega)]
section
variable {w w1 : World} {g : Nat} {s : TS} {W R : Nat → Prop} {qA : Option Addr} {qc : Nat} {lq : List WE} {pA : Option Addr} {pc : Nat} {lp : List PE} {ub cb : Nat}
theorem TxM.setUsed (h : TxM w g s W R qA qc lq pA pc lp ub cb) (hk : KeepF (fun k => k = ub) w w1) {L : List (Array Value)} (hu : UK w1 ub L) : TxM w1 g { s with used := L } W R qA qc lq pA pc lp ub cb := by
  have pk : ∀ {A : Option Addr} {n c : Nat} {z : Nat → Int}, Pkt w R A n c z → Pkt w1 R A n c z := fun hp => hp.keep hk (fun k e hr => h.dis k (by rw [e]; exact h.wu) hr)
  exact ⟨hk.blk h.blk h.gu, h.qv, h.pv, h.q.keepF hk (fun a e => h.qu a e), h.p.keepF hk (fun a e => h.pu a e), hu, (hk.block cb (h.win _ h.wc) h.ku).trans h.k,
    fun e he => pk (h.qe e he), fun e he => pk (h.pe e he), h.pr, h.wg, h.wu, h.wc, h.wq, h.wp, h.kg, h.ku, h.kq, h.kp, h.dis,
    fun k hw => Nat.lt_of_lt_of_le (h.win k hw) hk.size, fun k hw => Nat.lt_of_lt_of_le (h.rin k hw) hk.size, h.now0, h.next0⟩
theorem TxM.setCfg (h : TxM w g s W R qA qc lq pA pc lp ub cb) (hk : KeepF (fun k => k = g) w w1) {C : Cfg} (hb : Blk w1 g 86 (tArr C.arr true s.now s.next (.slice qA lq.length qc) (.slice pA lp.length pc) ub cb)) : TxM w1 g { s with C := C } W R qA qc lq pA pc lp ub cb := by
  have pk : ∀ {A : Option Addr} {n c : Nat} {z : Nat → Int}, Pkt w R A n c z → Pkt w1 R A n c z := fun hp => hp.keep hk (fun k e hr => h.dis k (by rw [e]; exact h.wg) hr)
  exact ⟨hb, h.qv, h.pv, h.q.keepF hk (fun a e h2 => h.gq a e h2.symm), h.p.keepF hk (fun a e h2 => h.gp a e h2.symm), h.u.keep (hk.block ub h.u.lt (fun e => h.gu e.symm)), (hk.block cb (h.win _ h.wc) h.kg).trans h.k,
    fun e he => pk (h.qe e he), fun e he => pk (h.pe e he), h.pr, h.wg, h.wu, h.wc, h.wq, h.wp, h.kg, h.ku, h.kq, h.kp, h.dis,
    fun k hw => Nat.lt_of_lt_of_le (h.win k hw) hk.size, fun k hw => Nat.lt_of_lt_of_le (h.rin k hw) hk.size, h.now0, h.next0⟩
theorem TxM.setComp (h : TxM w g s W R qA qc lq pA pc lp ub cb) (hk : KeepF (fun k => k = cb) w w1) {o : Obj} (ho : w1.heap[cb]? = some o) : TxM w1 g { s with comp := o } W R qA qc lq pA pc lp ub cb := by
  have pk : ∀ {A : Option Addr} {n c : Nat} {z : Nat → Int}, Pkt w R A n c z → Pkt w1 R A n c z := fun hp => hp.keep hk (fun k e hr => h.dis k (by rw [e]; exact h.wc) hr)
  exact ⟨hk.blk h.blk (fun e => h.kg e.symm), h.qv, h.pv, h.q.keepF hk (fun a e h2 => h.kq a e h2.symm), h.p.keepF hk (fun a e h2 => h.kp a e h2.symm), h.u.keep (hk.block ub h.u.lt (fun e => h.ku e.symm)), ho,
    fun e he => pk (h.qe e he), fun e he => pk (h.pe e he), h.pr, h.wg, h.wu, h.wc, h.wq, h.wp, h.kg, h.ku, h.kq, h.kp, h.dis,
    fun k hw => Nat.lt_of_lt_of_le (h.win k hw) hk.size, fun k hw => Nat.lt_of_lt_of_le (h.rin k hw) hk.size, h.now0, h.next0⟩
end
theorem SL.obj0 {w : World} {e : TypeId} {sz : Nat} {A : Option Addr} {n c : Nat} {xs : List Value} (h : SL w e sz A n c xs) (hn : 0 < n) : ∃ b o, A = some ⟨b, o, none⟩ ∧ b < w.heap.size := h.some_ hn
/-- a pending packet marked for repetition -/
def PV.again (p : PV) : PV := { p with rep := true }
def PE.again (e : PE) : PE := { e with v := e.v.again }
/-- the first k of them -/
def againK (lp : List PE) (k : Nat) : List PE := (lp.take k).map PE.again ++ lp.drop k
theorem againK_len (lp : List PE) (k : Nat) : (againK lp k).length = lp.length := by
  unfold againK
  rw [List.length_append, List.length_map, List.length_take, List.length_drop]
  omega
theorem againK_zero (lp : List PE) : againK lp 0 = lp := by simp [againK]
theorem againK_all (lp : List PE) : againK lp lp.length = lp.map PE.again := by simp [againK]
theorem againK_set (lp : List PE) (k : Nat) (e : PE) (h : lp[k]? = some e) : (againK lp k).set k e.again = againK lp (k + 1) := by
  have hk : k < lp.length := (List.getElem?_eq_some_iff.1 h).1
  have he : lp[k] = e := by have := List.getElem?_eq_getElem hk; rw [h] at this; exact (Option.some.inj this).symm
  unfold againK
  rw [List.set_append_right _ _ (by rw [List.length_map, List.length_take]; omega)]
  rw [show k - ((lp.take k).map PE.again).length = 0 by rw [List.length_map, List.length_take]; omega]
  rw [List.drop_eq_getElem_cons hk, List.set_cons_zero, List.take_add_one, h, List.map_append]
  simp
theorem againK_at (lp : List PE) (k : Nat) (e : PE) (h : lp[k]? = some e) : (againK lp k)[k]? = some e := by
  have hk : k < lp.length := (List.getElem?_eq_some_iff.1 h).1
  unfold againK
  rw [List.getElem?_append_right (by rw [List.length_map, List.length_take]; omega), show k - ((lp.take k).map PE.again).length = 0 by rw [List.length_map, List.length_take]; omega, List.getElem?_drop]
  exact h
theorem rep_setT (lp : List PE) (i : Nat) (e : PE) (h : lp[i]? = some e) : (lp.flatMap PE.cells).set (i * 3 + 2) (.bool true) = ((lp.set i e.again).flatMap PE.cells) := by
  have hi : i < lp.length := (List.getElem?_eq_some_iff.1 h).1
  apply List.ext_getElem?
  intro j
  rw [flat_set PE.cells 3 PE.len lp i hi, List.getElem?_set]
  have hl : (lp.flatMap PE.cells).length = lp.length * 3 := flat_len PE.cells 3 PE.len lp
  by_cases hj : i * 3 ≤ j ∧ j < i * 3 + 3
  · rw [if_pos hj]
    by_cases h2 : i * 3 + 2 = j
    · rw [if_pos h2, if_pos (by rw [hl]; omega), ← h2, show i * 3 + 2 - i * 3 = 2 by omega]
      rfl
    · rw [if_neg h2]
      have := flat_at PE.cells 3 PE.len lp i (j - i * 3) e h (by omega)
      rw [show i * 3 + (j - i * 3) = j by omega] at this
      rw [this]
      rcases (by omega : j - i * 3 = 0 ∨ j - i * 3 = 1) with e0 | e0 <;> rw [e0] <;> rfl
  · rw [if_neg hj, if_neg (by omega)]
def TS.rekeyed (s : TS) (f c : Nat → Int) : TS := { s with C := s.C.keys f c, used := s.used ++ [kArr f], comp := cNew, P := s.P.map PV.again }
theorem again_v (lp : List PE) : (lp.map PE.again).map (·.v) = (lp.map (·.v)).map PV.again := by
  rw [List.map_map, List.map_map]
  rfl
theorem blk_there {w : World} {g : Nat} {t : TypeId} {cs : Array Value} (h : Blk w g t cs) (o n : Nat) (hn : o + n ≤ cs.size) : w.there g o n := fun j hj => ⟨by rw [h.cell, Array.getElem?_eq_getElem (by omega)]; rfl, h.frozen _⟩
theorem k_size (f : Nat → Int) : (Tryz.prog.info? 23).map (·.size) = some (kArr f).toList.length := by kernel_rfl
theorem k_one (f : Nat → Int) : (kArr f).all (·.oneCell') = true := by kernel_rfl
set_option maxRecDepth 100000 in
set_option maxHeartbeats 1600000 in
theorem trekey_used (g : Nat) (s : TS) (W R : Nat → Prop) (w : World) (h : TxI w g s W R) (U : List (Nat → Int)) (hU : s.used = U.map kArr) (f c : Nat → Int) (hno : hasKey f U = true) :
    Calls Tryz.prog 29 #[.pointer (some ⟨g, 0, none⟩), .agg (kArr f), .agg (kArr c)] w fun e w' => e = .returned (.int .i64 461) ∧ Below w.heap.size w w' := by
  have HNO := Lib.hid (fun (V : World) (hb : Below w.heap.size w V) => tmade_ok g s W R V (h.below hb))
  obtain ⟨qA, qc, lq, pA, pc, lp, ub, cb, hT⟩ := h
  have HT := Lib.hid hT
  have HLK := Lib.hid (fun (V : World) (hb : Below w.heap.size w V) => k_lookup V ub U f (by rw [← hU]; exact (hT.below hb).u))
  have HSK := Lib.hid (k_size f)
  have HSC := Lib.hid (k_size c)
  have HOK := Lib.hid (k_one f)
  have HOC := Lib.hid (k_one c)
  have HUK := Lib.hid Tryz.underlying23
  obtain ⟨KF, hKF⟩ : ∃ KF, KF = kArr f := ⟨_, rfl⟩
  obtain ⟨KC, hKC⟩ : ∃ KC, KC = kArr c := ⟨_, rfl⟩
  have HKF := Lib.hid hKF
  have HKC := Lib.hid hKC
  rw [← hKF] at HLK HSK HOK ⊢
  rw [← hKC] at HSC HOC ⊢
  rw [hno] at HLK
  clear hT hKF hKC hU hno
  go_enter Tryz.func29, Tryz.ntmps29
  go_upto_region 1 with (fail)
  obtain ⟨kb, hkb⟩ : ∃ kb, kb = w.heap.size := ⟨_, rfl⟩
  have HKB := Lib.hid hkb
  refine wp_let (fun V => Blk V kb 23 KF ∧ Blk V (kb + 1) 23 KC ∧ Below w.heap.size w V) ⟨by rw [hkb]; exact (blk_atZ _ _ _ _ rfl).alloc _, by rw [hkb]; exact blk_atZ _ _ _ _ (by simp), ((Below.refl _ w).alloc (Nat.le_refl _) _).alloc (by simp) _⟩ ?_
  rintro W1 ⟨b1, b2, b3⟩
  have B1 := Lib.hid b1
  have B2 := Lib.hid b2
  have B3 := Lib.hid b3
  rw [← hkb]
  clear b1 b2 b3 hkb
  go_upto_region 3 with (go_at_call 54; refine (HNO.out _ B3.out).mono ?_; rintro e w3 ⟨rfl, rfl⟩)
  have HKR := Lib.hid (show ∀ W', Below W1.heap.size W1 W' → W'.rangeAt kb 0 KF.toList from fun W' hW => (B1.out.below hW B1.out.lt).range _ (by simp))
  have HC44 := Lib.hid (show ∀ W', Below W1.heap.size W1 W' → W'.cell? ⟨g, 44, none⟩ = some (.map (some ub)) from fun W' hW => (HT.out.below (B3.out.trans (hW.mono B3.out.size))).cu)
  have HL2 := Lib.hid (show ∀ W', Below W1.heap.size W1 W' → (Instr.lookup 83 (.map (some ub)) (.agg KF) false).run Tryz.prog W' = .ok (.bool true) W' from fun W' hW => HLK.out W' (B3.out.trans (hW.mono B3.out.size)))
  refine wp_region_held_drew (S := fun w' => Below W1.heap.size W1 w') (by kernel_rfl) ((Below.refl _ W1).drew) (fun hHeld => ?_)
  obtain ⟨w0, hw0⟩ : ∃ w0, w0 = W1.drew := ⟨_, rfl⟩
  rw [← hw0]
  rw [← hw0] at hHeld
  clear hw0
  refine wpAnyH_take (i := 0) (oi := ⟨some 12, _, _, _, _, _⟩) (v := .pointer (some ⟨g, 0, none⟩)) rfl (by kernel_rfl) (by kernel_rfl) (by kernel_rfl) (fun _ _ _ h => h) (Or.inl ⟨by rfl, fun W hW => (by rfl)⟩) (by assumption) ?_
  try simp only [Act.put, List.setIfInBounds_toArray, List.set_cons_zero, List.set_cons_succ]
  refine wpAnyH_take (i := 1) (oi := ⟨some 13, _, _, _, _, _⟩) (v := .pointer (some ⟨g, 0, none⟩)) rfl (by kernel_rfl) (by kernel_rfl) (by kernel_rfl) (fun _ _ _ h => h) (Or.inl ⟨by rfl, fun W hW => (by go_simp)⟩) (by assumption) ?_
  try simp only [Act.put, List.setIfInBounds_toArray, List.set_cons_zero, List.set_cons_succ]
  refine wpAnyH_take (i := 2) (oi := ⟨some 14, _, _, _, _, _⟩) (v := .pointer (some ⟨g, 44, none⟩)) rfl (by kernel_rfl) (by kernel_rfl) (by kernel_rfl) (fun _ _ _ h => h) (Or.inl ⟨by rfl, fun W hW => (by go_simp)⟩) (by assumption) ?_
  try simp only [Act.put, List.setIfInBounds_toArray, List.set_cons_zero, List.set_cons_succ]
  refine wpAnyH_take (i := 3) (oi := ⟨some 15, _, _, _, _, _⟩) (v := .map (some ub)) rfl (by kernel_rfl) (by kernel_rfl) (by kernel_rfl) (fun _ _ _ h => h) (Or.inl ⟨by rfl, fun W hW => (by have := HC44.out W hW; go_simp)⟩) (by assumption) ?_
  try simp only [Act.put, List.setIfInBounds_toArray, List.set_cons_zero, List.set_cons_succ]
  refine' wpAnyH_take (i := 4) (oi := ⟨some 16, _, _, _, _, _⟩) (v := _) rfl (by kernel_rfl) (by kernel_rfl) (by kernel_rfl) (fun _ _ _ h => h) (yieldsIf_load_mid (by rfl) _ _ rfl kb 0 rfl KF.toList _ (fun w h => HKR.out w h) HUK.out rfl HSK.out) (by assumption) ?_
  try simp only [Act.put, List.setIfInBounds_toArray, List.set_cons_zero, List.set_cons_succ]
  refine wpAnyH_take (i := 5) (oi := ⟨some 17, _, _, _, _, _⟩) (v := .bool true) rfl (by kernel_rfl) (by kernel_rfl) (by kernel_rfl) (fun _ _ _ h => h) (Or.inl ⟨by rfl, fun W hW => (by have := HL2.out W hW; go_simp)⟩) (by assumption) ?_
  try simp only [Act.put, List.setIfInBounds_toArray, List.set_cons_zero, List.set_cons_succ]
  refine wpAnyH_take (i := 6) (oi := ⟨some 11, _, _, _, _, _⟩) (v := .bool true) rfl (by kernel_rfl) (by kernel_rfl) (by kernel_rfl) (fun _ _ _ h => h) (Or.inl ⟨by rfl, fun W hW => (by rfl)⟩) (by assumption) ?_
  try simp only [Act.put, List.setIfInBounds_toArray, List.set_cons_zero, List.set_cons_succ]
  refine wpAnyH_done (by kernel_rfl) ?_ _
  have H2 := Lib.hid hHeld
  clear hHeld
  go_wp2
  go_ret
  exact ⟨rfl, B3.out.trans (H2.out.mono B3.out.size)⟩
set_option maxRecDepth 100000 in
set_option maxHeartbeats 3200000 in
theorem trekey_new (g : Nat) (s : TS) (W R : Nat → Prop) (w : World) (h : TxI w g s W R) (U : List (Nat → Int)) (hU : s.used = U.map kArr) (hco : CompOk s.comp) (hpl : s.P.length ≤ 1000000) (f c : Nat → Int) (hno : hasKey f U = false) :
    Calls Tryz.prog 29 #[.pointer (some ⟨g, 0, none⟩), .agg (kArr f), .agg (kArr c)] w fun e w' => e = .returned (.int .i64 0) ∧ TxO W R w w' g (s.rekeyed f c) := by
  have HNO := Lib.hid (fun (V : World) (hb : Below w.heap.size w V) => tmade_ok g s W R V (h.below hb))
  obtain ⟨qA, qc, lq, pA, pc, lp, ub, cb, hT⟩ := h
  have HT := Lib.hid hT
  have HLK := Lib.hid (fun (V : World) (hb : Below w.heap.size w V) => k_lookup V ub U f (by rw [← hU]; exact (hT.below hb).u))
  have HSK := Lib.hid (k_size f)
  have HSC := Lib.hid (k_size c)
  have HOK := Lib.hid (k_one f)
  have HOC := Lib.hid (k_one c)
  have HUK := Lib.hid Tryz.underlying23
  have HPUT := Lib.hid (fun (V : World) (hb : Below w.heap.size w V) => k_put V ub U f (by rw [← hU]; exact (hT.below hb).u) hno)
  have HU2 := Lib.hid (show (U ++ [f]).map kArr = s.used ++ [kArr f] by rw [hU, List.map_append]; rfl)
  have HCO := Lib.hid hco
  have HPL := Lib.hid hpl
  clear hco hpl
  obtain ⟨KF, hKF⟩ : ∃ KF, KF = kArr f := ⟨_, rfl⟩
  obtain ⟨KC, hKC⟩ : ∃ KC, KC = kArr c := ⟨_, rfl⟩
  have HKF := Lib.hid hKF
  have HKC := Lib.hid hKC
  rw [← hKF] at HLK HSK HOK ⊢
  rw [← hKC] at HSC HOC ⊢
  rw [hno] at HLK
  rw [← hKF] at HPUT HU2
  clear hT hKF hKC hU hno
  go_enter Tryz.func29, Tryz.ntmps29
  go_upto_region 1 with (fail)
  obtain ⟨kb, hkb⟩ : ∃ kb, kb = w.heap.size := ⟨_, rfl⟩
  have HKB := Lib.hid hkb
  refine wp_let (fun V => Blk V kb 23 KF ∧ Blk V (kb + 1) 23 KC ∧ Below w.heap.size w V) ⟨by rw [hkb]; exact (blk_atZ _ _ _ _ rfl).alloc _, by rw [hkb]; exact blk_atZ _ _ _ _ (by simp), ((Below.refl _ w).alloc (Nat.le_refl _) _).alloc (by simp) _⟩ ?_
  rintro W1 ⟨b1, b2, b3⟩
  have B1 := Lib.hid b1
  have B2 := Lib.hid b2
  have B3 := Lib.hid b3
  rw [← hkb]
  clear b1 b2 b3 hkb
  go_upto_region 3 with (go_at_call 54; refine (HNO.out _ B3.out).mono ?_; rintro e w3 ⟨rfl, rfl⟩)
  have HKR := Lib.hid (show ∀ W', Below W1.heap.size W1 W' → W'.rangeAt kb 0 KF.toList from fun W' hW => (B1.out.below hW B1.out.lt).range _ (by simp))
  have HC44 := Lib.hid (show ∀ W', Below W1.heap.size W1 W' → W'.cell? ⟨g, 44, none⟩ = some (.map (some ub)) from fun W' hW => (HT.out.below (B3.out.trans (hW.mono B3.out.size))).cu)
  have HL2 := Lib.hid (show ∀ W', Below W1.heap.size W1 W' → (Instr.lookup 83 (.map (some ub)) (.agg KF) false).run Tryz.prog W' = .ok (.bool false) W' from fun W' hW => HLK.out W' (B3.out.trans (hW.mono B3.out.size)))
  refine wp_region_held_drew (S := fun w' => Below W1.heap.size W1 w') (by kernel_rfl) ((Below.refl _ W1).drew) (fun hHeld => ?_)
  obtain ⟨w0, hw0⟩ : ∃ w0, w0 = W1.drew := ⟨_, rfl⟩
  rw [← hw0]
  rw [← hw0] at hHeld
  clear hw0
  refine wpAnyH_take (i := 0) (oi := ⟨some 12, _, _, _, _, _⟩) (v := .pointer (some ⟨g, 0, none⟩)) rfl (by kernel_rfl) (by kernel_rfl) (by kernel_rfl) (fun _ _ _ h => h) (Or.inl ⟨by rfl, fun W hW => (by rfl)⟩) (by assumption) ?_
  try simp only [Act.put, List.setIfInBounds_toArray, List.set_cons_zero, List.set_cons_succ]
  refine wpAnyH_take (i := 1) (oi := ⟨some 13, _, _, _, _, _⟩) (v := .pointer (some ⟨g, 0, none⟩)) rfl (by kernel_rfl) (by kernel_rfl) (by kernel_rfl) (fun _ _ _ h => h) (Or.inl ⟨by rfl, fun W hW => (by go_simp)⟩) (by assumption) ?_
  try simp only [Act.put, List.setIfInBounds_toArray, List.set_cons_zero, List.set_cons_succ]
  refine wpAnyH_take (i := 2) (oi := ⟨some 14, _, _, _, _, _⟩) (v := .pointer (some ⟨g, 44, none⟩)) rfl (by kernel_rfl) (by kernel_rfl) (by kernel_rfl) (fun _ _ _ h => h) (Or.inl ⟨by rfl, fun W hW => (by go_simp)⟩) (by assumption) ?_
  try simp only [Act.put, List.setIfInBounds_toArray, List.set_cons_zero, List.set_cons_succ]
  refine wpAnyH_take (i := 3) (oi := ⟨some 15, _, _, _, _, _⟩) (v := .map (some ub)) rfl (by kernel_rfl) (by kernel_rfl) (by kernel_rfl) (fun _ _ _ h => h) (Or.inl ⟨by rfl, fun W hW => (by have := HC44.out W hW; go_simp)⟩) (by assumption) ?_
  try simp only [Act.put, List.setIfInBounds_toArray, List.set_cons_zero, List.set_cons_succ]
  refine' wpAnyH_take (i := 4) (oi := ⟨some 16, _, _, _, _, _⟩) (v := _) rfl (by kernel_rfl) (by kernel_rfl) (by kernel_rfl) (fun _ _ _ h => h) (yieldsIf_load_mid (by rfl) _ _ rfl kb 0 rfl KF.toList _ (fun w h => HKR.out w h) HUK.out rfl HSK.out) (by assumption) ?_
  try simp only [Act.put, List.setIfInBounds_toArray, List.set_cons_zero, List.set_cons_succ]
  refine wpAnyH_take (i := 5) (oi := ⟨some 17, _, _, _, _, _⟩) (v := .bool false) rfl (by kernel_rfl) (by kernel_rfl) (by kernel_rfl) (fun _ _ _ h => h) (Or.inl ⟨by rfl, fun W hW => (by have := HL2.out W hW; go_simp)⟩) (by assumption) ?_
  try simp only [Act.put, List.setIfInBounds_toArray, List.set_cons_zero, List.set_cons_succ]
  refine wpAnyH_take (i := 6) (oi := ⟨some 11, _, _, _, _, _⟩) (v := .bool false) rfl (by kernel_rfl) (by kernel_rfl) (by kernel_rfl) (fun _ _ _ h => h) (Or.inl ⟨by rfl, fun W hW => (by rfl)⟩) (by assumption) ?_
  try simp only [Act.put, List.setIfInBounds_toArray, List.set_cons_zero, List.set_cons_succ]
  refine wpAnyH_done (by kernel_rfl) ?_ _
  have H2 := Lib.hid hHeld
  clear hHeld
  go_upto_region 5 with (fail)
  have H3 := Lib.hid (B3.out.trans (H2.out.mono B3.out.size))
  have T3 := Lib.hid (HT.out.below H3.out)
  have D1 := Lib.hid (B1.out.below H2.out B1.out.lt)
  have D2 := Lib.hid (B2.out.below H2.out B2.out.lt)
  obtain ⟨W5, hW5⟩ : ∃ W5, W5 = w0 := ⟨_, rfl⟩
  rw [← hW5] at H3 T3 D1 D2 ⊢
  clear hW5
  have HKR2 := Lib.hid (show ∀ W', Below W5.heap.size W5 W' → W'.rangeAt kb 0 KF.toList from fun W' hW => (D1.out.below hW D1.out.lt).range _ (by simp))
  have HD44 := Lib.hid (show ∀ W', Below W5.heap.size W5 W' → W'.cell? ⟨g, 44, none⟩ = some (.map (some ub)) from fun W' hW => (T3.out.below hW).cu)
  refine wp_region_held_drew (S := fun w' => KeepF (fun k => k = ub) W5 w') (by kernel_rfl) (KeepF.refl.drew) (fun hHeld => ?_)
  obtain ⟨w5, hw5⟩ : ∃ w5, w5 = W5.drew := ⟨_, rfl⟩
  have hb5 : Below W5.heap.size W5 w5 := by rw [hw5]; exact (Below.refl _ _).drew
  have HE := Lib.hid (show ∀ W', KeepF (fun k => k = ub) W5 W' → W'.cell? ⟨g, 44, none⟩ = some (.map (some ub)) from fun W' hW => (hW.cell (p := ⟨g, 44, none⟩) T3.out.blk.lt T3.out.gu).trans T3.out.cu)
  have HER := Lib.hid (show ∀ W', KeepF (fun k => k = ub) W5 W' → W'.rangeAt kb 0 KF.toList from fun W' hW => (hW.blk D1.out (fun e => by have := HT.out.u.lt; have := HKB.out; omega)).range _ (by simp))
  rw [← hw5]
  rw [← hw5] at hHeld
  obtain ⟨X, hput, hUK, hKX⟩ := HPUT.out w5 (H3.out.trans (hb5.mono H3.out.size))
  have hTX := (T3.out.below hb5).setUsed hKX hUK
  rw [HU2.out] at hTX
  clear hw5
  refine wpAnyH_take (i := 0) (oi := ⟨some 18, _, _, _, _, _⟩) (v := .pointer (some ⟨g, 0, none⟩)) rfl (by kernel_rfl) (by kernel_rfl) (by kernel_rfl) (fun _ _ _ h => h) (Or.inl ⟨by rfl, fun W hW => (by rfl)⟩) (by assumption) ?_
  try simp only [Act.put, List.setIfInBounds_toArray, List.set_cons_zero, List.set_cons_succ]
  refine wpAnyH_take (i := 1) (oi := ⟨some 19, _, _, _, _, _⟩) (v := .pointer (some ⟨g, 0, none⟩)) rfl (by kernel_rfl) (by kernel_rfl) (by kernel_rfl) (fun _ _ _ h => h) (Or.inl ⟨by rfl, fun W hW => (by go_simp)⟩) (by assumption) ?_
  try simp only [Act.put, List.setIfInBounds_toArray, List.set_cons_zero, List.set_cons_succ]
  refine wpAnyH_take (i := 2) (oi := ⟨some 20, _, _, _, _, _⟩) (v := .pointer (some ⟨g, 44, none⟩)) rfl (by kernel_rfl) (by kernel_rfl) (by kernel_rfl) (fun _ _ _ h => h) (Or.inl ⟨by rfl, fun W hW => (by go_simp)⟩) (by assumption) ?_
  try simp only [Act.put, List.setIfInBounds_toArray, List.set_cons_zero, List.set_cons_succ]
  refine wpAnyH_take (i := 3) (oi := ⟨some 21, _, _, _, _, _⟩) (v := .map (some ub)) rfl (by kernel_rfl) (by kernel_rfl) (by kernel_rfl) (fun _ _ _ h => h) (Or.inl ⟨by rfl, fun W hW => (by have := HE.out W hW; go_simp)⟩) (by assumption) ?_
  try simp only [Act.put, List.setIfInBounds_toArray, List.set_cons_zero, List.set_cons_succ]
  refine' wpAnyH_take (i := 4) (oi := ⟨some 22, _, _, _, _, _⟩) (v := _) rfl (by kernel_rfl) (by kernel_rfl) (by kernel_rfl) (fun _ _ _ h => h) (yieldsIf_load_mid (by rfl) _ _ rfl kb 0 rfl KF.toList _ (fun w h => HER.out w h) HUK.out rfl HSK.out) (by assumption) ?_
  try simp only [Act.put, List.setIfInBounds_toArray, List.set_cons_zero, List.set_cons_succ]
  refine wpAnyH_ready (rs := [5]) (by kernel_rfl) (by simp) ?_
  refine AllReadyH.cons (o := ⟨none, _, _, _, _, _⟩) rfl (fun K hK => ?_) AllReadyH.nil
  rw [if_pos (by rfl)]
  go_simp
  refine hK.out _ _ (hHeld.trans hKX (fun k _ hk => hk)) (fun hHeld => ?_)
  clear hK K hput
  try simp only [Act.put]
  refine wpAnyH_done (by kernel_rfl) ?_ _
  have HTX := Lib.hid hTX
  have H5 := Lib.hid (hHeld)
  have XD1 := Lib.hid (hHeld.blk D1.out (fun e => by have := HT.out.u.lt; have := HKB.out; omega))
  have XD2 := Lib.hid (hHeld.blk D2.out (fun e => by have := HT.out.u.lt; have := HKB.out; omega))
  clear hTX hKX hUK hHeld
  go_upto_region 6 with (fail)
  have HGB := Lib.hid (show g < kb from by have := HT.out.blk.lt; have := HKB.out; omega)
  have HF1 := Lib.hid (show ∀ W', KeepF (fun k => k = g) X W' → W'.rangeAt kb 0 KF.toList from fun W' hW => (hW.blk XD1.out (fun e => by have := HGB.out; omega)).range _ (by simp))
  have HF2 := Lib.hid (show ∀ W', KeepF (fun k => k = g) X W' → W'.rangeAt (kb + 1) 0 KC.toList from fun W' hW => (hW.blk XD2.out (fun e => by have := HGB.out; omega)).range _ (by simp))
  have HSKF : Hid ((Tryz.prog.info? 23).map (·.size) = some KF.size) := Lib.hid (by rw [HKF.out]; kernel_rfl)
  have HSKC : Hid ((Tryz.prog.info? 23).map (·.size) = some KC.size) := Lib.hid (by rw [HKC.out]; kernel_rfl)
  refine wp_region_held_drew (S := fun w' => KeepF (fun k => k = g) X w') (by kernel_rfl) (KeepF.refl.drew) (fun hHeld => ?_)
  obtain ⟨w6, hw6⟩ : ∃ w6, w6 = X.drew := ⟨_, rfl⟩
  have hb6 : Below X.heap.size X w6 := by rw [hw6]; exact (Below.refl _ _).drew
  rw [← hw6]
  rw [← hw6] at hHeld
  have hT6 := HTX.out.below hb6
  clear hw6 hb6
  refine wpAnyH_take (i := 0) (oi := ⟨some 23, _, _, _, _, _⟩) (v := .pointer (some ⟨g, 0, none⟩)) rfl (by kernel_rfl) (by kernel_rfl) (by kernel_rfl) (fun _ _ _ h => h) (Or.inl ⟨by rfl, fun W hW => (by rfl)⟩) (by assumption) ?_
  try simp only [Act.put, List.setIfInBounds_toArray, List.set_cons_zero, List.set_cons_succ]
  refine wpAnyH_take (i := 1) (oi := ⟨some 24, _, _, _, _, _⟩) (v := .pointer (some ⟨g, 0, none⟩)) rfl (by kernel_rfl) (by kernel_rfl) (by kernel_rfl) (fun _ _ _ h => h) (Or.inl ⟨by rfl, fun W hW => (by rfl)⟩) (by assumption) ?_
  try simp only [Act.put, List.setIfInBounds_toArray, List.set_cons_zero, List.set_cons_succ]
  refine' wpAnyH_take (i := 2) (oi := ⟨some 25, _, _, _, _, _⟩) (v := _) rfl (by kernel_rfl) (by kernel_rfl) (by kernel_rfl) (fun _ _ _ h => h) (yieldsIf_load_mid (by rfl) _ _ rfl kb 0 rfl KF.toList _ (fun w h => HF1.out w h) HUK.out rfl HSK.out) (by assumption) ?_
  try simp only [Act.put, List.setIfInBounds_toArray, List.set_cons_zero, List.set_cons_succ]
  refine' wpAnyH_take (i := 3) (oi := ⟨some 26, _, _, _, _, _⟩) (v := _) rfl (by kernel_rfl) (by kernel_rfl) (by kernel_rfl) (fun _ _ _ h => h) (yieldsIf_load_mid (by rfl) _ _ rfl (kb + 1) 0 rfl KC.toList _ (fun w h => HF2.out w h) HUK.out rfl HSC.out) (by assumption) ?_
  try simp only [Act.put, List.setIfInBounds_toArray, List.set_cons_zero, List.set_cons_succ]
  refine wpAnyH_take (i := 4) (oi := ⟨some 27, _, _, _, _, _⟩) (v := .pointer (some ⟨g, 0, none⟩)) rfl (by kernel_rfl) (by kernel_rfl) (by kernel_rfl) (fun _ _ _ h => h) (Or.inl ⟨by rfl, fun W hW => (by go_simp)⟩) (by assumption) ?_
  try simp only [Act.put, List.setIfInBounds_toArray, List.set_cons_zero, List.set_cons_succ]
  refine wpAnyH_take (i := 5) (oi := ⟨some 28, _, _, _, _, _⟩) (v := .pointer (some ⟨g, 0, none⟩)) rfl (by kernel_rfl) (by kernel_rfl) (by kernel_rfl) (fun _ _ _ h => h) (Or.inl ⟨by rfl, fun W hW => (by go_simp)⟩) (by assumption) ?_
  try simp only [Act.put, List.setIfInBounds_toArray, List.set_cons_zero, List.set_cons_succ]
  refine wpAnyH_take (i := 6) (oi := ⟨some 29, _, _, _, _, _⟩) (v := .pointer (some ⟨g, 2, none⟩)) rfl (by kernel_rfl) (by kernel_rfl) (by kernel_rfl) (fun _ _ _ h => h) (Or.inl ⟨by rfl, fun W hW => (by go_simp)⟩) (by assumption) ?_
  try simp only [Act.put, List.setIfInBounds_toArray, List.set_cons_zero, List.set_cons_succ]
  refine wpAnyH_ready (rs := [7]) (by kernel_rfl) (by simp) ?_
  refine AllReadyH.cons (o := ⟨none, _, _, _, _, _⟩) rfl (fun K hK => ?_) AllReadyH.nil
  rw [if_pos (by rfl)]
  refine wp_store_mid _ _ _ rfl g 2 KF rfl rfl (blk_there hT6.blk 2 KF.size (by rw [HKF.out, tArr_size s.C.arr_size]; show 2 + 16 ≤ 46; decide)) HSKF.out HOK.out ?_
  have hk1 : KeepF (fun k => k = g) X (w6.setCells g 2 KF.toList) := hHeld.trans (ts_keep (F := fun k => k = g) rfl _ _ _) (fun _ _ h => h)
  have hB1 := ts_setCells KF.toList 2 w6 _ hT6.blk
  obtain ⟨v1, hv1⟩ : ∃ v1, v1 = w6.setCells g 2 KF.toList := ⟨_, rfl⟩
  rw [← hv1] at hk1 hB1 ⊢
  refine hK.out _ _ hk1 (fun hHeld => ?_)
  clear hK K hk1 hv1 hT6
  try simp only [Act.put]
  refine wpAnyH_take (i := 8) (oi := ⟨some 30, _, _, _, _, _⟩) (v := .pointer (some ⟨g, 0, none⟩)) rfl (by kernel_rfl) (by kernel_rfl) (by kernel_rfl) (fun _ _ _ h => h) (Or.inl ⟨by rfl, fun W hW => (by go_simp)⟩) (by assumption) ?_
  try simp only [Act.put, List.setIfInBounds_toArray, List.set_cons_zero, List.set_cons_succ]
  refine wpAnyH_take (i := 9) (oi := ⟨some 31, _, _, _, _, _⟩) (v := .pointer (some ⟨g, 0, none⟩)) rfl (by kernel_rfl) (by kernel_rfl) (by kernel_rfl) (fun _ _ _ h => h) (Or.inl ⟨by rfl, fun W hW => (by go_simp)⟩) (by assumption) ?_
  try simp only [Act.put, List.setIfInBounds_toArray, List.set_cons_zero, List.set_cons_succ]
  refine wpAnyH_take (i := 10) (oi := ⟨some 32, _, _, _, _, _⟩) (v := .pointer (some ⟨g, 18, none⟩)) rfl (by kernel_rfl) (by kernel_rfl) (by kernel_rfl) (fun _ _ _ h => h) (Or.inl ⟨by rfl, fun W hW => (by go_simp)⟩) (by assumption) ?_
  try simp only [Act.put, List.setIfInBounds_toArray, List.set_cons_zero, List.set_cons_succ]
  refine wpAnyH_ready (rs := [11]) (by kernel_rfl) (by simp) ?_
  refine AllReadyH.cons (o := ⟨none, _, _, _, _, _⟩) rfl (fun K hK => ?_) AllReadyH.nil
  rw [if_pos (by rfl)]
  refine wp_store_mid _ _ _ rfl g 18 KC rfl rfl (blk_there hB1 18 KC.size (by rw [HKC.out, tsAll_size, tArr_size s.C.arr_size]; show 18 + 16 ≤ 46; decide)) HSKC.out HOC.out ?_
  have hk2 : KeepF (fun k => k = g) X (v1.setCells g 18 KC.toList) := hHeld.trans (ts_keep (F := fun k => k = g) rfl _ _ _) (fun _ _ h => h)
  have hB2 := ts_setCells KC.toList 18 v1 _ hB1
  obtain ⟨v2, hv2⟩ : ∃ v2, v2 = v1.setCells g 18 KC.toList := ⟨_, rfl⟩
  rw [← hv2] at hk2 hB2 ⊢
  refine hK.out _ _ hk2 (fun hHeld => ?_)
  clear hK K hk2 hv2
  try simp only [Act.put]
  refine wpAnyH_done (by kernel_rfl) ?_ _
  rw [HKF.out, HKC.out, tArr_keys] at hB2
  have T6 := Lib.hid (HTX.out.setCfg hHeld hB2)
  have H6 := Lib.hid hHeld
  clear hHeld hB1 hB2
  have cc := T6.out.cc
  go_upto_region 8 with (go_at_call 60; refine (creset_ok cb s.comp _ T6.out.k HCO.out).mono ?_; rintro e v3 ⟨rfl, hc, hk⟩; have T7 := Lib.hid (T6.out.setComp hk hc); have H7 := Lib.hid hk; clear hc hk)
  clear cc
  obtain ⟨m, hm⟩ : ∃ m, m = lp.length := ⟨_, rfl⟩
  have HM := Lib.hid hm
  have HPV := Lib.hid T7.out.pv
  have cp := T7.out.cp
  rw [← hm] at cp
  have m9 : (m : Int) ≤ 1000000 := by have := HPL.out; rw [← HT.out.pv, List.length_map] at this; omega
  have HKW := Lib.hid (show KeepF W w v3 from (((KeepF.of_below (F := W) H3.out).trans (H5.out.mono (G := W) (fun k e => by rw [e]; exact HT.out.wu)) (fun _ _ h => h)).trans (H6.out.mono (G := W) (fun k e => by rw [e]; exact HT.out.wg)) (fun _ _ h => h)).trans (H7.out.mono (G := W) (fun k e => by rw [e]; exact HT.out.wc)) (fun _ _ h => h))
  obtain ⟨s7, hs7⟩ : ∃ s7 : TS, s7 = { s with C := s.C.keys f c, used := s.used ++ [KF], comp := cNew } := ⟨_, rfl⟩
  have HS7 := Lib.hid hs7
  have T8 := Lib.hid (show TxM v3 g s7 W R qA qc lq pA pc lp ub cb from by rw [hs7]; exact T7.out)
  clear hs7 T7
  clear hm
  go_wp2
  go_loopw [7, 43] (fun v7 v43 wr => ∃ k : Nat, k ≤ m ∧ v43 = .int .i64 k ∧ TxM wr g { s7 with P := (againK lp k).map (·.v) } W R qA qc lq pA pc (againK lp k) ub cb ∧ KeepF W w wr) (fun _ v43 _ => m - (intOf v43).toNat)
  case atStart => exact ⟨0, by omega, rfl, by rw [againK_zero, T8.out.pv]; exact T8.out, HKW.out⟩
  case round =>
    obtain ⟨k, hk, rfl, hT, hK⟩ := hrel
    have TR := Lib.hid hT
    have KR := Lib.hid hK
    clear hT hK cp
    have k0 : (0 : Int) ≤ (k : Int) := by omega
    by_cases hlt : k < m
    · have k1 : (k : Int) < (m : Int) := by omega
      have hkl : k < lp.length := by rw [← HM.out]; exact hlt
      obtain ⟨e, he⟩ : ∃ e, lp[k]? = some e := ⟨_, List.getElem?_eq_getElem hkl⟩
      have hak := againK_at lp k e he
      obtain ⟨b, o, hpA, hbl, d0, d1, d2⟩ := TR.out.pcell hak
      have cp := TR.out.cp
      rw [againK_len, ← HM.out, hpA] at cp
      have f2 := TR.out.p.frozen hpA (o + k * 3 + 2)
      have HQ := Lib.hid (show SL (wr.setCell ⟨b, o + k * 3 + 2, none⟩ (.bool true)) 101 3 pA (againK lp k).length pc ((againK lp (k + 1)).flatMap PE.cells) from by
        have hsl := TR.out.p
        rw [hpA] at hsl
        have := hsl.setOne (k * 3 + 2) (by rw [againK_len]; omega) (.bool true)
        rw [rep_setT (againK lp k) k e hak, againK_set lp k e he, ← Nat.add_assoc] at this
        rw [hpA]
        exact this)
      have HKF2 := Lib.hid ((KeepF.refl (F := fun k => ∃ a, pA = some a ∧ k = a.block) (w := wr)).setCell (p := ⟨b, o + k * 3 + 2, none⟩) ⟨_, hpA, rfl⟩ (.bool true))
      have HT4 := Lib.hid (TR.out.putP (lp' := againK lp (k + 1)) HKF2.out HQ.out (by rw [againK_len, againK_len]) (fun x hx => by
        have hk : Pkt wr R x.A x.v.n x.c x.v.z := by
          rw [← againK_set lp k e he] at hx
          rcases List.mem_or_eq_of_mem_set hx with h | h
          · exact TR.out.pe x h
          · subst h
            exact TR.out.pe e (List.mem_of_getElem? hak)
        exact hk.keep HKF2.out (fun j ⟨a, ha, e2⟩ hr => TR.out.dis j (by rw [e2]; exact TR.out.wp a ha) hr)) (fun x hx => by
        rw [← againK_set lp k e he] at hx
        rcases List.mem_or_eq_of_mem_set hx with h | h
        · exact TR.out.pr x.v (List.mem_map_of_mem h)
        · subst h
          exact TR.out.pr e.v (List.mem_map_of_mem (List.mem_of_getElem? hak))))
      have HK4 := Lib.hid (KR.out.trans (HKF2.out.mono (G := W) (fun j ⟨a, ha, e2⟩ => by rw [e2]; exact TR.out.wp a ha)) (fun _ _ h => h))
      subst hpA
      clear hak he d0 d1
      go_wp2
      go_roundw
      case rel => exact ⟨k + 1, by omega, by go_num, HT4.out, HK4.out⟩
      case measure => simp [intOf]; omega
    · obtain rfl : k = m := by omega
      go_wp2
      go_ret
      have e1 : (againK lp k).map (·.v) = s.P.map PV.again := by rw [HM.out, againK_all, again_v, HT.out.pv]
      have e2 : ({ s7 with P := (againK lp k).map (·.v) } : TS) = s.rekeyed f c := by rw [HS7.out, e1, HKF.out]; rfl
      rw [← e2]
      exact ⟨rfl, W, R, ⟨_, _, _, _, _, _, _, _, TR.out⟩, fun _ h => .inl h, fun _ h => .inl h, KR.out⟩
end Go.Proofs.YtiffminhlimajaaGreat
namespace Go.Proofs.YtiffminhlimajaaGreat
open Go.RowKit Go.ChangeShapes Go.WideShapes Go.ChangeAt
set_option linter.unusedVariables false
attribute [local go_sem ↓] Go.wp_at_zero Go.wp_at_succ

/-- a step -/
structure SV where
  kind : Int
  now : Int
  cnt : Int
  A : Option Addr
  n : Nat
  c : Nat
  z : Nat → Int
  key : Nat → Int
  code : Nat → Int
def SV.cell (s : SV) (j : Nat) : Value := if j = 0 then .int .i64 s.kind else if j = 1 then .int .i64 s.now else if j = 2 then .int .u32 s.cnt else if j = 3 then .slice s.A s.n s.c else if j < 20 then .int .u8 (s.key (j - 4)) else .int .u8 (s.code (j - 20))
structure SVOk (w : World) (s : SV) : Prop where
  knd : -9223372036854775808 ≤ s.kind ∧ s.kind ≤ 9223372036854775807
  now : -9223372036854775808 ≤ s.now ∧ s.now ≤ 9223372036854775807
  cnt : 0 ≤ s.cnt ∧ s.cnt < 4294967296
  mx : s.n ≤ maxLen
  cap : s.n ≤ s.c
  byte : ∀ j, j < s.n → 0 ≤ s.z j ∧ s.z j < 256
  key : ∀ j, j < 16 → 0 ≤ s.key j ∧ s.key j < 256
  code : ∀ j, j < 16 → 0 ≤ s.code j ∧ s.code j < 256
  row : Row w w.heap.size s.A s.n (fun j => .int .u8 (s.z j))
theorem SVOk.below {w w' : World} {s : SV} (h : SVOk w s) (hb : Below w.heap.size w w') : SVOk w' s := ⟨h.knd, h.now, h.cnt, h.mx, h.cap, h.byte, h.key, h.code, h.row.next hb⟩
/-- a slice of m steps -/
structure Steps (w : World) (A : Option Addr) (m : Nat) (S : Nat → SV) : Prop where
  at_ : m ≠ 0 → ∃ lb lo, A = some ⟨lb, lo, none⟩ ∧ lb < w.heap.size ∧ ∀ k, k < m → ∀ j, j < 36 → w.cell? ⟨lb, lo + k * 36 + j, none⟩ = some ((S k).cell j)
  ok : ∀ k, k < m → SVOk w (S k)
theorem Steps.below {w w' : World} {A : Option Addr} {m : Nat} {S : Nat → SV} (h : Steps w A m S) (hb : Below w.heap.size w w') : Steps w' A m S :=
  ⟨fun hm => by
    obtain ⟨lb, lo, e, hlt, hc⟩ := h.at_ hm
    exact ⟨lb, lo, e, Nat.lt_of_lt_of_le hlt hb.size, fun k hk j hj => (hb.cell (p := ⟨lb, lo + k * 36 + j, none⟩) hlt).trans (hc k hk j hj)⟩, fun k hk => (h.ok k hk).below hb⟩
section
variable {H : Type} {enc : TypeId × Value → H} {w : World} {base : Nat} {spare : Nat → Bool} {held : Bool}
theorem open_bytesR {fuel : Nat} {v : Value} {x : DataW H × List MemPlace} (h : DataW.trod enc Tryz.prog w base spare held fuel 27 [v] = some x) (hsp : ∀ b, spare b = true) :
    ∃ a len cap zs, v = .slice a len cap ∧ IsRow .u8 w a len cap zs := by
  rcases open_ints Tryz.underlying27 Tryz.underlying5 (by kernel_rfl) h with ⟨hcs, _⟩ | ⟨x, l, c, zs, hcs, _, hl, hm, hz, _, hcell, hwz⟩
  · simp at hcs
    subst hcs
    exact ⟨none, 0, 0, [], rfl, .inl ⟨rfl, rfl, rfl, rfl⟩⟩
  · simp at hcs
    subst hcs
    rw [if_pos (hsp _)] at hz
    exact ⟨some x, l, c, zs, rfl, .inr ⟨x, rfl, hl, hm, hz, hcell, hwz⟩⟩
theorem open_step {fuel : Nat} {cs : List Value} {x : DataW H × List MemPlace} (h : DataW.trod enc Tryz.prog w base spare held fuel 65 cs = some x) (hsp : ∀ b, spare b = true) : ∃ s : SV, (∀ j, j < 36 → cs[j]? = some (s.cell j)) ∧ SVOk w s := by
  obtain ⟨xs, n, _, _, hlc, hlen, hg⟩ := DataW.trod_struct Tryz.underlying65 h
  have c3 : Tryz.prog.cellsOf 3 = 1 := by kernel_rfl
  have c26 : Tryz.prog.cellsOf 26 = 1 := by kernel_rfl
  have c27 : Tryz.prog.cellsOf 27 = 1 := by kernel_rfl
  have c16 : Tryz.prog.cellsOf 23 = 16 := by kernel_rfl
  have hc36 : Tryz.prog.cellsOf 65 = 36 := by kernel_rfl
  rw [hc36] at hlc
  have hx6 : xs.length = 6 := hlen
  have keyi : ∀ (i o : Nat) (k : IntKind) (ty : TypeId), Tryz.prog.underlying ty = some (.int k) → i < 6 → DataW.trod enc Tryz.prog w base spare held n ty ((cs.drop o).take 1) = xs[i]? → ∃ a, cs[o]? = some (Value.int k a) ∧ (Lit.int k a).wf = true := by
    intro i o k ty hu hi h1
    rw [List.getElem?_eq_getElem (by omega)] at h1
    obtain ⟨a, e, _, hw⟩ := DataW.trod_int hu h1
    refine ⟨a, ?_, hw⟩
    have h2 := congrArg List.head? e
    simp [List.head?_take] at h2
    exact h2
  have keya : ∀ (i o : Nat), i < 6 → DataW.trod enc Tryz.prog w base spare held n 23 ((cs.drop o).take 16) = xs[i]? → ∃ f : Nat → Int, (∀ j, j < 16 → cs[o + j]? = some (.int .u8 (f j))) ∧ ∀ j, j < 16 → 0 ≤ f j ∧ f j < 256 := by
    intro i o hi h1
    rw [List.getElem?_eq_getElem (by omega)] at h1
    obtain ⟨f, e, hb⟩ := open_b16 h1
    refine ⟨f, fun j hj => ?_, hb⟩
    have := e j hj
    rwa [List.getElem?_take, if_pos hj, List.getElem?_drop] at this
  have g0 : DataW.trod enc Tryz.prog w base spare held n 3 ((cs.drop 0).take (Tryz.prog.cellsOf 3)) = xs[0]? := hg 0 _ rfl
  have g1 : DataW.trod enc Tryz.prog w base spare held n 3 ((cs.drop 1).take (Tryz.prog.cellsOf 3)) = xs[1]? := hg 1 _ rfl
  have g2 : DataW.trod enc Tryz.prog w base spare held n 26 ((cs.drop 2).take (Tryz.prog.cellsOf 26)) = xs[2]? := hg 2 _ rfl
  have g3 : DataW.trod enc Tryz.prog w base spare held n 27 ((cs.drop 3).take (Tryz.prog.cellsOf 27)) = xs[3]? := hg 3 _ rfl
  have g4 : DataW.trod enc Tryz.prog w base spare held n 23 ((cs.drop 4).take (Tryz.prog.cellsOf 23)) = xs[4]? := hg 4 _ rfl
  have g5 : DataW.trod enc Tryz.prog w base spare held n 23 ((cs.drop 20).take (Tryz.prog.cellsOf 23)) = xs[5]? := hg 5 _ rfl
  rw [c3] at g0 g1
  rw [c26] at g2
  rw [c27] at g3
  rw [c16] at g4 g5
  obtain ⟨a0, e0, w0⟩ := keyi 0 0 .i64 _ Tryz.underlying3 (by decide) g0
  obtain ⟨a1, e1, w1⟩ := keyi 1 1 .i64 _ Tryz.underlying3 (by decide) g1
  obtain ⟨a2, e2, w2⟩ := keyi 2 2 .u32 _ Tryz.underlying26 (by decide) g2
  obtain ⟨f4, e4, r4⟩ := keya 4 4 (by decide) g4
  obtain ⟨f5, e5, r5⟩ := keya 5 20 (by decide) g5
  obtain ⟨v3, e3⟩ : ∃ v, cs[3]? = some v := ⟨cs[3], List.getElem?_eq_getElem (by omega)⟩
  have h3 : (cs.drop 3).take 1 = [v3] := by
    rw [List.drop_eq_getElem_cons (by omega), List.take_succ_cons, List.take_zero]
    rw [List.getElem?_eq_getElem (by omega)] at e3
    rw [Option.some.inj e3]
  rw [h3, List.getElem?_eq_getElem (by omega)] at g3
  obtain ⟨A, len, cap, zs, rfl, hr⟩ := open_bytesR g3 hsp
  have b0 := bounds_i64 w0
  have b1 := bounds_i64 w1
  have b2 := bounds_u32 w2
  have hu := isRow_u8 hr
  have hb0 : -9223372036854775808 ≤ a0 ∧ a0 ≤ 9223372036854775807 := by omega
  have hb1 : -9223372036854775808 ≤ a1 ∧ a1 ≤ 9223372036854775807 := by omega
  have hb2 : 0 ≤ a2 ∧ a2 < 4294967296 := by omega
  have hmx : len ≤ maxLen := by rcases hr with ⟨_, h, _⟩ | ⟨_, _, h1, h2, _⟩ <;> omega
  refine ⟨⟨a0, a1, a2, A, len, cap, fun j => zs.getD j 0, f4, f5⟩, fun j hj => ?_, ⟨hb0, hb1, hb2, hmx, hu.1, hu.2, r4, r5, isRow_row hr⟩⟩
  unfold SV.cell
  rcases (by omega : j = 0 ∨ j = 1 ∨ j = 2 ∨ j = 3 ∨ (4 ≤ j ∧ j < 20) ∨ (20 ≤ j ∧ j < 36)) with rfl | rfl | rfl | rfl | hj2 | hj2
  · exact e0
  · exact e1
  · exact e2
  · exact e3
  · rw [if_neg (by omega), if_neg (by omega), if_neg (by omega), if_neg (by omega), if_pos (by omega)]
    have := e4 (j - 4) (by omega)
    rwa [show 4 + (j - 4) = j by omega] at this
  · rw [if_neg (by omega), if_neg (by omega), if_neg (by omega), if_neg (by omega), if_neg (by omega)]
    have := e5 (j - 20) (by omega)
    rwa [show 20 + (j - 20) = j by omega] at this
theorem open_steps {fuel : Nat} {a : Option Addr} {len cap : Nat} {x : DataW H × List MemPlace}
    (h : DataW.trod enc Tryz.prog w base spare held fuel 61 [.slice a len cap] = some x) (hsp : ∀ b, spare b = true) :
    len ≤ maxLen ∧ len ≤ cap ∧ ∃ S, Steps w a len S := by
  rcases Go.Deep.open_slice Tryz.underlying61 h with ⟨hcs, _⟩ | ⟨ad, l, c, m, n, D, Pl, hcs, _, hl, hm, hmm, _, hf⟩
  · simp at hcs
    obtain ⟨rfl, rfl, rfl⟩ := hcs
    exact ⟨by unfold maxLen; omega, Nat.le_refl _, fun _ => ⟨0, 0, 0, none, 0, 0, fun _ => 0, fun _ => 0, fun _ => 0⟩, ⟨fun h => absurd rfl h, fun k hk => by omega⟩⟩
  · simp at hcs
    obtain ⟨rfl, rfl, rfl⟩ := hcs
    rw [if_pos (hsp _)] at hmm
    subst hmm
    have hc36 : Tryz.prog.cellsOf 65 = 36 := by kernel_rfl
    rw [hc36] at hf
    have h0 : ∀ i, ∃ s : SV, i < len → (∀ j, j < 36 → w.cell? ((ad.add (i * 36)).add j) = some (s.cell j)) ∧ SVOk w s := fun i => by
      by_cases hi : i < len
      · obtain ⟨cs', h1, h2⟩ := hf i (by omega)
        obtain ⟨s, hs, hok⟩ := open_step h2 hsp
        refine ⟨s, fun _ => ⟨fun j hj => ?_, hok⟩⟩
        obtain ⟨_, hlen, hcell⟩ := World.cells?_some h1
        rw [hcell j hj, hs j hj]
      · exact ⟨⟨0, 0, 0, none, 0, 0, fun _ => 0, fun _ => 0, fun _ => 0⟩, fun h => absurd h hi⟩
    obtain ⟨S, hS⟩ := Classical.axiomOfChoice h0
    refine ⟨by omega, hl, S, ⟨fun hn => ?_, fun k hk => (hS k hk).2⟩⟩
    obtain ⟨b, off, spot⟩ := ad
    have c0 := (hS 0 (by omega)).1 0 (by decide)
    have hspot : spot = none := by simpa [Addr.add] using World.cell?_spot c0
    subst hspot
    have hadd : ∀ o j, (⟨b, o, none⟩ : Addr).add j = ⟨b, o + j, none⟩ := fun o j => by unfold Addr.add; split <;> simp_all
    refine ⟨b, off, rfl, ?_, fun k hk j hj => ?_⟩
    · rw [hadd, hadd] at c0
      exact World.block_lt_of_cell? w _ c0
    · have := (hS k hk).1 j hj
      rw [hadd, hadd] at this
      exact this
end
/-- what Few counts -/
def fewN (S : Nat → SV) : Nat → Int
  | 0 => 0
  | k + 1 => wrap64 (fewN S k + (S k).n)
def fewB (m : Nat) (most : Nat) (S : Nat → SV) : Bool := decide (m ≤ most) && decide (fewN S (min m (most + 1)) ≤ 9001)
theorem fewN_range (S : Nat → SV) : ∀ k, -9223372036854775808 ≤ fewN S k ∧ fewN S k ≤ 9223372036854775807
  | 0 => by unfold fewN; omega
  | k + 1 => by unfold fewN wrap64; omega
set_option maxRecDepth 100000 in
set_option maxHeartbeats 1600000 in
theorem few45_ok (A : Option Addr) (m c most : Nat) (S : Nat → SV) (hmost : most ≤ 1000) (w : World) (h : Steps w A m S) (hm : m ≤ maxLen) :
    Calls Tryz.prog 28 #[.slice A m c, .int .i64 (most : Int)] w fun e w' => e = .returned (.bool (fewB m most S)) ∧ Below w.heap.size w w' := by
  have H := Lib.hid h
  unfold maxLen at hm
  clear h
  go_enter Tryz.func28, Tryz.ntmps28
  go_wp2
  go_loopw [5, 6] (fun v5 v6 wr => ∃ k : Nat, k ≤ m ∧ k ≤ most + 1 ∧ v6 = .int .i64 k ∧ v5 = .int .i64 (fewN S k) ∧ Below w.heap.size w wr) (fun _ v6 _ => m - (intOf v6).toNat)
  case atStart => exact ⟨0, by omega, by omega, rfl, rfl, Below.refl _ _⟩
  case round =>
    obtain ⟨k, hk, hk2, rfl, rfl, hb⟩ := hrel
    have HB := Lib.hid hb
    clear hb
    have k0 : (0 : Int) ≤ (k : Int) := by omega
    have k9 : (k : Int) ≤ 1001 := by omega
    have hr := fewN_range S k
    have HN : Hid (fewN S (k + 1) = wrap64 (fewN S k + (S k).n)) := Lib.hid rfl
    by_cases hgo : k < m ∧ k ≤ most
    · have d1 : decide ((k : Int) < (m : Int)) = true := decide_eq_true (by omega)
      have d2 : decide ((k : Int) ≤ (most : Int)) = true := decide_eq_true (by omega)
      have k1 : (k : Int) < (m : Int) := by omega
      obtain ⟨lb, lo, hA, hbl, hc⟩ := (H.out.below HB.out).at_ (by omega)
      have c3 : wr.cell? ⟨lb, lo + k * 36 + 3, none⟩ = some (.slice (S k).A (S k).n (S k).c) := hc k hgo.1 3 (by decide)
      subst hA
      clear hc
      go_wp2
      go_roundw
      case rel => exact ⟨k + 1, by omega, by omega, by go_num, by rw [HN.out], HB.out⟩
      case measure => simp [intOf]; omega
    · have hx : k = min m (most + 1) := by omega
      have HF : Hid (fewB m most S = (decide (m ≤ most) && decide (fewN S k ≤ 9001))) := Lib.hid (by unfold fewB; rw [← hx])
      clear hx
      by_cases hm2 : m ≤ most
      · have d1 : decide ((k : Int) < (m : Int)) = false := decide_eq_false (by omega)
        have d3 : decide ((m : Int) ≤ (most : Int)) = true := decide_eq_true (by omega)
        rw [decide_eq_true hm2, Bool.true_and] at HF
        go_wp2
        go_ret
        exact ⟨ret_bool (by rw [HF.out]), HB.out⟩
      · have d3 : decide ((m : Int) ≤ (most : Int)) = false := decide_eq_false (by omega)
        have hkm : k = most + 1 := by omega
        have d2 : decide ((k : Int) ≤ (most : Int)) = false := decide_eq_false (by omega)
        clear hkm
        rw [decide_eq_false hm2, Bool.false_and] at HF
        rcases Nat.lt_or_ge k m with hc | hc
        · have d1 : decide ((k : Int) < (m : Int)) = true := decide_eq_true (by omega)
          go_wp2
          go_ret
          exact ⟨ret_bool (by rw [HF.out]), HB.out⟩
        · have d1 : decide ((k : Int) < (m : Int)) = false := decide_eq_false (by omega)
          go_wp2
          go_ret
          exact ⟨ret_bool (by rw [HF.out]), HB.out⟩
end Go.Proofs.YtiffminhlimajaaGreat
namespace Go.Proofs.YtiffminhlimajaaGreat
open Go.RowKit
set_option linter.unusedVariables false
attribute [local go_sem ↓] Go.wp_at_zero Go.wp_at_succ

set_option maxRecDepth 100000 in
set_option maxHeartbeats 1600000 in
theorem tsubmit_badA (g : Nat) (s : TS) (W R : Nat → Prop) (w : World) (h : TxI w g s W R) (hf : s.Fine) (t : Int) (ht1 : -9223372036854775808 ≤ t) (ht2 : t ≤ 9223372036854775807) (A : Option Addr) (n c : Nat) (z : Nat → Int) (ha : ArgB w W A n z) (hbad : 1073741824 ≤ t ∨ n = 0 ∨ 9000 < n) (hn9 : n ≤ maxLen) :
    Calls Tryz.prog 22 #[.pointer (some ⟨g, 0, none⟩), .int .i64 t, .slice A n c] w fun e w' => e = .returned (.int .i64 (s.submit t n z).1) ∧ TxO W R w w' g (s.submit t n z).2 := by
  unfold TS.submit
  unfold maxLen at hn9
  have hl3 : (n : Int) ≤ 9223372036854775807 := by omega
  clear hn9
  by_cases ct : 1073741824 ≤ t
  · rw [if_pos ct]
    have HTK := Lib.hid (ttick_ok g s W R w h hf t ht1 ht2)
    have HA := Lib.hid ha
    have HF := Lib.hid hf
    have n0 : (0 : Int) ≤ (n : Int) := by omega
    clear h hf ha
    go_enter Tryz.func22, Tryz.ntmps22
    rw [if_pos ct, if_pos ct] at HTK
    go_wp2_with (go_at_call 48; refine (HTK.out).mono ?_; rintro e w1 ⟨rfl, hO⟩; have HO := Lib.hid hO; clear hO)
    go_ret
    exact ⟨rfl, HO.out⟩
  rw [if_neg ct]
  by_cases cn : n = 0
  · rw [if_pos cn]
    have hz : (n : Int) = 0 := by omega
    have HTK := Lib.hid (ttick_ok g s W R w h hf t ht1 ht2)
    have HA := Lib.hid ha
    have HF := Lib.hid hf
    have n0 : (0 : Int) ≤ (n : Int) := by omega
    clear h hf ha
    go_enter Tryz.func22, Tryz.ntmps22
    rw [if_neg ct, if_neg ct] at HTK
    go_wp2_with (go_at_call 48; refine (HTK.out).mono ?_; rintro e w1 ⟨rfl, hO⟩; have HO := Lib.hid hO; clear hO)
    go_ret
    exact ⟨rfl, HO.out⟩
  rw [if_neg cn]
  have cl : 9000 < n := by omega
  rw [if_pos cl]
  have HTK := Lib.hid (ttick_ok g s W R w h hf t ht1 ht2)
  have HA := Lib.hid ha
  have HF := Lib.hid hf
  have n0 : (0 : Int) ≤ (n : Int) := by omega
  clear h hf ha
  go_enter Tryz.func22, Tryz.ntmps22
  rw [if_neg ct, if_neg ct] at HTK
  have hl1 : ¬ ((n : Int) = 0) := by omega
  have hl2 : (9000 : Int) < (n : Int) := by omega
  go_wp2_with (go_at_call 48; refine (HTK.out).mono ?_; rintro e w1 ⟨rfl, hO⟩; have HO := Lib.hid hO; clear hO)
  go_ret
  exact ⟨rfl, HO.out⟩
theorem tsubmit_any (g : Nat) (s : TS) (W R : Nat → Prop) (w : World) (h : TxI w g s W R) (hf : s.Fine) (hcm : s.C.cm = false) (hql : s.Q.length ≤ 1000000) (t : Int) (ht1 : -9223372036854775808 ≤ t) (ht2 : t ≤ 9223372036854775807) (A : Option Addr) (n c : Nat) (z : Nat → Int) (ha : ArgB w W A n z) (hn9 : n ≤ maxLen) :
    Calls Tryz.prog 22 #[.pointer (some ⟨g, 0, none⟩), .int .i64 t, .slice A n c] w fun e w' => e = .returned (.int .i64 (s.submit t n z).1) ∧ TxO W R w w' g (s.submit t n z).2 := by
  by_cases h9 : n ≤ 1000000
  · exact tsubmit_ok g s W R w h hf hcm hql t ht1 ht2 A n c z ha h9
  · exact tsubmit_badA g s W R w h hf t ht1 ht2 A n c z ha (.inr (.inr (by omega))) hn9
/-- the pending packet of a COUNT -/
def firstCt (x : Int) : List PV → Option Nat
  | [] => none
  | p :: r => if p.ct = x then some 0 else (firstCt x r).map (· + 1)
theorem firstCt_some {x : Int} : ∀ {l : List PV} {i : Nat}, firstCt x l = some i → ∃ e, l[i]? = some e ∧ e.ct = x ∧ ∀ j, j < i → ∀ e, l[j]? = some e → e.ct ≠ x
  | [], i, h => by cases h
  | q :: r, i, h => by
    unfold firstCt at h
    split at h
    · cases h
      exact ⟨q, rfl, by assumption, fun j hj => absurd hj (by omega)⟩
    · cases hr : firstCt x r with
      | none => rw [hr] at h; cases h
      | some k =>
        rw [hr] at h
        simp only [Option.map_some, Option.some.injEq] at h
        subst h
        obtain ⟨e, h1, h2, h3⟩ := firstCt_some hr
        refine ⟨e, by simpa using h1, h2, fun j hj e' he => ?_⟩
        cases j with
        | zero =>
          have : q = e' := by simpa using he
          subst this
          assumption
        | succ j => exact h3 j (by omega) e' (by simpa using he)
theorem firstCt_none {x : Int} : ∀ {l : List PV}, firstCt x l = none → ∀ e, e ∈ l → e.ct ≠ x
  | [], _, e, he => by cases he
  | q :: r, h, e, he => by
    unfold firstCt at h
    split at h
    · cases h
    · have hr : firstCt x r = none := by
        cases hx : firstCt x r with
        | none => rfl
        | some k => rw [hx] at h; cases h
      rcases List.mem_cons.1 he with rfl | he
      · assumption
      · exact firstCt_none hr e he
def TS.confirmed (s : TS) (x : Int) : Int × TS := match firstCt x s.P with | some i => (0, { s with P := s.P.eraseIdx i }) | none => (10, s)
def TS.rekey (s : TS) (U : List (Nat → Int)) (f c : Nat → Int) : Int × TS := if hasKey f U = true then (461, s) else (0, s.rekeyed f c)
section
variable {w0 w w' : World} {g : Nat} {s : TS} {N : Nat → Prop}
theorem SoloN.callO (h : SoloN w0 w g s N) : ∃ W R, TxI w g s W R ∧ (∀ k, N k → ¬ W k) ∧ (∀ k, W k → w0.heap.size ≤ k) ∧ ∀ w' s', TxO W R w w' g s' → SoloN w0 w' g s' N ∧ ∀ k, N k → w'.heap[k]? = w.heap[k]? := by
  obtain ⟨W, R, h1, h2, h3, h4⟩ := h
  have hh : SoloN w0 w g s N := ⟨W, R, h1, h2, h3, h4⟩
  refine ⟨W, R, h1, fun k hk => (h4 k hk).2.2.1, h2, fun w' s' ⟨W', R', hI, hW, hR, hK⟩ => ?_⟩
  have hs := h3.size
  refine ⟨⟨W', R', hI, fun k hk => ?_, KeepF.below h3 hK (fun k hk => h2 k hk) hs, fun k hk => ?_⟩, fun k hk => hK.block k (h4 k hk).2.1 (h4 k hk).2.2.1⟩
  · rcases hW k hk with h | h
    · exact h2 k h
    · omega
  · have h5 := h4 k hk
    refine ⟨h5.1, Nat.lt_of_lt_of_le h5.2.1 hK.size, fun hw => ?_, fun hr => ?_⟩
    · rcases hW k hw with h | h
      · exact h5.2.2.1 h
      · omega
    · rcases hR k hr with h | h
      · exact h5.2.2.2 h
      · omega
theorem solon_submitA (h : SoloN w0 w g s N) (hf : s.Fine) (hcm : s.C.cm = false) (hql : s.Q.length ≤ 1000000) (t : Int) (ht1 : -9223372036854775808 ≤ t) (ht2 : t ≤ 9223372036854775807) (A : Option Addr) (n c : Nat) (z : Nat → Int) (hr : Row w w.heap.size A n (fun j => .int .u8 (z j))) (hz : ∀ j, j < n → 0 ≤ z j ∧ z j < 256) (hA : ∀ a, A = some a → n ≠ 0 → N a.block ∨ a.block < w0.heap.size) (hn9 : n ≤ maxLen) :
    Calls Tryz.prog 22 #[.pointer (some ⟨g, 0, none⟩), .int .i64 t, .slice A n c] w fun e w' => e = .returned (.int .i64 (s.submit t n z).1) ∧ SoloN w0 w' g (s.submit t n z).2 N ∧ ∀ k, N k → w'.heap[k]? = w.heap[k]? := by
  obtain ⟨W, R, h1, h4, h2, hc⟩ := h.callO
  refine (tsubmit_any g s W R w h1 hf hcm hql t ht1 ht2 A n c z ⟨hr, hz, fun a e hn hw => ?_⟩ hn9).mono fun e w' ⟨he, hO⟩ => ⟨he, hc w' _ hO⟩
  rcases hA a e hn with h5 | h5
  · exact h4 _ h5 hw
  · have := h2 _ hw; omega
theorem solon_confirm (h : SoloN w0 w g s N) (x : Int) :
    Calls Tryz.prog 20 #[.pointer (some ⟨g, 0, none⟩), .int .u32 x] w fun e w' => e = .returned (.int .i64 (s.confirmed x).1) ∧ SoloN w0 w' g (s.confirmed x).2 N ∧ ∀ k, N k → w'.heap[k]? = w.heap[k]? := by
  obtain ⟨W, R, h1, h4, h2, hc⟩ := h.callO
  unfold TS.confirmed
  cases hx : firstCt x s.P with
  | none =>
    refine (tconfirm_no g s W R w h1 x (firstCt_none hx)).mono fun e w' ⟨he, hB⟩ => ⟨he, hc w' _ (TxO.same h1 hB)⟩
  | some i =>
    obtain ⟨e0, he, hct, hno⟩ := firstCt_some hx
    exact (tconfirm_ok g s W R w h1 x i e0 he hct hno).mono fun e w' ⟨he, hO⟩ => ⟨he, hc w' _ hO⟩
theorem solon_rekey (h : SoloN w0 w g s N) (U : List (Nat → Int)) (hU : s.used = U.map kArr) (hco : CompOk s.comp) (hpl : s.P.length ≤ 1000000) (f c : Nat → Int) :
    Calls Tryz.prog 29 #[.pointer (some ⟨g, 0, none⟩), .agg (kArr f), .agg (kArr c)] w fun e w' => e = .returned (.int .i64 (s.rekey U f c).1) ∧ SoloN w0 w' g (s.rekey U f c).2 N ∧ ∀ k, N k → w'.heap[k]? = w.heap[k]? := by
  obtain ⟨W, R, h1, h4, h2, hc⟩ := h.callO
  unfold TS.rekey
  by_cases hk : hasKey f U = true
  · rw [if_pos hk]
    exact (trekey_used g s W R w h1 U hU f c hk).mono fun e w' ⟨he, hB⟩ => ⟨he, hc w' _ (TxO.same h1 hB)⟩
  · rw [if_neg hk]
    exact (trekey_new g s W R w h1 U hU hco hpl f c (by simpa using hk)).mono fun e w' ⟨he, hO⟩ => ⟨he, hc w' _ hO⟩
end
/-! PdcptxUnique in plain Lean -/
theorem keyEq_symm {f g : Nat → Int} (h : keyEq f g = true) : keyEq g f = true := keyEq_iff.2 fun j hj => (keyEq_iff.1 h j hj).symm
theorem keyEq_trans {f g h : Nat → Int} (h1 : keyEq f g = true) (h2 : keyEq g h = true) : keyEq f h = true := keyEq_iff.2 fun j hj => (keyEq_iff.1 h1 j hj).trans (keyEq_iff.1 h2 j hj)
theorem hasKey_of {f g : Nat → Int} {U : List (Nat → Int)} (h : hasKey f U = true) (e : keyEq f g = true) : hasKey g U = true := by
  obtain ⟨x, hx, hfx⟩ := List.any_eq_true.1 h
  exact List.any_eq_true.2 ⟨x, hx, keyEq_trans (keyEq_symm e) hfx⟩
theorem hasKey_more {f : Nat → Int} {U V : List (Nat → Int)} (h : hasKey f U = true) : hasKey f (U ++ V) = true := by
  obtain ⟨x, hx, hfx⟩ := List.any_eq_true.1 h
  exact List.any_eq_true.2 ⟨x, List.mem_append_left _ hx, hfx⟩
structure UQ (s : TS) (U : List (Nat → Int)) (sent : List ((Nat → Int) × Nat)) (K i : Nat) : Prop where
  used : s.used = U.map kArr
  comp : CompOk s.comp
  fine : s.Fine
  now0 : 0 ≤ s.now
  cm : s.C.cm = false
  next : s.next = (K : Int)
  Ki : K ≤ i
  cur : hasKey s.C.key U = true
  old : ∀ x, x ∈ sent → hasKey x.1 U = true
  no : ∀ x, x ∈ sent → keyEq x.1 s.C.key = true → x.2 < K ∧ ∀ p, p ∈ s.P → p.ct = (x.2 : Int) → p.rep = false
  nd : s.P.Pairwise (fun a b => a.ct ≠ b.ct)
  lt : ∀ p, p ∈ s.P → 0 ≤ p.ct ∧ p.ct < (K : Int)
  ql : s.Q.length ≤ i
  pl : s.P.length ≤ i
  sl : sent.length ≤ i
section
variable {s : TS} {U : List (Nat → Int)} {sent : List ((Nat → Int) × Nat)} {K i : Nat}
theorem UQ.step (h : UQ s U sent K i) : UQ s U sent K (i + 1) := { h with Ki := by have := h.Ki; omega, ql := by have := h.ql; omega, pl := by have := h.pl; omega, sl := by have := h.sl; omega }
theorem UQ.tick (h : UQ s U sent K i) (t : Int) : UQ (s.tick t) U sent K i := { used := h.used, comp := h.comp, fine := h.fine.tick t, now0 := by show 0 ≤ max s.now t; have := h.now0; omega, cm := h.cm, next := h.next, Ki := h.Ki, cur := h.cur, old := h.old, no := h.no, nd := h.nd, lt := h.lt, ql := Nat.le_trans (TS.tick_len s t) h.ql, pl := h.pl, sl := h.sl }
theorem UQ.submit (h : UQ s U sent K i) (t : Int) (n : Nat) (z : Nat → Int) : UQ (s.submit t n z).2 U sent K (i + 1) := by
  have hf := h.fine.submit h.now0 t n z
  have ht := h.tick t
  unfold TS.submit at hf ⊢
  split
  · exact h.step
  · rw [if_neg (by assumption)] at hf
    split
    · exact ht.step
    · rw [if_neg (by assumption)] at hf
      split
      · exact ht.step
      · rw [if_neg (by assumption)] at hf
        exact { ht.step with fine := hf, ql := by show ((s.tick t).Q ++ [_]).length ≤ i + 1; rw [List.length_append]; have := ht.ql; simp; omega }
theorem UQ.confirm (h : UQ s U sent K i) (x : Int) : UQ (s.confirmed x).2 U sent K (i + 1) := by
  unfold TS.confirmed
  cases hx : firstCt x s.P with
  | none => exact h.step
  | some j =>
    have hsub := List.eraseIdx_sublist (l := s.P) j
    exact { h.step with fine := ⟨h.fine.ok, h.fine.val, h.fine.at_⟩, no := fun y hy e => ⟨(h.no y hy e).1, fun p hp => (h.no y hy e).2 p (hsub.subset hp)⟩, nd := h.nd.sublist hsub, lt := fun p hp => h.lt p (hsub.subset hp), pl := by have := hsub.length_le; have := h.pl; show (s.P.eraseIdx j).length ≤ i + 1; omega }
theorem UQ.rekey (h : UQ s U sent K i) (f c : Nat → Int) (hf : ∀ j, j < 16 → 0 ≤ f j ∧ f j < 256) (hc : ∀ j, j < 16 → 0 ≤ c j ∧ c j < 256) : ∃ U', UQ (s.rekey U f c).2 U' sent K (i + 1) := by
  unfold TS.rekey
  by_cases hk : hasKey f U = true
  · rw [if_pos hk]
    exact ⟨U, h.step⟩
  · rw [if_neg hk]
    have hk2 : hasKey f U = false := by simpa using hk
    refine ⟨U ++ [f], { h.step with used := ?_, comp := cNew_ok, fine := ⟨⟨hf, hc⟩, h.fine.val, h.fine.at_⟩, cur := ?_, old := fun x hx => hasKey_more (h.old x hx), no := fun x hx e => ?_, nd := ?_, lt := fun p hp => ?_, pl := ?_ }⟩
    · show s.used ++ [kArr f] = (U ++ [f]).map kArr
      rw [h.used, List.map_append]
      rfl
    · exact List.any_eq_true.2 ⟨f, by simp, keyEq_refl f⟩
    · have := hasKey_of (h.old x hx) e
      exact absurd (show hasKey f U = true from this) hk
    · show (s.P.map PV.again).Pairwise _
      exact List.pairwise_map.2 h.nd
    · obtain ⟨q, hq, rfl⟩ := List.mem_map.1 hp
      exact h.lt q hq
    · show (s.P.map PV.again).length ≤ i + 1
      rw [List.length_map]
      have := h.pl
      omega
theorem UQ.send_err (h : UQ s U sent K i) (t : Int) (he : (s.send t).e ≠ 0) : UQ (s.send t).s U sent K (i + 1) := by
  unfold TS.send at he ⊢
  split
  · exact h.step
  · rw [if_neg (by assumption)] at he
    cases hr : firstRep s.P with
    | some x => rw [hr] at he; exact absurd rfl he
    | none =>
      rw [hr] at he
      dsimp only at he ⊢
      cases hq : (s.tick t).Q with
      | nil => exact (h.tick t).step
      | cons q r =>
        rw [hq] at he
        dsimp only at he ⊢
        split
        · exact (h.tick t).step
        · rw [if_neg (by assumption)] at he
          split
          · exact (h.tick t).step
          · rw [if_neg (by assumption)] at he
            exact absurd rfl he
theorem pw_set {l : List PV} {j : Nat} {p q : PV} (h : l.Pairwise (fun a b => a.ct ≠ b.ct)) (hj : l[j]? = some p) (hq : q.ct = p.ct) : (l.set j q).Pairwise (fun a b => a.ct ≠ b.ct) := by
  have e : (l.set j q).map (·.ct) = l.map (·.ct) := by
    apply List.ext_getElem?
    intro k
    rw [List.getElem?_map, List.getElem?_map, List.getElem?_set]
    have hlt := (List.getElem?_eq_some_iff.1 hj).1
    by_cases hk : j = k
    · subst hk
      rw [if_pos rfl, if_pos hlt, hj]
      simp [hq]
    · rw [if_neg hk]
  have h1 : (l.map (·.ct)).Pairwise (· ≠ ·) := List.pairwise_map.2 h
  rw [← e] at h1
  exact List.pairwise_map.1 h1
theorem pw_ne {l : List PV} (h : l.Pairwise (fun a b => a.ct ≠ b.ct)) {j k : Nat} {p q : PV} (hj : l[j]? = some p) (hk : l[k]? = some q) (e : p.ct = q.ct) : j = k := by
  obtain ⟨h1, e1⟩ := List.getElem?_eq_some_iff.1 hj
  obtain ⟨h2, e2⟩ := List.getElem?_eq_some_iff.1 hk
  rcases Nat.lt_trichotomy j k with hlt | rfl | hlt
  · exact absurd (by rw [e1, e2]; exact e) (List.pairwise_iff_getElem.1 h j k h1 h2 hlt)
  · rfl
  · exact absurd (by rw [e1, e2]; exact e.symm) (List.pairwise_iff_getElem.1 h k j h2 h1 hlt)
theorem UQ.send_ok (h : UQ s U sent K i) (t : Int) (he : (s.send t).e = 0) : ∃ n : Nat, (s.send t).ct = (n : Int) ∧ n ≤ K ∧ (∀ x, x ∈ sent → ¬ (keyEq x.1 s.C.key = true ∧ x.2 = n)) ∧ (s.send t).s.C = s.C ∧ UQ (s.send t).s U (sent ++ [(s.C.key, n)]) (if n = K then K + 1 else K) (i + 1) := by
  have hf := h.fine.send t
  have ht := h.tick t
  unfold TS.send at he hf ⊢
  split
  · rw [if_pos (by assumption)] at he
    exact absurd he (by show ¬ (2 : Int) = 0; decide)
  · rw [if_neg (by assumption)] at he hf
    cases hr : firstRep s.P with
    | some x =>
      obtain ⟨j, p⟩ := x
      rw [hr] at he hf
      dsimp only at he hf ⊢
      obtain ⟨h1, h2, h3⟩ := firstRep_some hr
      have hp := List.mem_of_getElem? h1
      have hl := h.lt p hp
      refine ⟨p.ct.toNat, by omega, by omega, fun x hx ⟨e1, e2⟩ => ?_, rfl, ?_⟩
      · have := (h.no x hx e1).2 p hp (by omega)
        rw [h2] at this
        cases this
      · rw [if_neg (by omega)]
        refine { ht.step with fine := hf, old := fun x hx => ?_, no := fun x hx e => ?_, nd := pw_set h.nd h1 rfl, lt := fun q hq => ?_, pl := ?_, sl := ?_ }
        · rcases List.mem_append.1 hx with hx | hx
          · exact h.old x hx
          · rw [List.mem_singleton.1 hx]
            exact h.cur
        · rcases List.mem_append.1 hx with hx | hx
          · refine ⟨(h.no x hx e).1, fun q hq e2 => ?_⟩
            rcases List.mem_or_eq_of_mem_set hq with hq | hq
            · exact (h.no x hx e).2 q hq e2
            · rw [hq]
          · rw [List.mem_singleton.1 hx]
            refine ⟨by show p.ct.toNat < K; omega, fun q hq e2 => ?_⟩
            have e2 : q.ct = (p.ct.toNat : Int) := e2
            obtain ⟨k, hk⟩ := List.getElem?_of_mem hq
            rw [List.getElem?_set] at hk
            by_cases e3 : j = k
            · rw [if_pos e3, if_pos (List.getElem?_eq_some_iff.1 h1).1] at hk
              rw [← Option.some.inj hk]
            · rw [if_neg e3] at hk
              exact absurd (pw_ne h.nd h1 hk (by omega)) e3
        · rcases List.mem_or_eq_of_mem_set hq with hq | hq
          · exact h.lt q hq
          · rw [hq]; exact hl
        · show (s.P.set j _).length ≤ i + 1
          rw [List.length_set]
          have := h.pl
          omega
        · rw [List.length_append]
          have := h.sl
          simp
          omega
    | none =>
      rw [hr] at he hf
      dsimp only at he hf ⊢
      cases hq : (s.tick t).Q with
      | nil => rw [hq] at he; exact absurd he (by show ¬ (10 : Int) = 0; decide)
      | cons q r =>
        rw [hq] at he hf
        dsimp only at he hf ⊢
        split
        · rw [if_pos (by assumption)] at he
          exact absurd he (by show ¬ (460 : Int) = 0; decide)
        · rw [if_neg (by assumption)] at he hf
          split
          · rw [if_pos (by assumption)] at he
            exact absurd he (by show ¬ (7 : Int) = 0; decide)
          · rw [if_neg (by assumption)] at hf
            refine ⟨K, h.next, Nat.le_refl _, fun x hx ⟨e1, e2⟩ => ?_, rfl, ?_⟩
            · have := (h.no x hx e1).1; omega
            · rw [if_pos rfl]
              have hPl : ∀ p, p ∈ (if s.C.ac = true then s.P ++ [⟨s.next, q.n, q.z, false⟩] else s.P) → p ∈ s.P ∨ p = ⟨s.next, q.n, q.z, false⟩ := fun p hp => by
                split at hp
                · rcases List.mem_append.1 hp with hp | hp
                  · exact .inl hp
                  · exact .inr (List.mem_singleton.1 hp)
                · exact .inl hp
              refine { ht.step with fine := hf, next := ?_, Ki := by have := h.Ki; omega, old := fun x hx => ?_, no := fun x hx e => ?_, nd := ?_, lt := fun p hp => ?_, ql := ?_, pl := ?_, sl := ?_ }
              · show s.next + 1 = _
                rw [h.next]; omega
              · rcases List.mem_append.1 hx with hx | hx
                · exact h.old x hx
                · rw [List.mem_singleton.1 hx]
                  exact h.cur
              · rcases List.mem_append.1 hx with hx | hx
                · refine ⟨by have := (h.no x hx e).1; omega, fun p hp e2 => ?_⟩
                  rcases hPl p hp with hp | hp
                  · exact (h.no x hx e).2 p hp e2
                  · rw [hp]
                · rw [List.mem_singleton.1 hx]
                  refine ⟨by show K < K + 1; omega, fun p hp e2 => ?_⟩
                  rcases hPl p hp with hp | hp
                  · have := (h.lt p hp).2
                    have e2 : p.ct = (K : Int) := e2
                    omega
                  · rw [hp]
              · show (if s.C.ac = true then s.P ++ [_] else s.P).Pairwise _
                split
                · refine List.pairwise_append.2 ⟨h.nd, List.pairwise_singleton _ _, fun a ha b hb => ?_⟩
                  rw [List.mem_singleton.1 hb]
                  have := (h.lt a ha).2
                  rw [← h.next] at this
                  show a.ct ≠ s.next
                  omega
                · exact h.nd
              · rcases hPl p hp with hp | hp
                · have := h.lt p hp; omega
                · rw [hp]
                  show 0 ≤ s.next ∧ s.next < ((K + 1 : Nat) : Int)
                  rw [h.next]; omega
              · have := ht.ql
                rw [hq] at this
                simp at this
                show r.length ≤ i + 1
                omega
              · show (if s.C.ac = true then s.P ++ [_] else s.P).length ≤ i + 1
                have := h.pl
                split
                · rw [List.length_append]; simp; omega
                · omega
              · rw [List.length_append]
                have := h.sl
                simp
                omega
end
end Go.Proofs.YtiffminhlimajaaGreat
namespace Go.Proofs.YtiffminhlimajaaGreat
open Go.RowKit
set_option linter.unusedVariables false
attribute [local go_sem ↓] Go.wp_at_zero Go.wp_at_succ

/-- a key and a COUNT in memory -/
def uCells (x : (Nat → Int) × Nat) : List Value := [.int .u8 (x.1 0), .int .u8 (x.1 1), .int .u8 (x.1 2), .int .u8 (x.1 3), .int .u8 (x.1 4), .int .u8 (x.1 5), .int .u8 (x.1 6), .int .u8 (x.1 7), .int .u8 (x.1 8), .int .u8 (x.1 9), .int .u8 (x.1 10), .int .u8 (x.1 11), .int .u8 (x.1 12), .int .u8 (x.1 13), .int .u8 (x.1 14), .int .u8 (x.1 15), .int .u32 ((x.2 : Nat) : Int)]
theorem uCells_len (x : (Nat → Int) × Nat) : (uCells x).length = 17 := rfl
theorem uCells_key (x : (Nat → Int) × Nat) (j : Nat) (hj : j < 16) : (uCells x)[j]? = (kArr x.1).toList[j]? := by
  rcases (by omega : j = 0 ∨ j = 1 ∨ j = 2 ∨ j = 3 ∨ j = 4 ∨ j = 5 ∨ j = 6 ∨ j = 7 ∨ j = 8 ∨ j = 9 ∨ j = 10 ∨ j = 11 ∨ j = 12 ∨ j = 13 ∨ j = 14 ∨ j = 15) with rfl | rfl | rfl | rfl | rfl | rfl | rfl | rfl | rfl | rfl | rfl | rfl | rfl | rfl | rfl | rfl <;> rfl
theorem infoUsed : ∃ i : TypeInfo, Tryz.prog.info? 67 = some i ∧ i.zero = some (.agg #[.int .u8 0, .int .u8 0, .int .u8 0, .int .u8 0, .int .u8 0, .int .u8 0, .int .u8 0, .int .u8 0, .int .u8 0, .int .u8 0, .int .u8 0, .int .u8 0, .int .u8 0, .int .u8 0, .int .u8 0, .int .u8 0, .int .u32 0]) ∧ i.size = 17 ∧ i.bytes = 20 := by
  have h : (Tryz.prog.info? 67).map (fun i => (i.zero, i.size, i.bytes)) = some (some (.agg #[.int .u8 0, .int .u8 0, .int .u8 0, .int .u8 0, .int .u8 0, .int .u8 0, .int .u8 0, .int .u8 0, .int .u8 0, .int .u8 0, .int .u8 0, .int .u8 0, .int .u8 0, .int .u8 0, .int .u8 0, .int .u8 0, .int .u32 0]), 17, 20) := by kernel_rfl
  cases hi : Tryz.prog.info? 67 with
  | none => rw [hi] at h; cases h
  | some i =>
    rw [hi] at h
    simp only [Option.map_some, Option.some.injEq, Prod.mk.injEq] at h
    exact ⟨i, rfl, h.1, h.2.1, h.2.2⟩
/-- a sent element -/
theorem used_at {w : World} {A : Option Addr} {n c : Nat} {sent : List ((Nat → Int) × Nat)} (h : SL w 67 17 A n c (sent.flatMap uCells)) (hn : n = sent.length) {k : Nat} {x : (Nat → Int) × Nat} (hx : sent[k]? = some x) : ∃ b o, A = some ⟨b, o, none⟩ ∧ b < w.heap.size ∧ w.rangeAt b (o + k * 17) (kArr x.1).toList ∧ w.cell? ⟨b, o + k * 17 + 16, none⟩ = some (.int .u32 ((x.2 : Nat) : Int)) := by
  have hk : k < sent.length := (List.getElem?_eq_some_iff.1 hx).1
  obtain ⟨b, o, hA, hb⟩ := h.some_ (by omega)
  have hc : ∀ j, j < 17 → w.cell? ⟨b, o + k * 17 + j, none⟩ = (uCells x)[j]? := fun j hj => by
    have := h.cell hA (j := k * 17 + j) (by rw [hn]; have := Nat.mul_le_mul_right 17 hk; rw [Nat.succ_mul] at this; omega)
    rw [← Nat.add_assoc] at this
    rw [this]
    exact flat_at uCells 17 uCells_len sent k j x hx hj
  refine ⟨b, o, hA, hb, fun j v hv => ?_, hc 16 (by decide)⟩
  have hj : j < 16 := (List.getElem?_eq_some_iff.1 hv).1
  rw [hc j (by omega), uCells_key x j hj, hv]
theorem kArr_lit (f : Nat → Int) : kArr f = #[.int .u8 (f 0), .int .u8 (f 1), .int .u8 (f 2), .int .u8 (f 3), .int .u8 (f 4), .int .u8 (f 5), .int .u8 (f 6), .int .u8 (f 7), .int .u8 (f 8), .int .u8 (f 9), .int .u8 (f 10), .int .u8 (f 11), .int .u8 (f 12), .int .u8 (f 13), .int .u8 (f 14), .int .u8 (f 15)] := rfl
theorem k_sizeA (f : Nat → Int) : (Tryz.prog.info? 23).map (·.size) = some (kArr f).size := by kernel_rfl
theorem SV.key_range {w : World} {s : SV} {b o : Nat} (h : ∀ j, j < 36 → w.cell? ⟨b, o + j, none⟩ = some (s.cell j)) : w.rangeAt b (o + 4) (kArr s.key).toList ∧ w.rangeAt b (o + 20) (kArr s.code).toList := by
  refine ⟨fun j v hv => ?_, fun j v hv => ?_⟩
  · have hj : j < 16 := (List.getElem?_eq_some_iff.1 hv).1
    rw [Nat.add_assoc, h (4 + j) (by omega), ← hv, Array.getElem?_toList, kArr_at _ j hj]
    unfold SV.cell
    rw [if_neg (by omega), if_neg (by omega), if_neg (by omega), if_neg (by omega), if_pos (by omega), show 4 + j - 4 = j by omega]
  · have hj : j < 16 := (List.getElem?_eq_some_iff.1 hv).1
    rw [Nat.add_assoc, h (20 + j) (by omega), ← hv, Array.getElem?_toList, kArr_at _ j hj]
    unfold SV.cell
    rw [if_neg (by omega), if_neg (by omega), if_neg (by omega), if_neg (by omega), if_neg (by omega), show 20 + j - 20 = j by omega]
theorem SoloN.subN {w0 w : World} {g : Nat} {s : TS} {N N' : Nat → Prop} (h : SoloN w0 w g s N) (hN : ∀ k, N' k → N k) : SoloN w0 w g s N' := by
  obtain ⟨W, R, h1, h2, h3, h4⟩ := h
  exact ⟨W, R, h1, h2, h3, fun k hk => h4 k (hN k hk)⟩
theorem SoloN.lt_of {w0 w : World} {g : Nat} {s : TS} {N : Nat → Prop} (h : SoloN w0 w g s N) {k : Nat} (hk : N k) : k < w.heap.size := by
  obtain ⟨W, R, h1, h2, h3, h4⟩ := h
  exact (h4 k hk).2.1
/-- what holds between the steps -/
structure UW (w0 wr : World) (h kb : Nat) (A7 : Option Addr) (c7 : Nat) (s : TS) (sent : List ((Nat → Int) × Nat)) : Prop where
  so : SoloN w0 wr h s (fun k => k = kb ∨ blkOf A7 k)
  kb : Blk wr kb 23 (kArr s.C.key)
  sl : SL wr 67 17 A7 sent.length c7 (sent.flatMap uCells)
theorem UW.ne {w0 wr : World} {h kb : Nat} {A7 : Option Addr} {c7 : Nat} {s : TS} {sent : List ((Nat → Int) × Nat)} (u : UW w0 wr h kb A7 c7 s sent) : ∀ a, A7 = some a → kb ≠ a.block := fun a ha => by
  obtain ⟨cur, hc⟩ := u.sl.obj ha
  exact cells_ne u.kb hc (by decide)
theorem UW.below {w0 wr w' : World} {h kb : Nat} {A7 : Option Addr} {c7 : Nat} {s : TS} {sent : List ((Nat → Int) × Nat)} (u : UW w0 wr h kb A7 c7 s sent) (hb : Below wr.heap.size wr w') : UW w0 w' h kb A7 c7 s sent := ⟨u.so.below hb, u.kb.below hb u.kb.lt, u.sl.next hb⟩
theorem send_C (s : TS) (t : Int) : (s.send t).s.C = s.C := by
  unfold TS.send
  split
  · rfl
  · split
    · rfl
    · split
      · rfl
      · split
        · rfl
        · split <;> rfl
/-- behind a call of the transmitter -/
theorem UW.call {w0 wr w' : World} {h kb : Nat} {A7 : Option Addr} {c7 : Nat} {s s' : TS} {sent : List ((Nat → Int) × Nat)} (u : UW w0 wr h kb A7 c7 s sent) (hs : SoloN w0 w' h s' (fun k => k = kb ∨ blkOf A7 k)) (hk : ∀ k, k = kb ∨ blkOf A7 k → w'.heap[k]? = wr.heap[k]?) (hC : s'.C.key = s.C.key) : UW w0 w' h kb A7 c7 s' sent :=
  ⟨hs, by rw [hC]; exact (hk kb (.inl rfl)).trans u.kb, u.sl.keep (fun a ha => hk _ (.inr ⟨a, ha, rfl⟩))⟩
set_option maxRecDepth 100000 in
set_option maxHeartbeats 12800000 in
theorem unique_walk (c : Cfg) (hok : c.Ok) (A : Option Addr) (m cp : Nat) (S : Nat → SV) (hm : m ≤ maxLen) (w : World) (hst : Steps w A m S) :
    Calls Tryz.prog 9 #[.agg c.arr, .slice A m cp] w fun e w' => e = .returned (.bool true) ∧ Below w.heap.size w w' := by
  have HKN := Lib.hid (fun V => known45_true V)
  have HPL := Lib.hid (fun V => plain45_ok c V)
  have HRV := Lib.hid (fun V => rvalid45_ok c.noC V)
  have HDO : Hid c.noC.Ok := Lib.hid (Cfg.noC_ok hok)
  have HCM : Hid (c.noC.cm = false) := Lib.hid rfl
  have HNW := Lib.hid (fun hv V => tNew_ok c.noC hv V)
  have HNN := Lib.hid (fun hv V => tNew_no c.noC hv V)
  have HFW := Lib.hid (fun V hV => few45_ok A m cp 60 S (by decide) V hV hm)
  have HS0 : Hid ((Tryz.prog.info? 25).map (·.size) = some c.arr.size) := Lib.hid (by rw [c.arr_size]; exact infoPd)
  have HS1 : Hid ((Tryz.prog.info? 25).map (·.size) = some c.noC.arr.size) := Lib.hid (by rw [c.noC.arr_size]; exact infoPd)
  have HSS : Hid (c.arr.size = c.noC.arr.size) := Lib.hid (by rw [c.arr_size, c.noC.arr_size])
  have HO1 := Lib.hid c.noC.arr_one
  have HAT := Lib.hid (fun j (hj : j < 39) => c.noC.arr_at hj)
  obtain ⟨d, hd⟩ : ∃ d, d = c.noC := ⟨_, rfl⟩
  obtain ⟨Z, hZ⟩ : ∃ Z, Z = c.arr := ⟨_, rfl⟩
  obtain ⟨Y, hY⟩ : ∃ Y, Y = c.noC.arr := ⟨_, rfl⟩
  rw [← hY] at HPL HRV HNW HNN HS1 HSS HO1 HAT
  rw [← hd] at HRV HNW HNN HDO HCM HAT
  rw [← hZ] at HPL HS0 HSS ⊢
  have HU := Lib.hid Tryz.underlying25
  have HST := Lib.hid hst
  unfold maxLen at hm
  have HM := Lib.hid hm
  have m0 : (0 : Int) ≤ (m : Int) := by omega
  clear hZ hY hd hst hok
  go_enter Tryz.func9, Tryz.ntmps9
  go_upto_region 1 with (fail)
  obtain ⟨g, hg⟩ : ∃ g, g = w.heap.size := ⟨_, rfl⟩
  refine wp_let (fun W => Blk W g 25 Z ∧ Below w.heap.size w W) ⟨by rw [hg]; exact Blk.new _ _ _, (Below.refl _ w).alloc (Nat.le_refl _) _⟩ ?_
  rintro W1 ⟨b1, b2⟩
  have B1 := Lib.hid b1
  have B2 := Lib.hid b2
  have HG := Lib.hid hg
  rw [← hg]
  clear b1 b2 hg
  go_upto_region 2 with (first
    | (refine wpList_load_row rfl _ _ rfl g rfl 25 Z (0, 0) _ B1.out HU.out rfl HS0.out ?_)
    | (go_at_call 14; refine (HPL.out _).mono ?_; rintro e w2 ⟨rfl, hB⟩; have C1 := Lib.hid (B1.out.below hB B1.out.lt); have C2 := Lib.hid (B2.out.trans (hB.mono B2.out.size)); clear hB)
    | (refine wpList_store_row rfl _ _ _ rfl g Y rfl rfl 25 _ C1.out HS1.out HSS.out HO1.out ?_))
  try simp only [Act.put]
  refine wp_let (fun W => Blk W g 25 Y ∧ Below w.heap.size w W) ⟨setRow_heap _ _ _ Y 25 (0, 0) C1.out, belowRow C2.out (by rw [HG.out]; exact Nat.le_refl _) _⟩ ?_
  rintro W2 ⟨b1, b2⟩
  have D1 := Lib.hid b1
  have D2 := Lib.hid b2
  clear b1 b2 B1 B2 C1 C2
  have HFX := Lib.hid (HFW.out W2 (HST.out.below D2.out))
  obtain ⟨fb, hfb⟩ : ∃ fb, fb = fewB m 60 S := ⟨_, rfl⟩
  have HFB : Hid (fb = true → m ≤ 60) := Lib.hid (fun h => by rw [hfb] at h; unfold fewB at h; simp at h; exact h.1)
  rw [← hfb] at HFX
  replace HFX : Hid (Calls Tryz.prog 28 #[.slice A m cp, .int .i64 60] W2 fun e w' => e = .returned (.bool fb) ∧ Below W2.heap.size W2 w') := HFX
  clear hfb HFW hm
  cases fb with
  | false =>
    go_wp2_with (first
      | (go_at_call 28; with_reducible refine (HFX.out).mono ?_; rintro e w3 ⟨rfl, hB⟩; have E3 := Lib.hid hB; clear hB)
      | (go_at_call 17; with_reducible refine (HKN.out _).mono ?_; rintro e w9 ⟨rfl, hB⟩; have E9 := Lib.hid hB; clear hB))
    go_ret
    exact ⟨rfl, D2.out.trans ((E3.out.trans (E9.out.mono E3.out.size)).mono D2.out.size)⟩
  | true =>
    have HM60 : Hid (m ≤ 60) := Lib.hid (HFB.out rfl)
    go_upto_region 4 with (go_at_call 28; with_reducible refine (HFX.out).mono ?_; rintro e w3 ⟨rfl, hB⟩; have E3 := Lib.hid hB; clear hB)
    have F1 := Lib.hid (D1.out.below E3.out D1.out.lt)
    have F2 := Lib.hid (D2.out.trans (E3.out.mono D2.out.size))
    by_cases hv : d.Valid
    rotate_left
    · rw [decide_eq_false hv] at HRV
      have HX := Lib.hid (HNN.out hv)
      go_wp2_with (first
        | (refine wpList_load_row rfl _ _ rfl g rfl 25 Y (0, 0) _ F1.out HU.out rfl HS1.out ?_)
        | (go_at_call 21; with_reducible refine (HX.out _).mono ?_; rintro e w10 ⟨rfl, hB⟩; have E5 := Lib.hid hB; have F1 := Lib.hid (F1.out.below hB F1.out.lt); clear hB)
        | (go_at_call 16; with_reducible refine (HRV.out _).mono ?_; rintro e w8 ⟨rfl, hB⟩; have E8 := Lib.hid hB; clear hB)
        | (go_at_call 17; with_reducible refine (HKN.out _).mono ?_; rintro e w9 ⟨rfl, hB⟩; have E9 := Lib.hid hB; clear hB))
      go_ret
      exact ⟨rfl, F2.out.trans ((E5.out.trans ((E8.out.trans (E9.out.mono E8.out.size)).mono E5.out.size)).mono F2.out.size)⟩
    have HV := Lib.hid hv
    have HX := Lib.hid (HNW.out hv)
    clear hv
    go_upto_region 10 with (first
      | (refine wpList_load_row rfl _ _ rfl g rfl 25 Y (0, 0) _ F1.out HU.out rfl HS1.out ?_)
      | (go_at_call 21; with_reducible refine (HX.out _).mono ?_; rintro e w4 ⟨h, rfl, hO⟩; have S1 := Lib.hid (SoloN.of (Solo.of_new (Below.refl _ _) hO)); clear hO))
    have F3 := Lib.hid (F1.out.below S1.out.low F1.out.lt)
    have HKR := Lib.hid (show w4.rangeAt g 2 (kArr d.key).toList from fun j v hv => by
      have hj : j < 16 := (List.getElem?_eq_some_iff.1 hv).1
      rw [F3.out.cell, HAT.out (2 + j) (by omega), ← hv, Array.getElem?_toList, kArr_at _ j hj]
      unfold Cfg.cell
      rw [if_neg (by omega), if_neg (by omega), if_pos (by omega), show 2 + j - 2 = j by omega])
    have HUK := Lib.hid Tryz.underlying23
    have HSK := Lib.hid (k_size d.key)
    have HSA := Lib.hid (k_sizeA d.key)
    have HOK := Lib.hid (k_one d.key)
    have HZS : Hid ((#[.int .u8 0, .int .u8 0, .int .u8 0, .int .u8 0, .int .u8 0, .int .u8 0, .int .u8 0, .int .u8 0, .int .u8 0, .int .u8 0, .int .u8 0, .int .u8 0, .int .u8 0, .int .u8 0, .int .u8 0, .int .u8 0] : Array Value).size = (kArr d.key).size) := Lib.hid rfl
    obtain ⟨KA, hKA⟩ : ∃ KA, KA = kArr d.key := ⟨_, rfl⟩
    have HKA := Lib.hid hKA
    rw [← hKA] at HKR HSK HSA HOK HZS
    clear hKA
    go_upto_region 11 with (first
      | (refine wpList_load_mid rfl _ _ rfl g 2 rfl KA.toList _ HKR.out HUK.out rfl HSK.out ?_)
      | (refine wpList_store_row rfl _ _ _ rfl w4.heap.size KA rfl rfl 23 #[.int .u8 0, .int .u8 0, .int .u8 0, .int .u8 0, .int .u8 0, .int .u8 0, .int .u8 0, .int .u8 0, .int .u8 0, .int .u8 0, .int .u8 0, .int .u8 0, .int .u8 0, .int .u8 0, .int .u8 0, .int .u8 0] (Blk.new _ _ _) HSA.out HZS.out HOK.out ?_))
    try simp only [Act.put]
    obtain ⟨kb, hkb⟩ : ∃ kb, kb = w4.heap.size := ⟨_, rfl⟩
    have hb5 : Below w4.heap.size w4 ((w4.alloc (.cells #[.int .u8 0, .int .u8 0, .int .u8 0, .int .u8 0, .int .u8 0, .int .u8 0, .int .u8 0, .int .u8 0, .int .u8 0, .int .u8 0, .int .u8 0, .int .u8 0, .int .u8 0, .int .u8 0, .int .u8 0, .int .u8 0] 23)).setRow w4.heap.size KA) := belowRow ((Below.refl _ _).alloc (Nat.le_refl _) _) (Nat.le_refl _) _
    have hBk : Blk ((w4.alloc (.cells #[.int .u8 0, .int .u8 0, .int .u8 0, .int .u8 0, .int .u8 0, .int .u8 0, .int .u8 0, .int .u8 0, .int .u8 0, .int .u8 0, .int .u8 0, .int .u8 0, .int .u8 0, .int .u8 0, .int .u8 0, .int .u8 0] 23)).setRow w4.heap.size KA) w4.heap.size 23 (kArr d.key) := by rw [← HKA.out]; exact setRow_heap _ _ _ KA 23 (0, 0) (Blk.new _ _ _)
    refine wp_let (fun V => UW w3 V h kb none 0 (newS d) []) ⟨S1.out.other (N' := fun k => k = kb ∨ blkOf none k) (KeepF.of_below hb5) (fun k hk => by
      rcases hk with hk | ⟨a, ha, _⟩
      · rw [hk, hkb]; exact ⟨.inr (Nat.le_refl _), hBk.lt⟩
      · cases ha), by rw [hkb]; exact hBk, SL.nil _ _ _⟩ ?_
    intro V hUV
    have U0 := Lib.hid hUV
    rw [← hkb]
    clear hUV hb5 hBk hkb
    go_wp2
    go_loopw [7, 9, 10] (fun v7 v9 v10 wr => ∃ (i K : Nat) (s : TS) (U : List (Nat → Int)) (sent : List ((Nat → Int) × Nat)) (A7 : Option Addr) (c7 : Nat), i ≤ m ∧ v10 = .int .i64 i ∧ v9 = .int .u32 K ∧ v7 = .slice A7 sent.length c7 ∧ UQ s U sent K i ∧ UW w3 wr h kb A7 c7 s sent) (fun _ _ v10 _ => m - (intOf v10).toNat)
    case atStart => exact ⟨0, 0, newS d, [d.key], [], none, 0, by omega, rfl, rfl, rfl, ⟨rfl, cNew_ok, newS_fine HDO.out HV.out, Int.le_refl _, HCM.out, rfl, Nat.le_refl _, by show (keyEq d.key d.key || false) = true; rw [keyEq_refl]; rfl, fun x hx => (by cases hx), fun x hx => (by cases hx), List.Pairwise.nil, fun p hp => (by cases hp), Nat.le_refl _, Nat.le_refl _, Nat.le_refl _⟩, U0.out⟩
    case round =>
      clear U0
      obtain ⟨i, K, s, U, sent, A7, c7, hi, rfl, rfl, rfl, hUQ, hUW⟩ := hrel
      have UQ0 := Lib.hid hUQ
      have UW0 := Lib.hid hUW
      have G4 := Lib.hid (F2.out.trans (hUW.so.low.mono F2.out.size))
      have i0 : (0 : Int) ≤ (i : Int) := by omega
      have i60 : (i : Int) ≤ 60 := by have := HM60.out; omega
      clear hUQ hUW
      by_cases hlt : i < m
      rotate_left
      · obtain rfl : i = m := by omega
        go_wp2_with (go_at_call 17; with_reducible refine (HKN.out _).mono ?_; rintro e w9 ⟨rfl, hB⟩; have E9 := Lib.hid hB; clear hB)
        go_ret
        exact ⟨rfl, G4.out.trans (E9.out.mono G4.out.size)⟩
      have i1 : (i : Int) < (m : Int) := by omega
      have hi60 : i < 60 := by have := HM60.out; omega
      have HST2 := Lib.hid (HST.out.below G4.out)
      obtain ⟨lb, lo, hAe, hbl, hcl⟩ := HST.out.at_ (by omega)
      have hcl := hcl i hlt
      subst hAe
      have HCL := Lib.hid (show ∀ W', Below w.heap.size w W' → ∀ j, j < 36 → W'.cell? ⟨lb, lo + i * 36 + j, none⟩ = some ((S i).cell j) from fun W' hW j hj => (hW.cell (p := ⟨lb, lo + i * 36 + j, none⟩) hbl).trans (hcl j hj))
      have k0 : wr.cell? ⟨lb, lo + i * 36, none⟩ = some (.int .i64 (S i).kind) := HCL.out wr G4.out 0 (by decide)
      have SO := Lib.hid (HST.out.ok i hlt)
      have SOW := Lib.hid (HST2.out.ok i hlt)
      clear hcl
      obtain ⟨sv, hsv⟩ : ∃ sv, sv = S i := ⟨_, rfl⟩
      rw [← hsv] at k0 SO SOW HCL
      clear hsv
      obtain ⟨kd, hkd⟩ : ∃ kd, kd = sv.kind := ⟨_, rfl⟩
      obtain ⟨nw, hnw⟩ : ∃ nw, nw = sv.now := ⟨_, rfl⟩
      have HKD := Lib.hid hkd
      rw [← hkd] at k0
      have HC1 := Lib.hid (show ∀ W', Below w.heap.size w W' → W'.cell? ⟨lb, lo + i * 36 + 1, none⟩ = some (.int .i64 nw) from fun W' hW => (HCL.out W' hW 1 (by decide)).trans (by rw [hnw]; rfl))
      have HC2 := Lib.hid (show ∀ W', Below w.heap.size w W' → W'.cell? ⟨lb, lo + i * 36 + 2, none⟩ = some (.int .u32 sv.cnt) from fun W' hW => HCL.out W' hW 2 (by decide))
      have HC3 := Lib.hid (show ∀ W', Below w.heap.size w W' → W'.cell? ⟨lb, lo + i * 36 + 3, none⟩ = some (.slice sv.A sv.n sv.c) from fun W' hW => HCL.out W' hW 3 (by decide))
      have HNR : Hid (-9223372036854775808 ≤ nw ∧ nw ≤ 9223372036854775807) := Lib.hid (by rw [hnw]; exact SO.out.now)
      have hQL := UQ0.out.ql
      have hPL := UQ0.out.pl
      have hSL := UQ0.out.sl
      clear hkd hnw
      by_cases q1 : kd = 1
      · subst q1
        have HSB := Lib.hid (fun V (hS : SoloN w3 V h s (fun k => k = kb ∨ blkOf A7 k)) (hV : Below wr.heap.size wr V) => solon_submitA hS UQ0.out.fine UQ0.out.cm (by omega) nw HNR.out.1 HNR.out.2 sv.A sv.n sv.c sv.z (SOW.out.row.next hV) SO.out.byte (fun a e hn => .inr (by
          obtain ⟨b, off, e2, hb, _⟩ := SO.out.row (by omega)
          rw [e2] at e
          cases e
          exact Nat.lt_of_lt_of_le hb F2.out.size)) SO.out.mx)
        clear hQL hPL hSL
        go_upto_region 17 with (fail)
        have HSB1 := Lib.hid (HSB.out wr.drew (UW0.out.so.below (Below.refl _ _).drew) (Below.refl _ _).drew)
        refine wp_region_held_drew (S := fun w' => Below w.heap.size w w') (by kernel_rfl) G4.out.drew (fun hHeld => ?_)
        obtain ⟨u0, hu0⟩ : ∃ u0, u0 = wr.drew := ⟨_, rfl⟩
        rw [← hu0]
        rw [← hu0] at hHeld HSB1
        have HW0 := Lib.hid (show ∀ k : Nat, u0.heap[k]? = wr.heap[k]? from fun k => by rw [hu0]; rfl)
        clear hu0 HSB
        refine wpAnyH_take (i := 0) (oi := ⟨some 51, _, _, _, _, _⟩) (v := .pointer (some ⟨h, 0, none⟩)) rfl (by kernel_rfl) (by kernel_rfl) (by kernel_rfl) (fun _ _ _ h => h) (Or.inl ⟨by rfl, fun W hW => (by rfl)⟩) (by assumption) ?_
        try simp only [Act.put, List.setIfInBounds_toArray, List.set_cons_zero, List.set_cons_succ]
        refine wpAnyH_take (i := 1) (oi := ⟨some 52, _, _, _, _, _⟩) (v := .slice (some ⟨lb, lo, none⟩) m cp) rfl (by kernel_rfl) (by kernel_rfl) (by kernel_rfl) (fun _ _ _ h => h) (Or.inl ⟨by rfl, fun W hW => (by rfl)⟩) (by assumption) ?_
        try simp only [Act.put, List.setIfInBounds_toArray, List.set_cons_zero, List.set_cons_succ]
        refine wpAnyH_take (i := 2) (oi := ⟨some 53, _, _, _, _, _⟩) (v := .int .i64 (i : Int)) rfl (by kernel_rfl) (by kernel_rfl) (by kernel_rfl) (fun _ _ _ h => h) (Or.inl ⟨by rfl, fun W hW => (by rfl)⟩) (by assumption) ?_
        try simp only [Act.put, List.setIfInBounds_toArray, List.set_cons_zero, List.set_cons_succ]
        refine wpAnyH_take (i := 3) (oi := ⟨some 54, _, _, _, _, _⟩) (v := .pointer (some ⟨lb, lo + i * 36, none⟩)) rfl (by kernel_rfl) (by kernel_rfl) (by kernel_rfl) (fun _ _ _ h => h) (Or.inl ⟨by rfl, fun W hW => (by go_simp)⟩) (by assumption) ?_
        try simp only [Act.put, List.setIfInBounds_toArray, List.set_cons_zero, List.set_cons_succ]
        refine wpAnyH_take (i := 4) (oi := ⟨some 55, _, _, _, _, _⟩) (v := .pointer (some ⟨lb, lo + i * 36 + 1, none⟩)) rfl (by kernel_rfl) (by kernel_rfl) (by kernel_rfl) (fun _ _ _ h => h) (Or.inl ⟨by rfl, fun W hW => (by go_simp)⟩) (by assumption) ?_
        try simp only [Act.put, List.setIfInBounds_toArray, List.set_cons_zero, List.set_cons_succ]
        refine wpAnyH_take (i := 5) (oi := ⟨some 56, _, _, _, _, _⟩) (v := .int .i64 nw) rfl (by kernel_rfl) (by kernel_rfl) (by kernel_rfl) (fun _ _ _ h => h) (Or.inl ⟨by rfl, fun W hW => (by have := HC1.out W hW; go_simp)⟩) (by assumption) ?_
        try simp only [Act.put, List.setIfInBounds_toArray, List.set_cons_zero, List.set_cons_succ]
        refine wpAnyH_take (i := 6) (oi := ⟨some 57, _, _, _, _, _⟩) (v := .slice (some ⟨lb, lo, none⟩) m cp) rfl (by kernel_rfl) (by kernel_rfl) (by kernel_rfl) (fun _ _ _ h => h) (Or.inl ⟨by rfl, fun W hW => (by rfl)⟩) (by assumption) ?_
        try simp only [Act.put, List.setIfInBounds_toArray, List.set_cons_zero, List.set_cons_succ]
        refine wpAnyH_take (i := 7) (oi := ⟨some 58, _, _, _, _, _⟩) (v := .int .i64 (i : Int)) rfl (by kernel_rfl) (by kernel_rfl) (by kernel_rfl) (fun _ _ _ h => h) (Or.inl ⟨by rfl, fun W hW => (by rfl)⟩) (by assumption) ?_
        try simp only [Act.put, List.setIfInBounds_toArray, List.set_cons_zero, List.set_cons_succ]
        refine wpAnyH_take (i := 8) (oi := ⟨some 59, _, _, _, _, _⟩) (v := .pointer (some ⟨lb, lo + i * 36, none⟩)) rfl (by kernel_rfl) (by kernel_rfl) (by kernel_rfl) (fun _ _ _ h => h) (Or.inl ⟨by rfl, fun W hW => (by go_simp)⟩) (by assumption) ?_
        try simp only [Act.put, List.setIfInBounds_toArray, List.set_cons_zero, List.set_cons_succ]
        refine wpAnyH_take (i := 9) (oi := ⟨some 60, _, _, _, _, _⟩) (v := .pointer (some ⟨lb, lo + i * 36 + 3, none⟩)) rfl (by kernel_rfl) (by kernel_rfl) (by kernel_rfl) (fun _ _ _ h => h) (Or.inl ⟨by rfl, fun W hW => (by go_simp)⟩) (by assumption) ?_
        try simp only [Act.put, List.setIfInBounds_toArray, List.set_cons_zero, List.set_cons_succ]
        refine wpAnyH_take (i := 10) (oi := ⟨some 61, _, _, _, _, _⟩) (v := .slice sv.A sv.n sv.c) rfl (by kernel_rfl) (by kernel_rfl) (by kernel_rfl) (fun _ _ _ h => h) (Or.inl ⟨by rfl, fun W hW => (by have := HC3.out W hW; go_simp)⟩) (by assumption) ?_
        try simp only [Act.put, List.setIfInBounds_toArray, List.set_cons_zero, List.set_cons_succ]
        refine wpAnyH_ready (rs := [11]) (by kernel_rfl) (by simp) ?_
        refine AllReadyH.cons (o := ⟨some 62, _, _, _, _, _⟩) rfl (fun K hK => ?_) AllReadyH.nil
        rw [if_pos (by rfl)]
        go_simp
        refine (HSB1.out).mono ?_
        rintro e u1 ⟨rfl, hS, hk⟩
        dsimp only
        have hE : Below w.heap.size w u1 := F2.out.trans (hS.low.mono F2.out.size)
        have HS' := Lib.hid hS
        have HK' := Lib.hid hk
        refine hK.out _ _ hE (fun hHeld => ?_)
        clear hK K hE hS hk
        try simp only [Act.put, List.setIfInBounds_toArray, List.set_cons_zero, List.set_cons_succ]
        refine wpAnyH_done (by kernel_rfl) ?_ _
        clear hHeld
        have HCK : Hid ((s.submit nw sv.n sv.z).2.C.key = s.C.key) := Lib.hid (by unfold TS.submit; split; rfl; split; rfl; split <;> rfl)
        go_wp2
        go_roundw
        case rel => exact ⟨i + 1, K, _, U, sent, A7, c7, by omega, by go_num, rfl, rfl, UQ0.out.submit nw sv.n sv.z, UW0.out.call HS'.out (fun k hk => (HK'.out k hk).trans (HW0.out k)) HCK.out⟩
        case measure => simp [intOf]; omega
      have t1 : (kd == 1) = false := by simpa using q1
      by_cases q2 : kd = 2
      · subst q2
        have k1 := HC1.out wr G4.out
        have HNX := Lib.hid (solon_nextU UW0.out.so UQ0.out.fine UQ0.out.cm (by omega) nw HNR.out.1 HNR.out.2)
        have HSC : Hid ((s.send nw).s.C = s.C) := Lib.hid (send_C s nw)
        have HERR := Lib.hid (UQ0.out.send_err nw)
        have HSOK := Lib.hid (UQ0.out.send_ok nw)
        have HQ60 : Hid (sent.length ≤ 60 ∧ K ≤ 60) := Lib.hid (by have := UQ0.out.Ki; omega)
        obtain ⟨r, hr⟩ : ∃ r, r = s.send nw := ⟨_, rfl⟩
        rw [← hr] at HNX HSC HERR HSOK
        clear hr hQL hPL hSL t1 q1
        go_upto_region 20 with (go_at_call 18; with_reducible refine (HNX.out).mono ?_; rintro e w5 ⟨A4, c4, rfl, hc4, hR4, hS4, hk4, hU4⟩; have S5 := Lib.hid (hS4.subN (N' := fun k => k = kb ∨ blkOf A7 k) (fun k hk => .inl hk)); have K5 := Lib.hid hk4; clear hc4 hR4 hS4 hk4 hU4)
        have U5 := Lib.hid (UW0.out.call S5.out K5.out (by rw [HSC.out]))
        by_cases he : r.e = 0
        rotate_left
        · have te : (r.e != 0) = true := by simpa using he
          have HUQ := Lib.hid (HERR.out he)
          clear he
          go_wp2
          go_roundw
          case rel => exact ⟨i + 1, K, r.s, U, sent, A7, c7, by omega, by go_num, rfl, rfl, HUQ.out, U5.out⟩
          case measure => simp [intOf]; omega
        obtain ⟨n, hct, hnK, hno, hC, hU⟩ := HSOK.out he
        have te : (r.e != 0) = false := by rw [he]; rfl
        have HNO := Lib.hid hno
        have HUQ := Lib.hid hU
        have HNK := Lib.hid hnK
        rw [hct]
        clear hct hno hC hU hnK he
        go_upto_region 21 with (fail)
        clear te k0 k1
        go_wp2
        go_loopw [14] (fun v14 wr => ∃ k : Nat, k ≤ sent.length ∧ v14 = .int .i64 k ∧ UW w3 wr h kb A7 c7 r.s sent) (fun v14 _ => sent.length - (intOf v14).toNat)
        case atStart => exact ⟨0, by omega, rfl, U5.out⟩
        case round =>
          clear U5
          obtain ⟨k, hk, rfl, hX⟩ := hrel
          have XK := Lib.hid hX
          clear hX
          obtain ⟨sl, hsl⟩ : ∃ sl, sl = sent.length := ⟨_, rfl⟩
          have HSLN := Lib.hid hsl
          have s60 : sl ≤ 60 := by rw [hsl]; exact HQ60.out.1
          rw [← hsl] at hk
          clear hsl
          rw [← HSLN.out]
          have j0 : (0 : Int) ≤ (k : Int) := by omega
          have j60 : (k : Int) ≤ 60 := by omega
          by_cases hlk : k < sl
          · have j1 : (k : Int) < (sl : Int) := by omega
            obtain ⟨x, hx⟩ : ∃ x, sent[k]? = some x := ⟨_, List.getElem?_eq_getElem (by rw [← HSLN.out]; exact hlk)⟩
            have hnx := HNO.out x (List.mem_of_getElem? hx)
            obtain ⟨b, o, hA7, hb7, hrg, hc16⟩ := used_at XK.out.sl rfl hx
            have HB7 := Lib.hid hb7
            have HRG := Lib.hid (show ∀ W', Below wr.heap.size wr W' → W'.rangeAt b (o + k * 17) (kArr x.1).toList from fun W' hW j v hv => (hW.cell (p := ⟨b, o + k * 17 + j, none⟩) HB7.out).trans (hrg j v hv))
            have HKR3 := Lib.hid (show ∀ W', Below wr.heap.size wr W' → W'.rangeAt kb 0 (kArr r.s.C.key).toList from fun W' hW => (XK.out.kb.below hW XK.out.kb.lt).range _ (by simp))
            have HC16 := Lib.hid (show ∀ W', Below wr.heap.size wr W' → W'.cell? ⟨b, o + k * 17 + 16, none⟩ = some (.int .u32 ((x.2 : Nat) : Int)) from fun W' hW => (hW.cell (p := ⟨b, o + k * 17 + 16, none⟩) HB7.out).trans hc16)
            have HEQ := Lib.hid (fun W => k_eq x.1 r.s.C.key 9998 W)
            have HSX := Lib.hid (k_size x.1)
            have HSKK := Lib.hid (k_size r.s.C.key)
            rw [← HSC.out] at hnx
            have HNX2 := Lib.hid hnx
            obtain ⟨KX, hKX⟩ : ∃ KX, KX = kArr x.1 := ⟨_, rfl⟩
            obtain ⟨KK, hKK⟩ : ∃ KK, KK = kArr r.s.C.key := ⟨_, rfl⟩
            rw [← hKX] at HRG HEQ HSX
            rw [← hKK] at HKR3 HEQ HSKK
            subst hA7
            have XK2 := Lib.hid XK.out
            clear hx hnx hrg hc16 hb7 hKX hKK
            rcases Bool.eq_false_or_eq_true (keyEq x.1 r.s.C.key) with hke | hke
            · have hne : (((x.2 : Nat) : Int) == (n : Int)) = false := by rw [beq_eq_false_iff_ne]; intro e; exact HNX2.out ⟨hke, by omega⟩
              rw [hke] at HEQ
              obtain ⟨xn, hxn⟩ : ∃ xn : Nat, xn = x.2 := ⟨_, rfl⟩
              rw [← hxn] at HC16 hne
              clear hke hxn

              go_upto_region 24 with (fail)
              refine wp_region_held_drew (S := fun w' => Below wr.heap.size wr w') (by kernel_rfl) ((Below.refl _ wr).drew) (fun hHeld => ?_)
              obtain ⟨u0, hu0⟩ : ∃ u0, u0 = wr.drew := ⟨_, rfl⟩
              rw [← hu0]
              rw [← hu0] at hHeld
              clear hu0
              refine wpAnyH_take (i := 0) (oi := ⟨some 84, _, _, _, _, _⟩) (v := .slice (some ⟨b, o, none⟩) sl c7) rfl (by kernel_rfl) (by kernel_rfl) (by kernel_rfl) (fun _ _ _ h => h) (Or.inl ⟨by rfl, fun W hW => (by rfl)⟩) (by assumption) ?_
              try simp only [Act.put, List.setIfInBounds_toArray, List.set_cons_zero, List.set_cons_succ]
              refine wpAnyH_take (i := 1) (oi := ⟨some 85, _, _, _, _, _⟩) (v := .int .i64 (k : Int)) rfl (by kernel_rfl) (by kernel_rfl) (by kernel_rfl) (fun _ _ _ h => h) (Or.inl ⟨by rfl, fun W hW => (by rfl)⟩) (by assumption) ?_
              try simp only [Act.put, List.setIfInBounds_toArray, List.set_cons_zero, List.set_cons_succ]
              refine wpAnyH_take (i := 2) (oi := ⟨some 86, _, _, _, _, _⟩) (v := .pointer (some ⟨b, o + k * 17, none⟩)) rfl (by kernel_rfl) (by kernel_rfl) (by kernel_rfl) (fun _ _ _ h => h) (Or.inl ⟨by rfl, fun W hW => (by go_simp)⟩) (by assumption) ?_
              try simp only [Act.put, List.setIfInBounds_toArray, List.set_cons_zero, List.set_cons_succ]
              refine wpAnyH_take (i := 3) (oi := ⟨some 87, _, _, _, _, _⟩) (v := .pointer (some ⟨b, o + k * 17, none⟩)) rfl (by kernel_rfl) (by kernel_rfl) (by kernel_rfl) (fun _ _ _ h => h) (Or.inl ⟨by rfl, fun W hW => (by go_simp)⟩) (by assumption) ?_
              try simp only [Act.put, List.setIfInBounds_toArray, List.set_cons_zero, List.set_cons_succ]
              refine' wpAnyH_take (i := 4) (oi := ⟨some 88, _, _, _, _, _⟩) (v := _) rfl (by kernel_rfl) (by kernel_rfl) (by kernel_rfl) (fun _ _ _ h => h) (yieldsIf_load_mid (by rfl) _ _ rfl b (o + k * 17) rfl KX.toList _ (fun w h => HRG.out w h) HUK.out rfl HSX.out) (by assumption) ?_
              try simp only [Act.put, List.setIfInBounds_toArray, List.set_cons_zero, List.set_cons_succ]
              refine' wpAnyH_take (i := 5) (oi := ⟨some 89, _, _, _, _, _⟩) (v := _) rfl (by kernel_rfl) (by kernel_rfl) (by kernel_rfl) (fun _ _ _ h => h) (yieldsIf_load_mid (by rfl) _ _ rfl kb 0 rfl KK.toList _ (fun w h => HKR3.out w h) HUK.out rfl HSKK.out) (by assumption) ?_
              try simp only [Act.put, List.setIfInBounds_toArray, List.set_cons_zero, List.set_cons_succ]
              refine wpAnyH_take (i := 6) (oi := ⟨some 90, _, _, _, _, _⟩) (v := .bool true) rfl (by kernel_rfl) (by kernel_rfl) (by kernel_rfl) (fun _ _ _ h => h) (Or.inl ⟨by rfl, fun W hW => (by have := HEQ.out W; go_simp)⟩) (by assumption) ?_
              try simp only [Act.put, List.setIfInBounds_toArray, List.set_cons_zero, List.set_cons_succ]
              refine wpAnyH_take (i := 7) (oi := ⟨some 91, _, _, _, _, _⟩) (v := .bool true) rfl (by kernel_rfl) (by kernel_rfl) (by kernel_rfl) (fun _ _ _ h => h) (Or.inl ⟨by rfl, fun W hW => (by rfl)⟩) (by assumption) ?_
              try simp only [Act.put, List.setIfInBounds_toArray, List.set_cons_zero, List.set_cons_succ]
              refine wpAnyH_take (i := 8) (oi := ⟨some 92, _, _, _, _, _⟩) (v := .slice (some ⟨b, o, none⟩) sl c7) rfl (by kernel_rfl) (by kernel_rfl) (by kernel_rfl) (fun _ _ _ h => h) (Or.inl ⟨by rfl, fun W hW => (by rfl)⟩) (by assumption) ?_
              try simp only [Act.put, List.setIfInBounds_toArray, List.set_cons_zero, List.set_cons_succ]
              refine wpAnyH_take (i := 9) (oi := ⟨some 93, _, _, _, _, _⟩) (v := .int .i64 (k : Int)) rfl (by kernel_rfl) (by kernel_rfl) (by kernel_rfl) (fun _ _ _ h => h) (Or.inl ⟨by rfl, fun W hW => (by rfl)⟩) (by assumption) ?_
              try simp only [Act.put, List.setIfInBounds_toArray, List.set_cons_zero, List.set_cons_succ]
              refine wpAnyH_take (i := 10) (oi := ⟨some 94, _, _, _, _, _⟩) (v := .pointer (some ⟨b, o + k * 17, none⟩)) rfl (by kernel_rfl) (by kernel_rfl) (by kernel_rfl) (fun _ _ _ h => h) (Or.inl ⟨by rfl, fun W hW => (by go_simp)⟩) (by assumption) ?_
              try simp only [Act.put, List.setIfInBounds_toArray, List.set_cons_zero, List.set_cons_succ]
              refine wpAnyH_take (i := 11) (oi := ⟨some 95, _, _, _, _, _⟩) (v := .pointer (some ⟨b, o + k * 17 + 16, none⟩)) rfl (by kernel_rfl) (by kernel_rfl) (by kernel_rfl) (fun _ _ _ h => h) (Or.inl ⟨by rfl, fun W hW => (by go_simp)⟩) (by assumption) ?_
              try simp only [Act.put, List.setIfInBounds_toArray, List.set_cons_zero, List.set_cons_succ]
              refine wpAnyH_take (i := 12) (oi := ⟨some 96, _, _, _, _, _⟩) (v := .int .u32 (xn : Int)) rfl (by kernel_rfl) (by kernel_rfl) (by kernel_rfl) (fun _ _ _ h => h) (Or.inl ⟨by rfl, fun W hW => (by have := HC16.out W hW; go_simp)⟩) (by assumption) ?_
              try simp only [Act.put, List.setIfInBounds_toArray, List.set_cons_zero, List.set_cons_succ]
              refine wpAnyH_take (i := 13) (oi := ⟨some 97, _, _, _, _, _⟩) (v := .int .u32 (n : Int)) rfl (by kernel_rfl) (by kernel_rfl) (by kernel_rfl) (fun _ _ _ h => h) (Or.inl ⟨by rfl, fun W hW => (by rfl)⟩) (by assumption) ?_
              try simp only [Act.put, List.setIfInBounds_toArray, List.set_cons_zero, List.set_cons_succ]
              refine wpAnyH_take (i := 14) (oi := ⟨some 98, _, _, _, _, _⟩) (v := .bool false) rfl (by kernel_rfl) (by kernel_rfl) (by kernel_rfl) (fun _ _ _ h => h) (Or.inl ⟨by rfl, fun W hW => (by go_simp)⟩) (by assumption) ?_
              try simp only [Act.put, List.setIfInBounds_toArray, List.set_cons_zero, List.set_cons_succ]
              refine wpAnyH_take (i := 15) (oi := ⟨some 99, _, _, _, _, _⟩) (v := .bool false) rfl (by kernel_rfl) (by kernel_rfl) (by kernel_rfl) (fun _ _ _ h => h) (Or.inl ⟨by rfl, fun W hW => (by go_simp)⟩) (by assumption) ?_
              try simp only [Act.put, List.setIfInBounds_toArray, List.set_cons_zero, List.set_cons_succ]
              refine wpAnyH_done (by kernel_rfl) ?_ _
              have HBQ := Lib.hid hHeld
              clear hHeld hne
              go_wp2
              go_roundw
              case rel => exact ⟨k + 1, by first | omega | (rw [← HSLN.out]; omega), by go_num, XK2.out.below HBQ.out⟩
              case measure => simp [intOf]; first | omega | (rw [← HSLN.out]; omega)
            · rw [hke] at HEQ
              clear hke

              go_upto_region 24 with (fail)
              refine wp_region_held_drew (S := fun w' => Below wr.heap.size wr w') (by kernel_rfl) ((Below.refl _ wr).drew) (fun hHeld => ?_)
              obtain ⟨u0, hu0⟩ : ∃ u0, u0 = wr.drew := ⟨_, rfl⟩
              rw [← hu0]
              rw [← hu0] at hHeld
              clear hu0
              refine wpAnyH_take (i := 0) (oi := ⟨some 84, _, _, _, _, _⟩) (v := .slice (some ⟨b, o, none⟩) sl c7) rfl (by kernel_rfl) (by kernel_rfl) (by kernel_rfl) (fun _ _ _ h => h) (Or.inl ⟨by rfl, fun W hW => (by rfl)⟩) (by assumption) ?_
              try simp only [Act.put, List.setIfInBounds_toArray, List.set_cons_zero, List.set_cons_succ]
              refine wpAnyH_take (i := 1) (oi := ⟨some 85, _, _, _, _, _⟩) (v := .int .i64 (k : Int)) rfl (by kernel_rfl) (by kernel_rfl) (by kernel_rfl) (fun _ _ _ h => h) (Or.inl ⟨by rfl, fun W hW => (by rfl)⟩) (by assumption) ?_
              try simp only [Act.put, List.setIfInBounds_toArray, List.set_cons_zero, List.set_cons_succ]
              refine wpAnyH_take (i := 2) (oi := ⟨some 86, _, _, _, _, _⟩) (v := .pointer (some ⟨b, o + k * 17, none⟩)) rfl (by kernel_rfl) (by kernel_rfl) (by kernel_rfl) (fun _ _ _ h => h) (Or.inl ⟨by rfl, fun W hW => (by go_simp)⟩) (by assumption) ?_
              try simp only [Act.put, List.setIfInBounds_toArray, List.set_cons_zero, List.set_cons_succ]
              refine wpAnyH_take (i := 3) (oi := ⟨some 87, _, _, _, _, _⟩) (v := .pointer (some ⟨b, o + k * 17, none⟩)) rfl (by kernel_rfl) (by kernel_rfl) (by kernel_rfl) (fun _ _ _ h => h) (Or.inl ⟨by rfl, fun W hW => (by go_simp)⟩) (by assumption) ?_
              try simp only [Act.put, List.setIfInBounds_toArray, List.set_cons_zero, List.set_cons_succ]
              refine' wpAnyH_take (i := 4) (oi := ⟨some 88, _, _, _, _, _⟩) (v := _) rfl (by kernel_rfl) (by kernel_rfl) (by kernel_rfl) (fun _ _ _ h => h) (yieldsIf_load_mid (by rfl) _ _ rfl b (o + k * 17) rfl KX.toList _ (fun w h => HRG.out w h) HUK.out rfl HSX.out) (by assumption) ?_
              try simp only [Act.put, List.setIfInBounds_toArray, List.set_cons_zero, List.set_cons_succ]
              refine' wpAnyH_take (i := 5) (oi := ⟨some 89, _, _, _, _, _⟩) (v := _) rfl (by kernel_rfl) (by kernel_rfl) (by kernel_rfl) (fun _ _ _ h => h) (yieldsIf_load_mid (by rfl) _ _ rfl kb 0 rfl KK.toList _ (fun w h => HKR3.out w h) HUK.out rfl HSKK.out) (by assumption) ?_
              try simp only [Act.put, List.setIfInBounds_toArray, List.set_cons_zero, List.set_cons_succ]
              refine wpAnyH_take (i := 6) (oi := ⟨some 90, _, _, _, _, _⟩) (v := .bool false) rfl (by kernel_rfl) (by kernel_rfl) (by kernel_rfl) (fun _ _ _ h => h) (Or.inl ⟨by rfl, fun W hW => (by have := HEQ.out W; go_simp)⟩) (by assumption) ?_
              try simp only [Act.put, List.setIfInBounds_toArray, List.set_cons_zero, List.set_cons_succ]
              refine wpAnyH_take (i := 7) (oi := ⟨some 91, _, _, _, _, _⟩) (v := .bool false) rfl (by kernel_rfl) (by kernel_rfl) (by kernel_rfl) (fun _ _ _ h => h) (Or.inl ⟨by rfl, fun W hW => (by rfl)⟩) (by assumption) ?_
              try simp only [Act.put, List.setIfInBounds_toArray, List.set_cons_zero, List.set_cons_succ]
              refine wpAnyH_take (i := 8) (oi := ⟨some 92, _, _, _, _, _⟩) (v := undef) rfl (by kernel_rfl) (by kernel_rfl) (by kernel_rfl) (fun _ _ _ h => h) (Or.inr ⟨by rfl, rfl⟩) (by assumption) ?_
              try simp only [Act.put, List.setIfInBounds_toArray, List.set_cons_zero, List.set_cons_succ]
              refine wpAnyH_take (i := 9) (oi := ⟨some 93, _, _, _, _, _⟩) (v := undef) rfl (by kernel_rfl) (by kernel_rfl) (by kernel_rfl) (fun _ _ _ h => h) (Or.inr ⟨by rfl, rfl⟩) (by assumption) ?_
              try simp only [Act.put, List.setIfInBounds_toArray, List.set_cons_zero, List.set_cons_succ]
              refine wpAnyH_take (i := 10) (oi := ⟨some 94, _, _, _, _, _⟩) (v := undef) rfl (by kernel_rfl) (by kernel_rfl) (by kernel_rfl) (fun _ _ _ h => h) (Or.inr ⟨by rfl, rfl⟩) (by assumption) ?_
              try simp only [Act.put, List.setIfInBounds_toArray, List.set_cons_zero, List.set_cons_succ]
              refine wpAnyH_take (i := 11) (oi := ⟨some 95, _, _, _, _, _⟩) (v := undef) rfl (by kernel_rfl) (by kernel_rfl) (by kernel_rfl) (fun _ _ _ h => h) (Or.inr ⟨by rfl, rfl⟩) (by assumption) ?_
              try simp only [Act.put, List.setIfInBounds_toArray, List.set_cons_zero, List.set_cons_succ]
              refine wpAnyH_take (i := 12) (oi := ⟨some 96, _, _, _, _, _⟩) (v := undef) rfl (by kernel_rfl) (by kernel_rfl) (by kernel_rfl) (fun _ _ _ h => h) (Or.inr ⟨by rfl, rfl⟩) (by assumption) ?_
              try simp only [Act.put, List.setIfInBounds_toArray, List.set_cons_zero, List.set_cons_succ]
              refine wpAnyH_take (i := 13) (oi := ⟨some 97, _, _, _, _, _⟩) (v := undef) rfl (by kernel_rfl) (by kernel_rfl) (by kernel_rfl) (fun _ _ _ h => h) (Or.inr ⟨by rfl, rfl⟩) (by assumption) ?_
              try simp only [Act.put, List.setIfInBounds_toArray, List.set_cons_zero, List.set_cons_succ]
              refine wpAnyH_take (i := 14) (oi := ⟨some 98, _, _, _, _, _⟩) (v := undef) rfl (by kernel_rfl) (by kernel_rfl) (by kernel_rfl) (fun _ _ _ h => h) (Or.inr ⟨by rfl, rfl⟩) (by assumption) ?_
              try simp only [Act.put, List.setIfInBounds_toArray, List.set_cons_zero, List.set_cons_succ]
              refine wpAnyH_take (i := 15) (oi := ⟨some 99, _, _, _, _, _⟩) (v := .bool false) rfl (by kernel_rfl) (by kernel_rfl) (by kernel_rfl) (fun _ _ _ h => h) (Or.inl ⟨by rfl, fun W hW => (by go_simp)⟩) (by assumption) ?_
              try simp only [Act.put, List.setIfInBounds_toArray, List.set_cons_zero, List.set_cons_succ]
              refine wpAnyH_done (by kernel_rfl) ?_ _
              have HBQ := Lib.hid hHeld
              clear hHeld
              go_wp2
              go_roundw
              case rel => exact ⟨k + 1, by first | omega | (rw [← HSLN.out]; omega), by go_num, XK2.out.below HBQ.out⟩
              case measure => simp [intOf]; first | omega | (rw [← HSLN.out]; omega)
          · obtain rfl : k = sl := by omega
            have tgt : ¬ ((K : Int) < (n : Int)) := by have := HNK.out; omega
            have K60 : (K : Int) ≤ 60 := by have := HQ60.out.2; omega
            obtain ⟨iu, hiu, hiz, his, hib⟩ := infoUsed
            obtain ⟨kf, hkf⟩ : ∃ kf, kf = s.C.key := ⟨_, rfl⟩
            have HKB3 := Lib.hid (show Blk wr kb 23 #[.int .u8 (kf 0), .int .u8 (kf 1), .int .u8 (kf 2), .int .u8 (kf 3), .int .u8 (kf 4), .int .u8 (kf 5), .int .u8 (kf 6), .int .u8 (kf 7), .int .u8 (kf 8), .int .u8 (kf 9), .int .u8 (kf 10), .int .u8 (kf 11), .int .u8 (kf 12), .int .u8 (kf 13), .int .u8 (kf 14), .int .u8 (kf 15)] from by
              have := XK.out.kb
              rw [HSC.out, ← hkf] at this
              exact this)
            have HKFE := Lib.hid hkf
            have HSKL := Lib.hid (k_sizeA kf)
            obtain ⟨X6, hX6⟩ : ∃ X6, X6 = wr.alloc (.cells #[.int .u8 (kf 0), .int .u8 (kf 1), .int .u8 (kf 2), .int .u8 (kf 3), .int .u8 (kf 4), .int .u8 (kf 5), .int .u8 (kf 6), .int .u8 (kf 7), .int .u8 (kf 8), .int .u8 (kf 9), .int .u8 (kf 10), .int .u8 (kf 11), .int .u8 (kf 12), .int .u8 (kf 13), .int .u8 (kf 14), .int .u8 (kf 15), .int .u32 ((n : Nat) : Int)] 67) := ⟨_, rfl⟩
            have hb6 : Below wr.heap.size wr X6 := by rw [hX6]; exact (Below.refl _ _).alloc (Nat.le_refl _) _
            have HX6 := Lib.hid hX6
            have HB6 := Lib.hid hb6
            have hNB : Blk X6 wr.heap.size 67 #[.int .u8 (kf 0), .int .u8 (kf 1), .int .u8 (kf 2), .int .u8 (kf 3), .int .u8 (kf 4), .int .u8 (kf 5), .int .u8 (kf 6), .int .u8 (kf 7), .int .u8 (kf 8), .int .u8 (kf 9), .int .u8 (kf 10), .int .u8 (kf 11), .int .u8 (kf 12), .int .u8 (kf 13), .int .u8 (kf 14), .int .u8 (kf 15), .int .u32 ((n : Nat) : Int)] := by rw [hX6]; exact Blk.new _ _ _
            have SL6 := Lib.hid (XK.out.sl.next hb6)
            rw [← HSLN.out] at SL6
            have HSRC : Hid (Src Tryz.prog 17 63 (.slice (some ⟨wr.heap.size, 0, none⟩) 1 1) 1 (uCells (kf, n)) X6) := Lib.hid (Src.ofSlice _ Tryz.underlying63 ⟨wr.heap.size, 0, none⟩ 1 1 _ rfl (fun j u hu => by
              rw [Addr.add_lit, Nat.zero_add, hNB.cell j, ← hu]
              unfold uCells
              rw [List.getElem?_toArray]) (fun u hu => by
              unfold uCells at hu
              simp at hu
              rcases hu with rfl | rfl | rfl | rfl | rfl | rfl | rfl | rfl | rfl | rfl | rfl | rfl | rfl | rfl | rfl | rfl | rfl <;> rfl))
            clear hNB hX6 hb6 hkf
            try rw [← HSLN.out]
            rcases Decidable.em (n = K) with hnk | hnk
            · have teq : (((n : Nat) : Int) == (K : Int)) = true := by rw [beq_iff_eq]; omega
              rw [if_pos hnk] at HUQ
              clear hnk
              go_wp2_with (first
                | (refine wpList_load_row rfl _ _ rfl kb rfl 23 #[.int .u8 (kf 0), .int .u8 (kf 1), .int .u8 (kf 2), .int .u8 (kf 3), .int .u8 (kf 4), .int .u8 (kf 5), .int .u8 (kf 6), .int .u8 (kf 7), .int .u8 (kf 8), .int .u8 (kf 9), .int .u8 (kf 10), .int .u8 (kf 11), .int .u8 (kf 12), .int .u8 (kf 13), .int .u8 (kf 14), .int .u8 (kf 15)] (0, 0) _ HKB3.out HUK.out rfl HSKL.out ?_)
                | (rw [← HX6.out]; refine wpList_sl_append rfl _ _ _ _ rfl X6 67 iu (.agg #[.int .u8 0, .int .u8 0, .int .u8 0, .int .u8 0, .int .u8 0, .int .u8 0, .int .u8 0, .int .u8 0, .int .u8 0, .int .u8 0, .int .u8 0, .int .u8 0, .int .u8 0, .int .u8 0, .int .u8 0, .int .u8 0, .int .u32 0]) 17 20 Tryz.underlying63 hiu hiz his hib rfl A7 k c7 (sent.flatMap uCells) rfl SL6.out _ rfl 1 (uCells (kf, n)) HSRC.out (by decide) (by unfold maxLen; omega) (by omega) ?_; intro A9 c9 wA hSL9 hK9 hA9; have HSL9 := Lib.hid hSL9; have HK9 := Lib.hid hK9; have HA9 := Lib.hid hA9; clear hSL9 hK9 hA9))
              have HUF := Lib.hid (show UW w3 wA h kb A9 c9 r.s (sent ++ [(s.C.key, n)]) from by
                have hS6 := XK.out.so.below HB6.out
                refine ⟨hS6.other (N' := fun j => j = kb ∨ blkOf A9 j) (HK9.out.mono (fun j hj => .inr hj)) (fun j hj => ?_), HK9.out.blk (XK.out.kb.below HB6.out XK.out.kb.lt) (fun ⟨a, ha, e⟩ => XK.out.ne a ha e), ?_⟩
                · rcases hj with hj | ⟨a, ha, e⟩
                  · refine ⟨.inl (.inl hj), ?_⟩
                    rw [hj]
                    exact Nat.lt_of_lt_of_le (Nat.lt_of_lt_of_le XK.out.kb.lt HB6.out.size) HK9.out.size
                  · refine ⟨?_, by rw [e]; exact HSL9.out.lt ha⟩
                    rcases HA9.out a ha with ⟨a', ha', e'⟩ | hge
                    · exact .inl (.inr ⟨a', ha', by rw [e, e']⟩)
                    · exact .inr (by rw [e]; exact hge)
                · have := HSL9.out
                  rw [HKFE.out, HSLN.out] at this
                  rw [List.flatMap_append, List.length_append]
                  simpa using this)
              go_roundw
              case rel => exact ⟨i + 1, K + 1, r.s, U, sent ++ [(s.C.key, n)], A9, c9, by omega, by go_num, by first | rfl | go_num, by rw [List.length_append, ← HSLN.out]; rfl, HUQ.out, HUF.out⟩
              case measure => simp [intOf]; omega
            · have teq : (((n : Nat) : Int) == (K : Int)) = false := by rw [beq_eq_false_iff_ne]; omega
              rw [if_neg hnk] at HUQ
              clear hnk
              go_wp2_with (first
                | (refine wpList_load_row rfl _ _ rfl kb rfl 23 #[.int .u8 (kf 0), .int .u8 (kf 1), .int .u8 (kf 2), .int .u8 (kf 3), .int .u8 (kf 4), .int .u8 (kf 5), .int .u8 (kf 6), .int .u8 (kf 7), .int .u8 (kf 8), .int .u8 (kf 9), .int .u8 (kf 10), .int .u8 (kf 11), .int .u8 (kf 12), .int .u8 (kf 13), .int .u8 (kf 14), .int .u8 (kf 15)] (0, 0) _ HKB3.out HUK.out rfl HSKL.out ?_)
                | (rw [← HX6.out]; refine wpList_sl_append rfl _ _ _ _ rfl X6 67 iu (.agg #[.int .u8 0, .int .u8 0, .int .u8 0, .int .u8 0, .int .u8 0, .int .u8 0, .int .u8 0, .int .u8 0, .int .u8 0, .int .u8 0, .int .u8 0, .int .u8 0, .int .u8 0, .int .u8 0, .int .u8 0, .int .u8 0, .int .u32 0]) 17 20 Tryz.underlying63 hiu hiz his hib rfl A7 k c7 (sent.flatMap uCells) rfl SL6.out _ rfl 1 (uCells (kf, n)) HSRC.out (by decide) (by unfold maxLen; omega) (by omega) ?_; intro A9 c9 wA hSL9 hK9 hA9; have HSL9 := Lib.hid hSL9; have HK9 := Lib.hid hK9; have HA9 := Lib.hid hA9; clear hSL9 hK9 hA9))
              have HUF := Lib.hid (show UW w3 wA h kb A9 c9 r.s (sent ++ [(s.C.key, n)]) from by
                have hS6 := XK.out.so.below HB6.out
                refine ⟨hS6.other (N' := fun j => j = kb ∨ blkOf A9 j) (HK9.out.mono (fun j hj => .inr hj)) (fun j hj => ?_), HK9.out.blk (XK.out.kb.below HB6.out XK.out.kb.lt) (fun ⟨a, ha, e⟩ => XK.out.ne a ha e), ?_⟩
                · rcases hj with hj | ⟨a, ha, e⟩
                  · refine ⟨.inl (.inl hj), ?_⟩
                    rw [hj]
                    exact Nat.lt_of_lt_of_le (Nat.lt_of_lt_of_le XK.out.kb.lt HB6.out.size) HK9.out.size
                  · refine ⟨?_, by rw [e]; exact HSL9.out.lt ha⟩
                    rcases HA9.out a ha with ⟨a', ha', e'⟩ | hge
                    · exact .inl (.inr ⟨a', ha', by rw [e, e']⟩)
                    · exact .inr (by rw [e]; exact hge)
                · have := HSL9.out
                  rw [HKFE.out, HSLN.out] at this
                  rw [List.flatMap_append, List.length_append]
                  simpa using this)
              go_roundw
              case rel => exact ⟨i + 1, K, r.s, U, sent ++ [(s.C.key, n)], A9, c9, by omega, by go_num, by first | rfl | go_num, by rw [List.length_append, ← HSLN.out]; rfl, HUQ.out, HUF.out⟩
              case measure => simp [intOf]; omega
      have t2 : (kd == 2) = false := by simpa using q2
      by_cases q3 : kd = 3
      · subst q3
        have HCF := Lib.hid (solon_confirm UW0.out.so sv.cnt)
        have k2 := HC2.out wr G4.out
        have HCK : Hid ((s.confirmed sv.cnt).2.C.key = s.C.key) := Lib.hid (by unfold TS.confirmed; split <;> rfl)
        clear hQL hPL hSL t1 t2 q1 q2
        go_wp2_with (go_at_call 20; with_reducible refine (HCF.out).mono ?_; rintro e w5 ⟨rfl, hS, hk⟩; have S5 := Lib.hid hS; have K5 := Lib.hid hk; clear hS hk)
        go_roundw
        case rel => exact ⟨i + 1, K, _, U, sent, A7, c7, by omega, by go_num, rfl, rfl, UQ0.out.confirm sv.cnt, UW0.out.call S5.out K5.out HCK.out⟩
        case measure => simp [intOf]; omega
      have t3 : (kd == 3) = false := by simpa using q3
      by_cases q4 : kd = 4
      · subst q4
        have HRK := Lib.hid (fun V (hS : SoloN w3 V h s (fun k => k = kb ∨ blkOf A7 k)) => solon_rekey hS U UQ0.out.used UQ0.out.comp (by omega) sv.key sv.code)
        have HUR := UQ0.out.rekey sv.key sv.code SO.out.key SO.out.code
        have HR1 := Lib.hid (show ∀ W', Below w.heap.size w W' → W'.rangeAt lb (lo + i * 36 + 4) (kArr sv.key).toList from fun W' hW => (SV.key_range (HCL.out W' hW)).1)
        have HR2 := Lib.hid (show ∀ W', Below w.heap.size w W' → W'.rangeAt lb (lo + i * 36 + 20) (kArr sv.code).toList from fun W' hW => (SV.key_range (HCL.out W' hW)).2)
        have HSK1 := Lib.hid (k_size sv.key)
        have HSK2 := Lib.hid (k_size sv.code)
        have HSKA := Lib.hid (k_sizeA sv.key)
        have HOKK := Lib.hid (k_one sv.key)
        have HKSZ : Hid ((kArr s.C.key).size = (kArr sv.key).size) := Lib.hid rfl
        obtain ⟨KF, hKF⟩ : ∃ KF, KF = kArr sv.key := ⟨_, rfl⟩
        obtain ⟨KC, hKC⟩ : ∃ KC, KC = kArr sv.code := ⟨_, rfl⟩
        have HKF := Lib.hid hKF
        rw [← hKF] at HRK HR1 HSK1 HSKA HOKK HKSZ
        rw [← hKC] at HRK HR2 HSK2
        unfold TS.rekey at HRK HUR
        clear hQL hPL hSL t1 t2 t3 q1 q2 q3 hKF hKC
        rcases Bool.eq_false_or_eq_true (hasKey sv.key U) with hk | hk
        · rw [if_pos hk] at HRK HUR
          clear HUR hk

          go_upto_region 34 with (fail)
          have HSB1 := Lib.hid (HRK.out wr.drew (UW0.out.so.below (Below.refl _ _).drew))
          refine wp_region_held_drew (S := fun w' => Below w.heap.size w w') (by kernel_rfl) G4.out.drew (fun hHeld => ?_)
          obtain ⟨u0, hu0⟩ : ∃ u0, u0 = wr.drew := ⟨_, rfl⟩
          rw [← hu0]
          rw [← hu0] at hHeld HSB1
          have HW0 := Lib.hid (show ∀ k : Nat, u0.heap[k]? = wr.heap[k]? from fun k => by rw [hu0]; rfl)
          clear hu0
          refine wpAnyH_take (i := 0) (oi := ⟨some 125, _, _, _, _, _⟩) (v := .pointer (some ⟨h, 0, none⟩)) rfl (by kernel_rfl) (by kernel_rfl) (by kernel_rfl) (fun _ _ _ h => h) (Or.inl ⟨by rfl, fun W hW => (by rfl)⟩) (by assumption) ?_
          try simp only [Act.put, List.setIfInBounds_toArray, List.set_cons_zero, List.set_cons_succ]
          refine wpAnyH_take (i := 1) (oi := ⟨some 126, _, _, _, _, _⟩) (v := .slice (some ⟨lb, lo, none⟩) m cp) rfl (by kernel_rfl) (by kernel_rfl) (by kernel_rfl) (fun _ _ _ h => h) (Or.inl ⟨by rfl, fun W hW => (by rfl)⟩) (by assumption) ?_
          try simp only [Act.put, List.setIfInBounds_toArray, List.set_cons_zero, List.set_cons_succ]
          refine wpAnyH_take (i := 2) (oi := ⟨some 127, _, _, _, _, _⟩) (v := .int .i64 (i : Int)) rfl (by kernel_rfl) (by kernel_rfl) (by kernel_rfl) (fun _ _ _ h => h) (Or.inl ⟨by rfl, fun W hW => (by rfl)⟩) (by assumption) ?_
          try simp only [Act.put, List.setIfInBounds_toArray, List.set_cons_zero, List.set_cons_succ]
          refine wpAnyH_take (i := 3) (oi := ⟨some 128, _, _, _, _, _⟩) (v := .pointer (some ⟨lb, lo + i * 36, none⟩)) rfl (by kernel_rfl) (by kernel_rfl) (by kernel_rfl) (fun _ _ _ h => h) (Or.inl ⟨by rfl, fun W hW => (by go_simp)⟩) (by assumption) ?_
          try simp only [Act.put, List.setIfInBounds_toArray, List.set_cons_zero, List.set_cons_succ]
          refine wpAnyH_take (i := 4) (oi := ⟨some 129, _, _, _, _, _⟩) (v := .pointer (some ⟨lb, lo + i * 36 + 4, none⟩)) rfl (by kernel_rfl) (by kernel_rfl) (by kernel_rfl) (fun _ _ _ h => h) (Or.inl ⟨by rfl, fun W hW => (by go_simp)⟩) (by assumption) ?_
          try simp only [Act.put, List.setIfInBounds_toArray, List.set_cons_zero, List.set_cons_succ]
          refine' wpAnyH_take (i := 5) (oi := ⟨some 130, _, _, _, _, _⟩) (v := _) rfl (by kernel_rfl) (by kernel_rfl) (by kernel_rfl) (fun _ _ _ h => h) (yieldsIf_load_mid (by rfl) _ _ rfl lb (lo + i * 36 + 4) rfl KF.toList _ (fun w h => HR1.out w h) HUK.out rfl HSK1.out) (by assumption) ?_
          try simp only [Act.put, List.setIfInBounds_toArray, List.set_cons_zero, List.set_cons_succ]
          refine wpAnyH_take (i := 6) (oi := ⟨some 131, _, _, _, _, _⟩) (v := .slice (some ⟨lb, lo, none⟩) m cp) rfl (by kernel_rfl) (by kernel_rfl) (by kernel_rfl) (fun _ _ _ h => h) (Or.inl ⟨by rfl, fun W hW => (by rfl)⟩) (by assumption) ?_
          try simp only [Act.put, List.setIfInBounds_toArray, List.set_cons_zero, List.set_cons_succ]
          refine wpAnyH_take (i := 7) (oi := ⟨some 132, _, _, _, _, _⟩) (v := .int .i64 (i : Int)) rfl (by kernel_rfl) (by kernel_rfl) (by kernel_rfl) (fun _ _ _ h => h) (Or.inl ⟨by rfl, fun W hW => (by rfl)⟩) (by assumption) ?_
          try simp only [Act.put, List.setIfInBounds_toArray, List.set_cons_zero, List.set_cons_succ]
          refine wpAnyH_take (i := 8) (oi := ⟨some 133, _, _, _, _, _⟩) (v := .pointer (some ⟨lb, lo + i * 36, none⟩)) rfl (by kernel_rfl) (by kernel_rfl) (by kernel_rfl) (fun _ _ _ h => h) (Or.inl ⟨by rfl, fun W hW => (by go_simp)⟩) (by assumption) ?_
          try simp only [Act.put, List.setIfInBounds_toArray, List.set_cons_zero, List.set_cons_succ]
          refine wpAnyH_take (i := 9) (oi := ⟨some 134, _, _, _, _, _⟩) (v := .pointer (some ⟨lb, lo + i * 36 + 20, none⟩)) rfl (by kernel_rfl) (by kernel_rfl) (by kernel_rfl) (fun _ _ _ h => h) (Or.inl ⟨by rfl, fun W hW => (by go_simp)⟩) (by assumption) ?_
          try simp only [Act.put, List.setIfInBounds_toArray, List.set_cons_zero, List.set_cons_succ]
          refine' wpAnyH_take (i := 10) (oi := ⟨some 135, _, _, _, _, _⟩) (v := _) rfl (by kernel_rfl) (by kernel_rfl) (by kernel_rfl) (fun _ _ _ h => h) (yieldsIf_load_mid (by rfl) _ _ rfl lb (lo + i * 36 + 20) rfl KC.toList _ (fun w h => HR2.out w h) HUK.out rfl HSK2.out) (by assumption) ?_
          try simp only [Act.put, List.setIfInBounds_toArray, List.set_cons_zero, List.set_cons_succ]
          refine wpAnyH_ready (rs := [11]) (by kernel_rfl) (by simp) ?_
          refine AllReadyH.cons (o := ⟨some 136, _, _, _, _, _⟩) rfl (fun K hK => ?_) AllReadyH.nil
          rw [if_pos (by rfl)]
          go_simp
          refine (HSB1.out).mono ?_
          rintro e u1 ⟨rfl, hS, hk⟩
          dsimp only
          have hE : Below w.heap.size w u1 := F2.out.trans (hS.low.mono F2.out.size)
          have HS' := Lib.hid hS
          have HK' := Lib.hid hk
          refine hK.out _ _ hE (fun hHeld => ?_)
          clear hK K hE hS hk
          try simp only [Act.put, List.setIfInBounds_toArray, List.set_cons_zero, List.set_cons_succ]
          refine wpAnyH_take (i := 12) (oi := ⟨some 137, _, _, _, _, _⟩) (v := .bool false) rfl (by kernel_rfl) (by kernel_rfl) (by kernel_rfl) (fun _ _ _ h => h) (Or.inl ⟨by rfl, fun W hW => (by go_simp)⟩) (by assumption) ?_
          try simp only [Act.put, List.setIfInBounds_toArray, List.set_cons_zero, List.set_cons_succ]
          refine wpAnyH_done (by kernel_rfl) ?_ _
          have HB2 := Lib.hid hHeld
          clear hHeld
          go_wp2
          go_roundw
          case rel => exact ⟨i + 1, K, s, U, sent, A7, c7, by omega, by go_num, rfl, rfl, UQ0.out.step, UW0.out.call HS'.out (fun k hk => (HK'.out k hk).trans (HW0.out k)) rfl⟩
          case measure => simp [intOf]; omega
        · rw [if_neg (by rw [hk]; decide)] at HRK HUR
          obtain ⟨U', hU'⟩ := HUR
          have HUQ := Lib.hid hU'
          clear hU' hk

          go_upto_region 34 with (fail)
          have HSB1 := Lib.hid (HRK.out wr.drew (UW0.out.so.below (Below.refl _ _).drew))
          refine wp_region_held_drew (S := fun w' => Below w.heap.size w w') (by kernel_rfl) G4.out.drew (fun hHeld => ?_)
          obtain ⟨u0, hu0⟩ : ∃ u0, u0 = wr.drew := ⟨_, rfl⟩
          rw [← hu0]
          rw [← hu0] at hHeld HSB1
          have HW0 := Lib.hid (show ∀ k : Nat, u0.heap[k]? = wr.heap[k]? from fun k => by rw [hu0]; rfl)
          clear hu0
          refine wpAnyH_take (i := 0) (oi := ⟨some 125, _, _, _, _, _⟩) (v := .pointer (some ⟨h, 0, none⟩)) rfl (by kernel_rfl) (by kernel_rfl) (by kernel_rfl) (fun _ _ _ h => h) (Or.inl ⟨by rfl, fun W hW => (by rfl)⟩) (by assumption) ?_
          try simp only [Act.put, List.setIfInBounds_toArray, List.set_cons_zero, List.set_cons_succ]
          refine wpAnyH_take (i := 1) (oi := ⟨some 126, _, _, _, _, _⟩) (v := .slice (some ⟨lb, lo, none⟩) m cp) rfl (by kernel_rfl) (by kernel_rfl) (by kernel_rfl) (fun _ _ _ h => h) (Or.inl ⟨by rfl, fun W hW => (by rfl)⟩) (by assumption) ?_
          try simp only [Act.put, List.setIfInBounds_toArray, List.set_cons_zero, List.set_cons_succ]
          refine wpAnyH_take (i := 2) (oi := ⟨some 127, _, _, _, _, _⟩) (v := .int .i64 (i : Int)) rfl (by kernel_rfl) (by kernel_rfl) (by kernel_rfl) (fun _ _ _ h => h) (Or.inl ⟨by rfl, fun W hW => (by rfl)⟩) (by assumption) ?_
          try simp only [Act.put, List.setIfInBounds_toArray, List.set_cons_zero, List.set_cons_succ]
          refine wpAnyH_take (i := 3) (oi := ⟨some 128, _, _, _, _, _⟩) (v := .pointer (some ⟨lb, lo + i * 36, none⟩)) rfl (by kernel_rfl) (by kernel_rfl) (by kernel_rfl) (fun _ _ _ h => h) (Or.inl ⟨by rfl, fun W hW => (by go_simp)⟩) (by assumption) ?_
          try simp only [Act.put, List.setIfInBounds_toArray, List.set_cons_zero, List.set_cons_succ]
          refine wpAnyH_take (i := 4) (oi := ⟨some 129, _, _, _, _, _⟩) (v := .pointer (some ⟨lb, lo + i * 36 + 4, none⟩)) rfl (by kernel_rfl) (by kernel_rfl) (by kernel_rfl) (fun _ _ _ h => h) (Or.inl ⟨by rfl, fun W hW => (by go_simp)⟩) (by assumption) ?_
          try simp only [Act.put, List.setIfInBounds_toArray, List.set_cons_zero, List.set_cons_succ]
          refine' wpAnyH_take (i := 5) (oi := ⟨some 130, _, _, _, _, _⟩) (v := _) rfl (by kernel_rfl) (by kernel_rfl) (by kernel_rfl) (fun _ _ _ h => h) (yieldsIf_load_mid (by rfl) _ _ rfl lb (lo + i * 36 + 4) rfl KF.toList _ (fun w h => HR1.out w h) HUK.out rfl HSK1.out) (by assumption) ?_
          try simp only [Act.put, List.setIfInBounds_toArray, List.set_cons_zero, List.set_cons_succ]
          refine wpAnyH_take (i := 6) (oi := ⟨some 131, _, _, _, _, _⟩) (v := .slice (some ⟨lb, lo, none⟩) m cp) rfl (by kernel_rfl) (by kernel_rfl) (by kernel_rfl) (fun _ _ _ h => h) (Or.inl ⟨by rfl, fun W hW => (by rfl)⟩) (by assumption) ?_
          try simp only [Act.put, List.setIfInBounds_toArray, List.set_cons_zero, List.set_cons_succ]
          refine wpAnyH_take (i := 7) (oi := ⟨some 132, _, _, _, _, _⟩) (v := .int .i64 (i : Int)) rfl (by kernel_rfl) (by kernel_rfl) (by kernel_rfl) (fun _ _ _ h => h) (Or.inl ⟨by rfl, fun W hW => (by rfl)⟩) (by assumption) ?_
          try simp only [Act.put, List.setIfInBounds_toArray, List.set_cons_zero, List.set_cons_succ]
          refine wpAnyH_take (i := 8) (oi := ⟨some 133, _, _, _, _, _⟩) (v := .pointer (some ⟨lb, lo + i * 36, none⟩)) rfl (by kernel_rfl) (by kernel_rfl) (by kernel_rfl) (fun _ _ _ h => h) (Or.inl ⟨by rfl, fun W hW => (by go_simp)⟩) (by assumption) ?_
          try simp only [Act.put, List.setIfInBounds_toArray, List.set_cons_zero, List.set_cons_succ]
          refine wpAnyH_take (i := 9) (oi := ⟨some 134, _, _, _, _, _⟩) (v := .pointer (some ⟨lb, lo + i * 36 + 20, none⟩)) rfl (by kernel_rfl) (by kernel_rfl) (by kernel_rfl) (fun _ _ _ h => h) (Or.inl ⟨by rfl, fun W hW => (by go_simp)⟩) (by assumption) ?_
          try simp only [Act.put, List.setIfInBounds_toArray, List.set_cons_zero, List.set_cons_succ]
          refine' wpAnyH_take (i := 10) (oi := ⟨some 135, _, _, _, _, _⟩) (v := _) rfl (by kernel_rfl) (by kernel_rfl) (by kernel_rfl) (fun _ _ _ h => h) (yieldsIf_load_mid (by rfl) _ _ rfl lb (lo + i * 36 + 20) rfl KC.toList _ (fun w h => HR2.out w h) HUK.out rfl HSK2.out) (by assumption) ?_
          try simp only [Act.put, List.setIfInBounds_toArray, List.set_cons_zero, List.set_cons_succ]
          refine wpAnyH_ready (rs := [11]) (by kernel_rfl) (by simp) ?_
          refine AllReadyH.cons (o := ⟨some 136, _, _, _, _, _⟩) rfl (fun K hK => ?_) AllReadyH.nil
          rw [if_pos (by rfl)]
          go_simp
          refine (HSB1.out).mono ?_
          rintro e u1 ⟨rfl, hS, hk⟩
          dsimp only
          have hE : Below w.heap.size w u1 := F2.out.trans (hS.low.mono F2.out.size)
          have HS' := Lib.hid hS
          have HK' := Lib.hid hk
          refine hK.out _ _ hE (fun hHeld => ?_)
          clear hK K hE hS hk
          try simp only [Act.put, List.setIfInBounds_toArray, List.set_cons_zero, List.set_cons_succ]
          refine wpAnyH_take (i := 12) (oi := ⟨some 137, _, _, _, _, _⟩) (v := .bool true) rfl (by kernel_rfl) (by kernel_rfl) (by kernel_rfl) (fun _ _ _ h => h) (Or.inl ⟨by rfl, fun W hW => (by go_simp)⟩) (by assumption) ?_
          try simp only [Act.put, List.setIfInBounds_toArray, List.set_cons_zero, List.set_cons_succ]
          refine wpAnyH_done (by kernel_rfl) ?_ _
          have HB2 := Lib.hid hHeld
          clear hHeld
          have HKB2 := Lib.hid (show Blk u1 kb 23 (kArr s.C.key) from ((HK'.out kb (.inl rfl)).trans (HW0.out kb)).trans UW0.out.kb)
          have HR12 := Lib.hid (HR1.out u1 HB2.out)
          have HSL2 := Lib.hid (UW0.out.sl.keep (w' := u1) (fun a ha => (HK'.out _ (.inr ⟨a, ha, rfl⟩)).trans (HW0.out _)))
          go_wp2_with (first
            | (refine wpList_load_mid rfl _ _ rfl lb (lo + i * 36 + 4) rfl KF.toList _ HR12.out HUK.out rfl HSK1.out ?_)
            | (refine wpList_store_row rfl _ _ _ rfl kb KF rfl rfl 23 (kArr s.C.key) HKB2.out HSKA.out HKSZ.out HOKK.out ?_))
          try simp only [Act.put]
          have hkf : KeepF (fun k => k = kb ∨ blkOf A7 k) u1 (u1.setRow kb KF) := keepF_row (KeepF.refl (F := fun k => k = kb ∨ blkOf A7 k)) (.inl rfl) KF
          have HX1 := Lib.hid (HS'.out.other (N' := fun k => k = kb ∨ blkOf A7 k) hkf (fun k hk => ⟨.inl hk, Nat.lt_of_lt_of_le (HS'.out.lt_of hk) hkf.size⟩))
          have HX2 := Lib.hid (show Blk (u1.setRow kb KF) kb 23 (kArr (s.rekeyed sv.key sv.code).C.key) from by
            have := setRow_heap _ _ _ KF 23 (0, 0) HKB2.out
            rw [HKF.out] at this ⊢
            exact this)
          have HX3 := Lib.hid (HSL2.out.keep (w' := u1.setRow kb KF) (fun a ha => setRow_other _ _ _ _ (fun e => UW0.out.ne a ha e.symm)))
          clear hkf
          go_roundw
          case rel => exact ⟨i + 1, K, _, U', sent, A7, c7, by omega, by go_num, rfl, rfl, HUQ.out, HX1.out, HX2.out, HX3.out⟩
          case measure => simp [intOf]; omega
      have t4 : (kd == 4) = false := by simpa using q4
      clear hQL hPL hSL q1 q2 q3 q4
      go_wp2
      go_roundw
      case rel => exact ⟨i + 1, K, s, U, sent, A7, c7, by omega, by go_num, rfl, rfl, UQ0.out.step, UW0.out⟩
      case measure => simp [intOf]; omega
end Go.Proofs.YtiffminhlimajaaGreat
