/- expand: equality of expanders and of the reference's; Clone, Contexts, Same of made expanders. -/
import Derived.Test.YtofaghpflmeblaaPR
import Derived.Laws.StructEq
import Derived.ChangeKeysEq
namespace Go.Proofs.Ytofaghpflmeblaa
open Go.RowKit
set_option linter.unusedVariables false
attribute [local go_sem ↓] Go.wp_at_zero Go.wp_at_succ

def ecEq (a b : Ec) : Bool := (a.hops == b.hops) && (a.ident == b.ident) && (a.time == b.time) && (a.valid == b.valid) && (a.f0 == b.f0) && (a.f1 == b.f1) && (a.f2 == b.f2) && (a.f3 == b.f3) && (a.f4 == b.f4) && (a.gen == b.gen) && (a.step == b.step)
theorem ecEq_iff (a b : Ec) : ecEq a b = true ↔ a = b := by
  unfold ecEq
  simp only [Bool.and_eq_true, beq_iff_eq]
  constructor
  · rintro ⟨⟨⟨⟨⟨⟨⟨⟨⟨⟨h0, h1⟩, h2⟩, h3⟩, h4⟩, h5⟩, h6⟩, h7⟩, h8⟩, h9⟩, h10⟩
    cases a; cases b
    simp_all
  · rintro rfl
    simp
set_option maxHeartbeats 4000000 in
theorem ectx_eq (a b : Ec) (d : Nat) (w : World) : (Op.equalIn (d + 3) 59 (.agg #[.int .i64 a.hops, .int .i64 a.ident, .int .i64 a.time, .bool a.valid, .int .i64 a.f0, .int .i64 a.f1, .int .i64 a.f2, .int .i64 a.f3, .int .i64 a.f4, .int .u8 a.gen, .int .i64 a.step]) (.agg #[.int .i64 b.hops, .int .i64 b.ident, .int .i64 b.time, .bool b.valid, .int .i64 b.f0, .int .i64 b.f1, .int .i64 b.f2, .int .i64 b.f3, .int .i64 b.f4, .int .u8 b.gen, .int .i64 b.step])).run Try.prog w = .ok (ecEq a b) w := by
  unfold ecEq
  by_cases h0 : a.hops = b.hops
  rotate_left
  · simp [go_sem, h0]
  by_cases h1 : a.ident = b.ident
  rotate_left
  · simp [go_sem, h0, h1]
  by_cases h2 : a.time = b.time
  rotate_left
  · simp [go_sem, h0, h1, h2]
  by_cases h3 : a.valid = b.valid
  rotate_left
  · simp [go_sem, h0, h1, h2, h3]
  by_cases h4 : a.f0 = b.f0
  rotate_left
  · simp [go_sem, h0, h1, h2, h3, h4]
  by_cases h5 : a.f1 = b.f1
  rotate_left
  · simp [go_sem, h0, h1, h2, h3, h4, h5]
  by_cases h6 : a.f2 = b.f2
  rotate_left
  · simp [go_sem, h0, h1, h2, h3, h4, h5, h6]
  by_cases h7 : a.f3 = b.f3
  rotate_left
  · simp [go_sem, h0, h1, h2, h3, h4, h5, h6, h7]
  by_cases h8 : a.f4 = b.f4
  rotate_left
  · simp [go_sem, h0, h1, h2, h3, h4, h5, h6, h7, h8]
  by_cases h9 : a.gen = b.gen
  rotate_left
  · simp [go_sem, h0, h1, h2, h3, h4, h5, h6, h7, h8, h9]
  by_cases h10 : a.step = b.step
  rotate_left
  · simp [go_sem, h0, h1, h2, h3, h4, h5, h6, h7, h8, h9, h10]
  simp [go_sem, h0, h1, h2, h3, h4, h5, h6, h7, h8, h9, h10]
set_option maxHeartbeats 4000000 in
theorem rctx_eq (a b : Ec) (d : Nat) (w : World) : (Op.equalIn (d + 3) 38 (.agg #[.bool a.valid, .int .i64 a.f0, .int .i64 a.f1, .int .i64 a.f2, .int .i64 a.f3, .int .i64 a.f4, .int .i64 a.hops, .int .i64 a.ident, .int .i64 a.time, .int .i64 0, .int .i64 a.gen, .int .i64 a.step]) (.agg #[.bool b.valid, .int .i64 b.f0, .int .i64 b.f1, .int .i64 b.f2, .int .i64 b.f3, .int .i64 b.f4, .int .i64 b.hops, .int .i64 b.ident, .int .i64 b.time, .int .i64 0, .int .i64 b.gen, .int .i64 b.step])).run Try.prog w = .ok (ecEq a b) w := by
  unfold ecEq
  by_cases h0 : a.valid = b.valid
  rotate_left
  · simp [go_sem, h0]
  by_cases h1 : a.f0 = b.f0
  rotate_left
  · simp [go_sem, h0, h1]
  by_cases h2 : a.f1 = b.f1
  rotate_left
  · simp [go_sem, h0, h1, h2]
  by_cases h3 : a.f2 = b.f2
  rotate_left
  · simp [go_sem, h0, h1, h2, h3]
  by_cases h4 : a.f3 = b.f3
  rotate_left
  · simp [go_sem, h0, h1, h2, h3, h4]
  by_cases h5 : a.f4 = b.f4
  rotate_left
  · simp [go_sem, h0, h1, h2, h3, h4, h5]
  by_cases h6 : a.hops = b.hops
  rotate_left
  · simp [go_sem, h0, h1, h2, h3, h4, h5, h6]
  by_cases h7 : a.ident = b.ident
  rotate_left
  · simp [go_sem, h0, h1, h2, h3, h4, h5, h6, h7]
  by_cases h8 : a.time = b.time
  rotate_left
  · simp [go_sem, h0, h1, h2, h3, h4, h5, h6, h7, h8]
  by_cases h9 : a.gen = b.gen
  rotate_left
  · simp [go_sem, h0, h1, h2, h3, h4, h5, h6, h7, h8, h9]
  by_cases h10 : a.step = b.step
  rotate_left
  · simp [go_sem, h0, h1, h2, h3, h4, h5, h6, h7, h8, h9, h10]
  simp [go_sem, h0, h1, h2, h3, h4, h5, h6, h7, h8, h9, h10]
def eqAll (S T : Nat → Ec) : List Nat → Bool
  | [] => true
  | i :: is => ecEq (S i) (T i) && eqAll S T is
theorem eqAll_iff (S T : Nat → Ec) : ∀ is : List Nat, eqAll S T is = true ↔ ∀ i, i ∈ is → S i = T i
  | [] => by simp [eqAll]
  | j :: is => by
    unfold eqAll
    rw [Bool.and_eq_true, ecEq_iff, eqAll_iff S T is]
    simp
/-- are two states equal? -/
def sameE (S T : Nat → Ec) : Bool := eqAll S T (List.range 16)
theorem rx_part (S : Nat → Ec) (k : Nat) (hk : k < 16) : (rxArr S).extract (k * 12) (k * 12 + 12) = (S k).rcells.toArray := by
  apply Array.ext_getElem?
  intro j
  rw [Array.getElem?_extract]
  by_cases hj : j < 12
  · rw [if_pos (by rw [rxArr_size]; omega), rxArr_at S _ (by omega), show (k * 12 + j) / 12 = k by omega, show (k * 12 + j) % 12 = j by omega]
    unfold Ec.rcell
    simp only [List.getElem?_toArray]
    have : j < (S k).rcells.length := hj
    rw [List.getD, List.getElem?_eq_getElem this]
    rfl
  · rw [if_neg (by rw [rxArr_size]; omega)]
    rw [Array.getElem?_eq_none (by show 12 ≤ j; omega)]
theorem sizeRc : (Try.prog.info? 38).map (·.size) = some 12 := by kernel_rfl
theorem cellsEc : Try.prog.cellsOf 59 = 11 := by kernel_rfl
theorem cellsRc : Try.prog.cellsOf 38 = 12 := by kernel_rfl

theorem ea_partrun (S : Nat → Ec) (i : Nat) (hi : i < 16) (w : World) : (part 59 (eaArr S) (i * 11)).run Try.prog w = .ok (.agg (S i).cells.toArray) w := by
  have hu := Try.underlying59
  obtain ⟨q, hq, hqs⟩ : ∃ q, Try.prog.info? 59 = some q ∧ q.size = 11 := by
    have hs := sizeEc
    cases hq : Try.prog.info? 59 with
    | none => rw [hq] at hs; cases hs
    | some q => rw [hq] at hs; exact ⟨q, rfl, by simpa using hs⟩
  have hp := ea_part S i hi
  simp [part, Sem.run_bind, sizeOf, typeInfo, hq, hqs, hp]
  try rfl
theorem ea_items (S T : Nat → Ec) (d : Nat) : ∀ (is : List Nat) (_ : ∀ i, i ∈ is → i < 16) (w : World), (Op.eqItems (d + 3) 59 11 (eaArr S) (eaArr T) is).run Try.prog w = .ok (eqAll S T is) w
  | [], _, w => by simp [Op.eqItems, eqAll]
  | i :: is, h, w => by
    simp only [Op.eqItems, Sem.run_bind, ea_partrun S i (h i (by simp)) w, ea_partrun T i (h i (by simp)) w, Result.andThen_ok]
    have e := ectx_eq (S i) (T i) d w
    rw [show (Op.equalIn (d + 3) 59 (.agg (S i).cells.toArray) (.agg (T i).cells.toArray)).run Try.prog w = .ok (ecEq (S i) (T i)) w from e]
    simp only [Result.andThen_ok]
    unfold eqAll
    cases hr : ecEq (S i) (T i)
    · simp
    · have := ea_items S T d is (fun j hj => h j (by simp [hj])) w
      simp [this]
theorem ea_eqarr (S T : Nat → Ec) (d : Nat) (w : World) : (Op.equalIn (d + 4) 60 (.agg (eaArr S)) (.agg (eaArr T))).run Try.prog w = .ok (sameE S T) w := by
  obtain ⟨q, hq⟩ : ∃ q, Try.prog.info? 59 = some q := by
    have hs := sizeEc
    cases hq : Try.prog.info? 59 with
    | none => rw [hq] at hs; cases hs
    | some q => exact ⟨q, rfl⟩
  rw [run_equalIn_array w (d + 3) (eaArr S) (eaArr T) Try.underlying60 hq, cellsEc, ea_items S T d (List.range 16) (fun i hi => by simpa using hi) w]
  rfl
theorem rx_partrun (S : Nat → Ec) (i : Nat) (hi : i < 16) (w : World) : (part 38 (rxArr S) (i * 12)).run Try.prog w = .ok (.agg (S i).rcells.toArray) w := by
  have hu := Try.underlying38
  obtain ⟨q, hq, hqs⟩ : ∃ q, Try.prog.info? 38 = some q ∧ q.size = 12 := by
    have hs := sizeRc
    cases hq : Try.prog.info? 38 with
    | none => rw [hq] at hs; cases hs
    | some q => rw [hq] at hs; exact ⟨q, rfl, by simpa using hs⟩
  have hp := rx_part S i hi
  simp [part, Sem.run_bind, sizeOf, typeInfo, hq, hqs, hp]
  try rfl
theorem rx_items (S T : Nat → Ec) (d : Nat) : ∀ (is : List Nat) (_ : ∀ i, i ∈ is → i < 16) (w : World), (Op.eqItems (d + 3) 38 12 (rxArr S) (rxArr T) is).run Try.prog w = .ok (eqAll S T is) w
  | [], _, w => by simp [Op.eqItems, eqAll]
  | i :: is, h, w => by
    simp only [Op.eqItems, Sem.run_bind, rx_partrun S i (h i (by simp)) w, rx_partrun T i (h i (by simp)) w, Result.andThen_ok]
    have e := rctx_eq (S i) (T i) d w
    rw [show (Op.equalIn (d + 3) 38 (.agg (S i).rcells.toArray) (.agg (T i).rcells.toArray)).run Try.prog w = .ok (ecEq (S i) (T i)) w from e]
    simp only [Result.andThen_ok]
    unfold eqAll
    cases hr : ecEq (S i) (T i)
    · simp
    · have := rx_items S T d is (fun j hj => h j (by simp [hj])) w
      simp [this]
theorem rx_eqarr (S T : Nat → Ec) (d : Nat) (w : World) : (Op.equalIn (d + 4) 39 (.agg (rxArr S)) (.agg (rxArr T))).run Try.prog w = .ok (sameE S T) w := by
  obtain ⟨q, hq⟩ : ∃ q, Try.prog.info? 38 = some q := by
    have hs := sizeRc
    cases hq : Try.prog.info? 38 with
    | none => rw [hq] at hs; cases hs
    | some q => exact ⟨q, rfl⟩
  rw [run_equalIn_array w (d + 3) (rxArr S) (rxArr T) Try.underlying39 hq, cellsRc, rx_items S T d (List.range 16) (fun i hi => by simpa using hi) w]
  rfl
theorem ea_eql (S T : Nat → Ec) (w : World) : (binOp .eql 60 (.agg (eaArr S)) (.agg (eaArr T))).run Try.prog w = .ok (.bool (sameE S T)) w := by
  rw [run_eql_struct, show (10000 : Nat) = 9996 + 4 from rfl, ea_eqarr S T 9996 w]
  rfl
theorem fieldsRx : (Try.prog.fieldsOf 41).toList.map (fun f => (f.name == "_", f.type, f.offset)) = [(false, 39, 0)] := by kernel_rfl
theorem sizeRa : (Try.prog.info? 39).map (·.size) = some 192 := by kernel_rfl
theorem heldRx : Try.prog.stoodInHeld 41 = false := by kernel_rfl
theorem structRx : Try.prog.underlying 41 = some (.struct (Try.prog.fieldsOf 41)) := by kernel_rfl
theorem rx_whole (S : Nat → Ec) (w : World) : (part 39 (rxArr S) 0).run Try.prog w = .ok (.agg (rxArr S)) w := by
  have hu := Try.underlying39
  obtain ⟨q, hq, hqs⟩ : ∃ q, Try.prog.info? 39 = some q ∧ q.size = 192 := by
    have hs := sizeRa
    cases hq : Try.prog.info? 39 with
    | none => rw [hq] at hs; cases hs
    | some q => rw [hq] at hs; exact ⟨q, rfl, by simpa using hs⟩
  have hx : (rxArr S).extract 0 192 = rxArr S := by
    have := Array.extract_size (xs := rxArr S)
    rwa [rxArr_size] at this
  simp [part, Sem.run_bind, sizeOf, typeInfo, hq, hqs, hx]
theorem rx_equal (S T : Nat → Ec) (w : World) : (Op.equalIn 10000 41 (.agg (rxArr S)) (.agg (rxArr T))).run Try.prog w = .ok (sameE S T) w := by
  rw [show (10000 : Nat) = 9999 + 1 from rfl, run_equalIn_struct w 9999 _ _ _ structRx heldRx]
  have hf := fieldsRx
  obtain ⟨f, hfs, hn, ht, ho⟩ : ∃ f, (Try.prog.fieldsOf 41).toList = [f] ∧ (f.name == "_") = false ∧ f.type = 39 ∧ f.offset = 0 := by
    cases hl : (Try.prog.fieldsOf 41).toList with
    | nil => rw [hl] at hf; cases hf
    | cons f l =>
      cases l with
      | nil => rw [hl] at hf; simp at hf; exact ⟨f, rfl, by simpa using hf.1, hf.2.1, hf.2.2⟩
      | cons _ _ => rw [hl] at hf; simp at hf
  have hn' : f.name ≠ "_" := by simpa using hn
  have e := rx_eqarr S T 9995 w
  rw [hfs]
  simp only [Op.eqFields, if_pos hn', ht, ho, Sem.run_bind, rx_whole, Result.andThen_ok]
  rw [show (9999 : Nat) = 9995 + 4 from rfl, e]
  cases sameE S T <;> rfl
theorem rx_eql (S T : Nat → Ec) (w : World) : (binOp .eql 41 (.agg (rxArr S)) (.agg (rxArr T))).run Try.prog w = .ok (.bool (sameE S T)) w := by
  rw [run_eql_struct, rx_equal S T w]
  rfl

set_option maxRecDepth 100000 in
theorem eclone_made (g : Nat) (S : Nat → Ec) (w : World) (h : EB w g true S) :
    Calls Try.prog 19 #[.pointer (some ⟨g, 0, none⟩)] w fun e w' => e = .returned (.pointer (some ⟨w.heap.size, 0, none⟩)) ∧ EB w' w.heap.size true S ∧ Below w.heap.size w w' := by
  have HB := Lib.hid (enone_ok g true S w h)
  have hz := zeroEx
  obtain ⟨L, hL⟩ : ∃ L, L = esArr true S := ⟨_, rfl⟩
  obtain ⟨Z, hZ⟩ : ∃ Z, Z = esArr false (fun _ => Ec.zero) := ⟨_, rfl⟩
  have HSZ : Hid ((Try.prog.info? 62).map (·.size) = some L.size) := Lib.hid (by rw [hL, esArr_size]; exact sizeEx)
  have HS2 : Hid (Z.size = L.size) := Lib.hid (by rw [hL, hZ, esArr_size, esArr_size])
  have HO1 : Hid (L.all (·.oneCell') = true) := Lib.hid (by rw [hL]; exact es_one true S)
  have HK := Lib.hid (show Blk w g 62 L from by rw [hL]; exact h)
  have HL := Lib.hid hL
  rw [← hZ] at hz
  clear h hL hZ
  go_enter Try.func19, Try.ntmps19
  go_wp2_with (first
    | (go_at_call 28; refine (HB.out).mono ?_; rintro e w1 ⟨rfl, rfl⟩)
    | (refine wpList_load_row rfl _ _ rfl g rfl 62 L (0, 0) _ HK.out Try.underlying62 rfl HSZ.out ?_)
    | (refine wpList_store_row rfl _ _ _ rfl w.heap.size L rfl rfl 62 Z (Blk.new w _ _) HSZ.out HS2.out HO1.out ?_))
  go_ret
  refine ⟨rfl, ?_, belowRow ((Below.refl _ w).alloc (Nat.le_refl _) _) (Nat.le_refl _) _⟩
  unfold EB
  rw [← HL.out]
  exact Blk.setRow (Blk.new w _ _)
theorem es_range (g : Nat) (S : Nat → Ec) (w : World) (h : EB w g true S) : w.rangeAt g 1 (eaArr S).toList := fun j v hv => by
  have hj : j < 176 := by
    have := (List.getElem?_eq_some_iff.1 hv).1
    rw [Array.length_toList, eaArr_size] at this
    exact this
  have h2 : w.cell? ⟨g, 1 + j, none⟩ = some (eval_ true S (1 + j)) := (Blk.cell h (1 + j)).trans (esArr_at _ _ (1 + j) (by omega))
  rw [h2]
  have h3 := eaArr_at S j hj
  rw [← Array.getElem?_toList, hv] at h3
  unfold eval_
  rw [if_neg (by omega), show 1 + j - 1 = j by omega]
  exact h3.symm
set_option maxRecDepth 100000 in
theorem econtexts_made (g : Nat) (S : Nat → Ec) (w : World) (h : EB w g true S) : Calls Try.prog 21 #[.pointer (some ⟨g, 0, none⟩)] w fun e w' => e = .returned (.func (.func 39) #[] #[.pointer (some ⟨w.heap.size, 0, none⟩)]) ∧ Blk w' w.heap.size 60 (eaArr S) ∧ Below w.heap.size w w' := by
  have hmf : ∀ (fn : Fn) (first cap : Array Value) (w : World), (Instr.makeFunc fn first cap).run Try.prog w = .ok (.func fn first cap) w := fun _ _ _ _ => rfl
  have hz := zeroEa
  have HRG0 := Lib.hid (fun o : Obj => es_range g S (w.alloc o) (h.alloc o))
  obtain ⟨L, hL⟩ : ∃ L : List Value, L = (eaArr S).toList := ⟨_, rfl⟩
  obtain ⟨Z, hZ⟩ : ∃ Z, Z = eaArr (fun _ => Ec.zero) := ⟨_, rfl⟩
  have hLa : eaArr S = L.toArray := by rw [hL]
  have hl : L.length = 176 := by rw [hL, Array.length_toList, eaArr_size]
  have HIZ : Hid ((Try.prog.info? 60).map (·.size) = some L.length) := Lib.hid (by rw [hl]; exact sizeEa)
  have HIZ2 : Hid ((Try.prog.info? 60).map (·.size) = some L.toArray.size) := Lib.hid (by simpa using HIZ.out)
  have HZ2 : Hid (Z.size = L.toArray.size) := Lib.hid (by rw [hZ, eaArr_size]; simpa using hl.symm)
  have HO : Hid (L.toArray.all (·.oneCell') = true) := Lib.hid (by rw [← hLa]; exact ea_one S)
  have HB := Lib.hid (fun o : Obj => enone_ok g true S _ (h.alloc o))
  have HLA := Lib.hid hLa
  rw [← hL] at HRG0
  rw [← hZ] at hz
  clear h hL hZ hLa
  go_enter Try.func21, Try.ntmps21
  go_wp2_with (first
    | (go_at_call 28; refine (HB.out _).mono ?_; rintro e w1 ⟨rfl, rfl⟩)
    | (refine wpList_load_mid rfl 60 _ rfl g 1 rfl L _ (HRG0.out _) Try.underlying60 rfl HIZ.out ?_)
    | (refine wpList_store_row rfl _ _ _ rfl w.heap.size L.toArray rfl rfl 60 Z (Blk.new w _ _) HIZ2.out HZ2.out HO.out ?_))
  go_ret
  exact ⟨rfl, by rw [HLA.out]; exact Blk.setRow (Blk.new w _ _), belowRow ((Below.refl _ w).alloc (Nat.le_refl _) _) (Nat.le_refl _) _⟩

set_option maxRecDepth 100000 in
theorem esame_ok (ga gb : Nat) (S T : Nat → Ec) (w : World) (ha : EB w ga true S) (hb : EB w gb true T) :
    Calls Try.prog 20 #[.pointer (some ⟨ga, 0, none⟩), .pointer (some ⟨gb, 0, none⟩)] w fun e w' => e = .returned (.bool (sameE S T)) ∧ Below w.heap.size w w' := by
  have HA := Lib.hid (enone_ok ga true S w ha)
  have HB := Lib.hid (enone_ok gb true T w hb)
  have HRA := Lib.hid (fun (W : World) (hW : Below w.heap.size w W) => es_range ga S W (ha.below hW ha.lt))
  have HRB := Lib.hid (fun (W : World) (hW : Below w.heap.size w W) => es_range gb T W (hb.below hW hb.lt))
  have HEQ := Lib.hid (fun W => (show (Op.equalIn 10000 60 (.agg (eaArr S)) (.agg (eaArr T))).run Try.prog W = .ok (sameE S T) W from ea_eqarr S T 9996 W))
  obtain ⟨LA, hLA⟩ : ∃ LA : List Value, LA = (eaArr S).toList := ⟨_, rfl⟩
  obtain ⟨LB, hLB⟩ : ∃ LB : List Value, LB = (eaArr T).toList := ⟨_, rfl⟩
  have hA : eaArr S = LA.toArray := by rw [hLA]
  have hB : eaArr T = LB.toArray := by rw [hLB]
  have hia : (Try.prog.info? 60).map (·.size) = some LA.length := by rw [hLA, Array.length_toList, eaArr_size]; exact sizeEa
  have hib : (Try.prog.info? 60).map (·.size) = some LB.length := by rw [hLB, Array.length_toList, eaArr_size]; exact sizeEa
  have hu := Try.underlying60
  rw [← hLA] at HRA
  rw [← hLB] at HRB
  rw [hA, hB] at HEQ
  obtain ⟨r, hr⟩ : ∃ r, r = sameE S T := ⟨_, rfl⟩
  rw [← hr] at HEQ ⊢
  clear hLA hLB hr ha hb hA hB
  go_enter Try.func20, Try.ntmps20
  go_upto_region 3 with (first
    | (go_at_call 28; ((with_reducible refine (HA.out).mono ?_); rintro e w1 ⟨rfl, rfl⟩))
    | (go_at_call 28; ((with_reducible refine (HB.out).mono ?_); rintro e w1 ⟨rfl, rfl⟩)))
  refine wp_region_held_drew (S := fun w' => Below w.heap.size w w') (by kernel_rfl) (Below.refl _ w).drew (fun hHeld => ?_)
  refine wpAnyH_take (i := 0) (oi := ⟨some 17, _, _, _, _, _⟩) (v := .pointer (some ⟨ga, 0, none⟩)) rfl (by kernel_rfl) (by kernel_rfl) (by kernel_rfl) (fun _ _ _ h => h) (Or.inl ⟨by rfl, fun W hW => (by rfl)⟩) (by assumption) ?_
  try simp only [Act.put, List.setIfInBounds_toArray, List.set_cons_zero, List.set_cons_succ]
  refine wpAnyH_take (i := 1) (oi := ⟨some 18, _, _, _, _, _⟩) (v := .pointer (some ⟨ga, 0, none⟩)) rfl (by kernel_rfl) (by kernel_rfl) (by kernel_rfl) (fun _ _ _ h => h) (Or.inl ⟨by rfl, fun W hW => (by go_simp)⟩) (by assumption) ?_
  try simp only [Act.put, List.setIfInBounds_toArray, List.set_cons_zero, List.set_cons_succ]
  refine wpAnyH_take (i := 2) (oi := ⟨some 19, _, _, _, _, _⟩) (v := .pointer (some ⟨ga, 1, none⟩)) rfl (by kernel_rfl) (by kernel_rfl) (by kernel_rfl) (fun _ _ _ h => h) (Or.inl ⟨by rfl, fun W hW => (by go_simp)⟩) (by assumption) ?_
  try simp only [Act.put, List.setIfInBounds_toArray, List.set_cons_zero, List.set_cons_succ]
  refine' wpAnyH_take (i := 3) (oi := ⟨some 20, _, _, _, _, _⟩) (v := _) rfl (by kernel_rfl) (by kernel_rfl) (by kernel_rfl) (fun _ _ _ h => h) (yieldsIf_load_mid (by rfl) _ _ rfl _ _ rfl LA _ (fun w h => (fun w h => HRA.out w h) w h) hu rfl hia) (by assumption) ?_
  try simp only [Act.put, List.setIfInBounds_toArray, List.set_cons_zero, List.set_cons_succ]
  refine wpAnyH_take (i := 4) (oi := ⟨some 21, _, _, _, _, _⟩) (v := .pointer (some ⟨gb, 0, none⟩)) rfl (by kernel_rfl) (by kernel_rfl) (by kernel_rfl) (fun _ _ _ h => h) (Or.inl ⟨by rfl, fun W hW => (by rfl)⟩) (by assumption) ?_
  try simp only [Act.put, List.setIfInBounds_toArray, List.set_cons_zero, List.set_cons_succ]
  refine wpAnyH_take (i := 5) (oi := ⟨some 22, _, _, _, _, _⟩) (v := .pointer (some ⟨gb, 0, none⟩)) rfl (by kernel_rfl) (by kernel_rfl) (by kernel_rfl) (fun _ _ _ h => h) (Or.inl ⟨by rfl, fun W hW => (by go_simp)⟩) (by assumption) ?_
  try simp only [Act.put, List.setIfInBounds_toArray, List.set_cons_zero, List.set_cons_succ]
  refine wpAnyH_take (i := 6) (oi := ⟨some 23, _, _, _, _, _⟩) (v := .pointer (some ⟨gb, 1, none⟩)) rfl (by kernel_rfl) (by kernel_rfl) (by kernel_rfl) (fun _ _ _ h => h) (Or.inl ⟨by rfl, fun W hW => (by go_simp)⟩) (by assumption) ?_
  try simp only [Act.put, List.setIfInBounds_toArray, List.set_cons_zero, List.set_cons_succ]
  refine' wpAnyH_take (i := 7) (oi := ⟨some 24, _, _, _, _, _⟩) (v := _) rfl (by kernel_rfl) (by kernel_rfl) (by kernel_rfl) (fun _ _ _ h => h) (yieldsIf_load_mid (by rfl) _ _ rfl _ _ rfl LB _ (fun w h => (fun w h => HRB.out w h) w h) hu rfl hib) (by assumption) ?_
  try simp only [Act.put, List.setIfInBounds_toArray, List.set_cons_zero, List.set_cons_succ]
  refine wpAnyH_take (i := 8) (oi := ⟨some 25, _, _, _, _, _⟩) (v := .bool r) rfl (by kernel_rfl) (by kernel_rfl) (by kernel_rfl) (fun _ _ _ h => h) (Or.inl ⟨by rfl, fun W hW => (by have e := HEQ.out W; go_simp)⟩) (by assumption) ?_
  try simp only [Act.put, List.setIfInBounds_toArray, List.set_cons_zero, List.set_cons_succ]
  refine wpAnyH_take (i := 9) (oi := ⟨some 4, _, _, _, _, _⟩) (v := .bool r) rfl (by kernel_rfl) (by kernel_rfl) (by kernel_rfl) (fun _ _ _ h => h) (Or.inl ⟨by rfl, fun W hW => (by rfl)⟩) (by assumption) ?_
  try simp only [Act.put, List.setIfInBounds_toArray, List.set_cons_zero, List.set_cons_succ]
  refine wpAnyH_done (by kernel_rfl) ?_ _
  go_wp2
  go_ret
  exact ⟨rfl, (Below.refl _ w).drew⟩
end Go.Proofs.Ytofaghpflmeblaa
