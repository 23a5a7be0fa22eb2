/- compress: Contexts, Clone and Same of a compressor that New did not make. -/
import Derived.Test.YtejadoadpgcpjaaGP
namespace Go.Proofs.Ytejadoadpgcpjaa
open Go.RowKit Go.Shelf

attribute [local go_sem] Oper.semAt_some

theorem blk_at (W : World) (t : TypeId) (cs : Array Value) (N : Nat) (hN : W.heap.size = N) : Blk (W.alloc (.cells cs t)) N t cs := by
  subst hN; exact Blk.new W t cs
/-- the contexts as an array's cells -/
def caArr (S : Nat → Rx) : Array Value := Array.ofFn (n := 224) fun j => (S (j.1 / 14)).cell (j.1 % 14)
theorem caArr_size (S : Nat → Rx) : (caArr S).size = 224 := by simp [caArr]
theorem caArr_at (S : Nat → Rx) (j : Nat) (hj : j < 224) : (caArr S)[j]? = some ((S (j / 14)).cell (j % 14)) := by
  unfold caArr; simp [hj]
theorem zero89 : Try.zeroCells89 = caArr (fun _ => Rx.zero) := by kernel_rfl
theorem size89 : (Try.prog.info? 89).map (·.size) = some 224 := by kernel_rfl
theorem size88 : (Try.prog.info? 88).map (·.size) = some 14 := by kernel_rfl
theorem ca_one (S : Nat → Rx) : (caArr S).all (·.oneCell') = true := by
  rw [Array.all_eq_true]
  intro j hj
  have hj2 : j < 224 := by rw [caArr_size] at hj; exact hj
  have e := caArr_at S j hj2
  rw [Array.getElem?_eq_getElem hj] at e
  rw [Option.some.inj e]
  exact rx_one _ _ (by omega)
theorem ca_part (S : Nat → Rx) (k : Nat) (hk : k < 16) : (caArr S).extract (k * 14) (k * 14 + 14) = #[.int .i64 (S k).hops, .int .i64 (S k).ident, .int .i64 (S k).time, .bool (S k).used, .int .i64 (S k).f0, .int .i64 (S k).f1, .int .i64 (S k).f2, .int .i64 (S k).f3, .int .i64 (S k).f4, .bool (S k).began, .int .u8 (S k).gen, .int .i64 (S k).step, .bool (S k).need, .int .i64 (S k).turn] := by
  have hc : #[.int .i64 (S k).hops, .int .i64 (S k).ident, .int .i64 (S k).time, .bool (S k).used, .int .i64 (S k).f0, .int .i64 (S k).f1, .int .i64 (S k).f2, .int .i64 (S k).f3, .int .i64 (S k).f4, .bool (S k).began, .int .u8 (S k).gen, .int .i64 (S k).step, .bool (S k).need, .int .i64 (S k).turn] = (S k).cells.toArray := rfl
  rw [hc]
  apply Array.ext_getElem?
  intro j
  rw [Array.getElem?_extract]
  by_cases hj : j < 14
  · rw [if_pos (by rw [caArr_size]; omega), caArr_at S _ (by omega), show (k * 14 + j) / 14 = k by omega, show (k * 14 + j) % 14 = j by omega]
    unfold Rx.cell
    simp only [List.getElem?_toArray]
    have : j < (S k).cells.length := hj
    rw [List.getD, List.getElem?_eq_getElem this]
    rfl
  · rw [if_neg (by rw [caArr_size]; omega)]
    rw [Array.getElem?_eq_none (by show 14 ≤ j; omega)]
theorem agg_index (cs : Array Value) (k : Nat) (hk : k < 16) (X : World) (hs : (Try.prog.info? 88).map (·.size) = some 14) : (Instr.index 89 (.agg cs) (.int .i64 (k : Int))).run Try.prog X = .ok (.agg (cs.extract (k * 14) (k * 14 + 14))) X := by
  have hu := Try.underlying89
  obtain ⟨i, hi, his⟩ : ∃ i, Try.prog.info? 88 = some i ∧ i.size = 14 := by
    cases hq : Try.prog.info? 88 with
    | none => rw [hq] at hs; cases hs
    | some i => rw [hq] at hs; exact ⟨i, rfl, by simpa using hs⟩
  unfold Instr.index
  simp [Sem.run_bind, asIntOf, run_underlying hu X, part, sizeOf, typeInfo, hi, his]
  intro h; omega
theorem ca_index (S : Nat → Rx) (k : Nat) (hk : k < 16) (X : World) : (Instr.index 89 (.agg (caArr S)) (.int .i64 (k : Int))).run Try.prog X = .ok (.agg #[.int .i64 (S k).hops, .int .i64 (S k).ident, .int .i64 (S k).time, .bool (S k).used, .int .i64 (S k).f0, .int .i64 (S k).f1, .int .i64 (S k).f2, .int .i64 (S k).f3, .int .i64 (S k).f4, .bool (S k).began, .int .u8 (S k).gen, .int .i64 (S k).step, .bool (S k).need, .int .i64 (S k).turn]) X := by
  rw [agg_index _ k hk X size88, ca_part S k hk]

set_option maxRecDepth 100000 in
theorem contexts_nil (w : World) : Calls Try.prog 40 #[.pointer none] w fun e w' => e = .returned (.func (.func 71) #[] #[.pointer (some ⟨w.heap.size, 0, none⟩)]) ∧ w.alloc (.cells (caArr (fun _ => Rx.zero)) 89) = w' := by
  have hmf : ∀ (fn : Fn) (first cap : Array Value) (w : World), (Instr.makeFunc fn first cap).run Try.prog w = .ok (.func fn first cap) w := fun _ _ _ _ => rfl
  have hz := zero89
  go_enter Try.func40, Try.ntmps40
  go_wp2_with (go_at_call 62; refine (none_nil _).mono ?_; rintro e w1 ⟨rfl, rfl⟩)
  go_ret
  exact ⟨rfl, rfl⟩
set_option maxRecDepth 100000 in
theorem contexts_none (g : Nat) (S : Nat → Rx) (T : Int) (w : World) (h : CB w g false S T) : Calls Try.prog 40 #[.pointer (some ⟨g, 0, none⟩)] w fun e w' => e = .returned (.func (.func 71) #[] #[.pointer (some ⟨w.heap.size, 0, none⟩)]) ∧ w.alloc (.cells (caArr (fun _ => Rx.zero)) 89) = w' := by
  have hmf : ∀ (fn : Fn) (first cap : Array Value) (w : World), (Instr.makeFunc fn first cap).run Try.prog w = .ok (.func fn first cap) w := fun _ _ _ _ => rfl
  have hz := zero89
  have HB := Lib.hid (fun o : Obj => none_ok g false S T _ (h.alloc o))
  clear h
  go_enter Try.func40, Try.ntmps40
  go_wp2_with (go_at_call 62; refine (HB.out _).mono ?_; rintro e w1 ⟨rfl, rfl⟩)
  go_ret
  exact ⟨rfl, rfl⟩
theorem clone_nil (w : World) : Calls Try.prog 42 #[.pointer none] w fun e w' => e = .returned (.pointer none) ∧ w = w' := by
  go_enter Try.func42, Try.ntmps42
  go_wp2_with (go_at_call 62; refine (none_nil _).mono ?_; rintro e w1 ⟨rfl, rfl⟩)
  go_ret
  exact ⟨rfl, rfl⟩
theorem clone_none (g : Nat) (S : Nat → Rx) (T : Int) (w : World) (h : CB w g false S T) : Calls Try.prog 42 #[.pointer (some ⟨g, 0, none⟩)] w fun e w' => e = .returned (.pointer none) ∧ w = w' := by
  have HB := Lib.hid (none_ok g false S T _ h)
  clear h
  go_enter Try.func42, Try.ntmps42
  go_wp2_with (go_at_call 62; refine (HB.out).mono ?_; rintro e w1 ⟨rfl, rfl⟩)
  go_ret
  exact ⟨rfl, rfl⟩
/-- Same of two of which the first was not made -/
theorem same_none (p q : Value) (b : Bool) (w : World)
    (h1 : Calls Try.prog 62 #[p] w fun e w' => e = .returned (.bool true) ∧ w = w')
    (h2 : Calls Try.prog 62 #[q] w fun e w' => e = .returned (.bool b) ∧ w = w') :
    Calls Try.prog 43 #[p, q] w fun e w' => e = .returned (.bool b) ∧ w = w' := by
  have H1 := Lib.hid h1
  have H2 := Lib.hid h2
  clear h1 h2
  go_enter Try.func43, Try.ntmps43
  go_wp2_with (first
    | (go_at_call 62; ((with_reducible refine (H1.out).mono ?_); rintro e w1 ⟨rfl, rfl⟩))
    | (go_at_call 62; ((with_reducible refine (H2.out).mono ?_); rintro e w1 ⟨rfl, rfl⟩)))
  go_ret
  exact ⟨rfl, rfl⟩

section
variable {F : Fence} {n : Nat} {P : Program} {ops : Array Oper} {rest : List Oper} {o : Oper} {a : Act} {w : World} {Q : Exit → Act → World → Prop}
theorem wpListIn_load_row (hgd : o.guard = none) (ty : TypeId) (x : Operand) (ho : o.op = .load ty x)
    (g : Nat) (hx : a.eval x = .pointer (some ⟨g, 0, none⟩)) (t : TypeId) (cs : Array Value) (fr : Nat × Nat) (d : TypeDesc) (hg : w.heap[g]? = some (.cells cs t fr))
    (hu : P.underlying ty = some d) (hd : (match d with | .struct _ | .array _ _ => true | _ => false) = true) (hi : (P.info? ty).map (·.size) = some cs.size)
    (h : wpListIn F n P ops Q rest (a.put o.dst (.agg cs)) w) : wpListIn F n P ops Q (o :: rest) a w := by
  refine wpListIn_plain hgd fun K hK' => ?_
  unfold Oper.wpIn
  refine ⟨?_, ?_⟩
  · simp [Oper.about, ho]
  · rw [Oper.semAt_plain F _ _ (by rw [ho]; intro c hc'; cases hc')]
    simp [execOp, ho, hx, Instr.loadAt, Instr.sureAddr, run_loadVar_row w g t ty cs fr d hg hu hd hi, Result.andThen]
    exact hK' _ _ h
end
/-- the contexts in use among the first k -/
def usedL (S : Nat → Rx) : Nat → List Nat
  | 0 => []
  | k + 1 => if (S k).used then usedL S k ++ [k] else usedL S k
theorem usedL_len (S : Nat → Rx) : ∀ k, (usedL S k).length ≤ k
  | 0 => Nat.le_refl _
  | k + 1 => by
    unfold usedL
    have := usedL_len S k
    split
    · simp; omega
    · omega
theorem usedL_mono (S : Nat → Rx) (k : Nat) : ∀ d, (usedL S k).length ≤ (usedL S (k + d)).length
  | 0 => Nat.le_refl _
  | d + 1 => by
    have := usedL_mono S k d
    show _ ≤ (usedL S (k + d + 1)).length
    rw [usedL]
    split
    · simp; omega
    · omega
set_option maxRecDepth 100000 in
set_option maxHeartbeats 2000000 in
theorem ctx_stops (S : Nat → Rx) (fb n : Nat) (w : World) (hB : Blk w fb 89 (caArr S)) (hn : 1 ≤ n) :
    SeqStopsK Fence.wide n Try.prog 71 #[.pointer (some ⟨fb, 0, none⟩)] (fun k : Nat => #[.int .i64 (k : Nat), .agg #[.int .i64 (S k).f0, .int .i64 (S k).f1, .int .i64 (S k).f2, .int .i64 (S k).f3, .int .i64 (S k).f4]]) (fun _ _ => True) (fun xs => xs = usedL S 16) (fun pre => ∃ m, m ≤ 16 ∧ pre = usedL S m) (usedL S 16).length w := fun l J Jx W hW hJ hJx hY h0 => by
  have HY := Lib.hid hY
  have HJ := Lib.hid hJ
  have hBW := hB.below hW hB.lt
  have HBW := Lib.hid hBW
  have HSZ : Hid ((Try.prog.info? 89).map (·.size) = some (caArr S).size) := Lib.hid (by rw [caArr_size]; exact size89)
  clear hJ hJx hY hW hB hBW
  refine callsIn_of_wp Try.func71 rfl trivial ?_ rfl
  simp only [Try.ntmps71, List.size_toArray, List.length_cons, List.length_nil, Nat.reduceAdd, Nat.reduceSub, Array.replicate_succ, Array.replicate_zero, List.push_toArray, List.append_toArray, List.nil_append, List.cons_append]
  refine wpIn_wide.2 (wp_scope_straight ((wpIn_wide (n := n)).1 ?_))
  gi_wp2
  refine wpIn_label ?_
  gi_wp2_with (refine wpListIn_load_row rfl _ _ rfl fb rfl 89 (caArr S) (0, 0) _ HBW.out Try.underlying89 rfl HSZ.out ?_)
  gi_loopw [6] (fun v wr => ∃ k : Nat, k ≤ 16 ∧ v = .int .i64 k ∧ J (usedL S k) wr) (fun v _ => 16 - (intOf v).toNat)
  case atStart => exact ⟨0, by omega, rfl, h0⟩
  case round =>
    obtain ⟨k, hk, rfl, hJk⟩ := hrel
    by_cases hlt : k < 16
    · have hix := ca_index S k hlt
      obtain ⟨W2, hW2⟩ : ∃ W2, W2 = wr.alloc (.cells #[.int .i64 (S k).hops, .int .i64 (S k).ident, .int .i64 (S k).time, .bool (S k).used, .int .i64 (S k).f0, .int .i64 (S k).f1, .int .i64 (S k).f2, .int .i64 (S k).f3, .int .i64 (S k).f4, .bool (S k).began, .int .u8 (S k).gen, .int .i64 (S k).step, .bool (S k).need, .int .i64 (S k).turn] 88) := ⟨_, rfl⟩
      have hJ2 : J (usedL S k) W2 := by rw [hW2]; exact HJ.out _ wr _ none hJk (World.grownBy_alloc wr _ none) (fun r h => by cases h)
      have HUL := Lib.hid (show usedL S (k + 1) = if (S k).used then usedL S k ++ [k] else usedL S k from rfl)
      have HW2 := Lib.hid hW2
      obtain ⟨u, hu⟩ : ∃ u, u = (S k).used := ⟨_, rfl⟩
      rw [← hu] at HUL hix HW2
      cases u
      · have HU := Lib.hid hu
        clear hu hW2
        refine wpIn_wide.2 ?_
        go_wp2
        rw [← HW2.out]
        go_roundw
        case rel => exact ⟨k + 1, by omega, by go_num, by rw [HUL.out]; exact hJ2⟩
        case measure => simp [intOf]; omega
      · have hlen : (usedL S k).length < (usedL S 16).length := by
          have h1 := usedL_mono S (k + 1) (15 - k)
          rw [show k + 1 + (15 - k) = 16 by omega, HUL.out] at h1
          simp at h1
          omega
        obtain ⟨fn, tmps, assign, body, hy, hR⟩ := HY.out (usedL S k) k W2 hJ2 hlen
        have HRr := Lib.hid hR
        have HU := Lib.hid hu
        rw [HW2.out] at hy
        clear hR hu hW2
        gi_wp2
        rw [← HW2.out]
        refine HRr.out.mono ?_
        rintro e w4 (⟨rfl, hJ4, _⟩ | ⟨rfl, hx4⟩)
        · gi_wp2
          go_roundw
          case rel => exact ⟨k + 1, by omega, by go_num, by rw [HUL.out]; exact hJ4⟩
          case measure => simp [intOf]; omega
        · gi_wp2
          try rw [Exit.noGoto_normal]
          go_end0
          exact ⟨⟨_, rfl⟩, .inr ⟨usedL S (k + 1), ⟨k + 1, by omega, rfl⟩, by rw [HUL.out]; exact hx4⟩⟩
    · obtain rfl : k = 16 := by omega
      gi_wp2
      try rw [Exit.noGoto_normal]
      go_end0
      exact ⟨⟨_, rfl⟩, .inl ⟨_, rfl, hJk⟩⟩
end Go.Proofs.Ytejadoadpgcpjaa
