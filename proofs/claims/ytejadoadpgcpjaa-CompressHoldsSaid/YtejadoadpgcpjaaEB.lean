/- field.Writer: the iterator over the bits of a field. -/
import Derived.Test.YtejadoadpgcpjaaEA
namespace Go.Proofs.Ytejadoadpgcpjaa
open Go.RowKit Go.Shelf

attribute [local go_sem] Oper.semAt_some

/-- bit k of a field of w bits, the most significant one first -/
def vbit (v w k : Nat) : Bool := v / 2 ^ (w - 1 - k) % 2 == 1
def vbits (v w m : Nat) : List Bool := (List.range m).map (vbit v w)
theorem vbits_len (v w m : Nat) : (vbits v w m).length = m := by simp [vbits]
theorem vbits_succ (v w m : Nat) : vbits v w (m + 1) = vbits v w m ++ [vbit v w m] := by simp [vbits, List.range_succ]
def KeepTwo (b1 b2 : Nat) (A B : World) : Prop := B.heap[b1]? = A.heap[b1]? ∧ B.heap[b2]? = A.heap[b2]?
theorem KeepTwo.refl (b1 b2 : Nat) (A : World) : KeepTwo b1 b2 A A := ⟨rfl, rfl⟩
theorem KeepTwo.trans {b1 b2 : Nat} {A B C : World} (h : KeepTwo b1 b2 A B) (k : KeepTwo b1 b2 B C) : KeepTwo b1 b2 A C := ⟨k.1.trans h.1, k.2.trans h.2⟩
theorem keepTwo_b {b1 b2 : Nat} {w : World} (h1 : b1 < w.heap.size) (h2 : b2 < w.heap.size) (W : World) (l : Nat) (o o' : Obj) (hl : w.heap.size ≤ l) (_ : W.heap[l]? = some o) (_ : o.isCells = false) (_ : o.isWalk = false) : KeepTwo b1 b2 W (W.putObj l o') :=
  ⟨World.putObj_heap_other (by omega), World.putObj_heap_other (by omega)⟩
/-- a bit as a number -/
def bi (b : Bool) : Int := if b then 1 else 0
theorem field_bit (v i : Nat) (hv : v < 18446744073709551616) : bits BinOp.and .u64 ((v : Int) / 2 ^ i) 1 % 256 = bi (v / 2 ^ i % 2 == 1) := by
  unfold bi
  have e : ((v : Int) / 2 ^ i) = ((v / 2 ^ i : Nat) : Int) := by simp
  have hl : v / 2 ^ i < 18446744073709551616 := Nat.lt_of_le_of_lt (Nat.div_le_self _ _) hv
  have h1 := u64_and_nat (v / 2 ^ i) 1 hl (by decide)
  rw [e]
  have h2 : bits BinOp.and .u64 ((v / 2 ^ i : Nat) : Int) 1 = ((v / 2 ^ i % 2 : Nat) : Int) := by
    have := h1
    rw [Nat.and_one_is_mod] at this
    exact this
  rw [h2]
  rcases Nat.mod_two_eq_zero_or_one (v / 2 ^ i) with h | h <;> simp [h]

set_option maxRecDepth 100000 in
set_option maxHeartbeats 2000000 in
theorem fbits_stops (v width : Nat) (hv : v < 18446744073709551616) (hw : width ≤ 64) (bw bv n : Nat) (w : World) (hB : Blk w bw 3 #[.int .i64 (width : Int)]) (hV : Blk w bv 102 #[.int .u64 (v : Int)]) (hn : 1 ≤ n) :
    SeqStopsK Fence.wide n Try.prog 106 #[.pointer (some ⟨bw, 0, none⟩), .pointer (some ⟨bv, 0, none⟩)] (fun b : Bool => #[.int .u8 (bi b)]) (KeepTwo bw bv) (fun xs => xs = vbits v width width) (fun pre => ∃ m, m ≤ width ∧ pre = vbits v width m) width w := fun l J Jx W hW hJ hJx hY h0 => by
  have HY := Lib.hid hY
  have HB := Lib.hid (hB.below hW hB.lt)
  have HV := Lib.hid (hV.below hW hV.lt)
  clear hJ hJx hY hB hV
  refine callsIn_of_wp Try.func106 rfl trivial ?_ rfl
  simp only [Try.ntmps106, List.size_toArray, List.length_cons, List.length_nil, Nat.reduceAdd, Nat.reduceSub, Array.replicate_succ, Array.replicate_zero, List.push_toArray, List.append_toArray, List.nil_append, List.cons_append]
  have c0 : W.cell? ⟨bw, 0, none⟩ = some (.int .i64 (width : Int)) := HB.out.cell 0
  refine wpIn_wide.2 (wp_scope_straight ((wpIn_wide (n := n)).1 ?_))
  gi_wp2
  refine wpIn_label ?_
  gi_wp2
  gi_loopw [4] (fun v4 wr => ∃ k : Nat, k ≤ width ∧ v4 = .int .i64 ((width : Int) - 1 - k) ∧ J (vbits v width k) wr ∧ KeepTwo bw bv W wr) (fun v4 _ => (intOf v4 + 1).toNat)
  case atStart => exact ⟨0, Nat.zero_le _, by simp, h0, KeepTwo.refl _ _ _⟩
  case round =>
    obtain ⟨k, hk, rfl, hJk, hb⟩ := hrel
    by_cases hlt : k < width
    · obtain ⟨i, hi⟩ : ∃ i : Nat, i = width - 1 - k := ⟨_, rfl⟩
      have hi2 : (width : Int) - 1 - k = (i : Int) := by omega
      have d1 : wr.cell? ⟨bv, 0, none⟩ = some (.int .u64 (v : Int)) := (show Blk wr bv 102 _ from hb.2.trans HV.out).cell 0
      have hbit := field_bit v i hv
      have hvb : vbit v width k = (v / 2 ^ i % 2 == 1) := by unfold vbit; rw [hi]
      rw [← hvb] at hbit
      obtain ⟨fn, tmps, assign, body, hy, hR⟩ := HY.out (vbits v width k) (vbit v width k) wr hJk (by rw [vbits_len]; exact hlt)
      have HRr := Lib.hid hR
      have hmin : min i 64 = i := by omega
      have HI := Lib.hid hi
      rw [hi2]
      have HI2 := Lib.hid hi2
      clear hR hvb hi hi2
      gi_wp2
      refine HRr.out.mono ?_
      rintro e w4 (⟨rfl, hJ4, hk4⟩ | ⟨rfl, hx4⟩)
      · gi_wp2
        go_roundw
        case rel => exact ⟨k + 1, by omega, by have := HI.out; go_num, by rw [vbits_succ]; exact hJ4, hb.trans hk4⟩
        case measure => simp [intOf] <;> omega
      · gi_wp2
        all_goals (try rw [Exit.noGoto_normal])
        all_goals go_end0
        all_goals exact ⟨⟨_, rfl⟩, .inr ⟨vbits v width (k + 1), ⟨k + 1, by omega, rfl⟩, by rw [vbits_succ]; exact hx4⟩⟩
    · obtain rfl : k = width := by omega
      have e0 : ((k : Int) - 1 - k) = -1 := by omega
      rw [e0]
      clear e0
      gi_wp2
      try rw [Exit.noGoto_normal]
      go_end0
      exact ⟨⟨_, rfl⟩, .inl ⟨_, rfl, hJk⟩⟩
end Go.Proofs.Ytejadoadpgcpjaa
