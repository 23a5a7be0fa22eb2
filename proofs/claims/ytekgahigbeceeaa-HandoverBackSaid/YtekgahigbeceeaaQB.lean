/- Contracts of qpp's coprime and divisors. Condition: a block size (divisors); elements from 2 on (coprime). -/
import Derived.Test.YtekgahigbeceeaaQA
import Derived.Test.YtekgahigbeceeaaQM
import Derived.Test.YtekgahigbeceeaaW
namespace Go.Proofs.Ytekgahigbeceeaa
open Go.RowKit

/-- no z j with j below m divides n -/
def noDiv (n : Nat) (z : Nat → Nat) : Nat → Bool
  | 0 => true
  | m + 1 => noDiv n z m && !Nat.beq (n % z m) 0

theorem noDiv_false (n : Nat) (z : Nat → Nat) (k : Nat) (h : n % z k = 0) : ∀ m, k < m → noDiv n z m = false
  | 0, hk => absurd hk (by omega)
  | m + 1, hk => by
    rcases Nat.lt_or_ge k m with hlt | hge
    · simp [noDiv, noDiv_false n z k h m hlt]
    · have : k = m := by omega
      subst this; simp [noDiv, h]

theorem beq_ne {a b : Nat} (h : a ≠ b) : Nat.beq a b = false := by
  rw [← Bool.not_eq_true]; intro e; exact h (Nat.eq_of_beq_eq_true e)
theorem beq_eq {a b : Nat} (h : a = b) : Nat.beq a b = true := by subst h; exact Nat.beq_refl _
theorem noDiv_succ {n : Nat} {z : Nat → Nat} {k : Nat} (h : noDiv n z k = true) (h0 : n % z k ≠ 0) : noDiv n z (k + 1) = true := by
  simp [noDiv, h, beq_ne h0]

set_option maxHeartbeats 400000 in
theorem coprime_any (n : Nat) (A : Option Addr) (len cap B : Nat) (z : Nat → Nat) (w : World) (hr : Row w B A len (fun j => .int .i64 (z j))) (hz : ∀ j, j < len → 2 ≤ z j ∧ z j ≤ 100) (hn : n ≤ 10000) (hl : len ≤ 100) :
    Calls Try.prog 64 #[.int .i64 n, .slice A len cap] w fun e w' => e = .returned (.bool (noDiv n z len)) ∧ w = w' := by
  have HZ := Lib.hid hz
  clear hz
  go_enter Try.func64, Try.ntmps64
  go_wp2
  go_loop [9] (fun i => ∃ k : Nat, k ≤ len ∧ i = .int .i64 k ∧ Hid (noDiv n z k = true)) (fun i => len - (intOf i).toNat)
  case atStart => exact ⟨0, Nat.zero_le _, rfl, rfl⟩
  case round =>
    obtain ⟨k, hk, rfl, hd⟩ := hrel
    by_cases hlt : k < len
    · obtain ⟨b, off, rfl, hb, hc⟩ := hr (by omega)
      have hck : w.cell? ⟨b, off + k, none⟩ = some (.int .i64 (z k)) := hc k hlt
      have hzk := (HZ.out k hlt)
      obtain ⟨y, hy⟩ : ∃ y, y = z k := ⟨_, rfl⟩
      rw [← hy] at hck hzk
      obtain ⟨hz1, hz2⟩ := hzk
      have HY := Lib.hid hy
      clear hc hy
      by_cases h0 : n % y = 0
      · have e0 : (((n : Int) % (y : Int)) == 0) = true := by simp; omega
        go_wp2
        go_ret
        exact ⟨ret_bool (noDiv_false n z k (by rw [← HY.out]; exact h0) len hlt).symm, rfl⟩
      · have e0 : (((n : Int) % (y : Int)) == 0) = false := by simp; omega
        go_wp2
        go_round
        case rel => exact ⟨k + 1, by omega, by go_num, noDiv_succ hd.out (by rw [← HY.out]; exact h0)⟩
        case measure => simp [intOf]; omega
    · go_wp2
      go_ret
      obtain rfl : k = len := by omega
      exact ⟨ret_bool hd.out.symm, rfl⟩

/-- the array of the primes: those of l, then zeros -/
def primesA (l : List Nat) : Array Value := (l.map (fun x => Value.int .i64 ((x : Nat) : Int)) ++ List.replicate (50 - l.length) (Value.int .i64 0)).toArray
theorem primesA_nil : primesA [] = #[Value.int .i64 0, Value.int .i64 0, Value.int .i64 0, Value.int .i64 0, Value.int .i64 0, Value.int .i64 0, Value.int .i64 0, Value.int .i64 0, Value.int .i64 0, Value.int .i64 0, Value.int .i64 0, Value.int .i64 0, Value.int .i64 0, Value.int .i64 0, Value.int .i64 0, Value.int .i64 0, Value.int .i64 0, Value.int .i64 0, Value.int .i64 0, Value.int .i64 0, Value.int .i64 0, Value.int .i64 0, Value.int .i64 0, Value.int .i64 0, Value.int .i64 0, Value.int .i64 0, Value.int .i64 0, Value.int .i64 0, Value.int .i64 0, Value.int .i64 0, Value.int .i64 0, Value.int .i64 0, Value.int .i64 0, Value.int .i64 0, Value.int .i64 0, Value.int .i64 0, Value.int .i64 0, Value.int .i64 0, Value.int .i64 0, Value.int .i64 0, Value.int .i64 0, Value.int .i64 0, Value.int .i64 0, Value.int .i64 0, Value.int .i64 0, Value.int .i64 0, Value.int .i64 0, Value.int .i64 0, Value.int .i64 0, Value.int .i64 0] := rfl
theorem primesA_set (l : List Nat) (p : Nat) (h : l.length < 50) : (primesA l).setIfInBounds l.length (.int .i64 (p : Int)) = primesA (l ++ [p]) := by
  unfold primesA
  obtain ⟨m, hm⟩ : ∃ m, 50 - l.length = m + 1 := ⟨49 - l.length, by omega⟩
  rw [List.setIfInBounds_toArray, hm, List.set_append, if_neg (by simp), show 50 - (l ++ [p]).length = m from by simp; omega]
  simp [List.replicate_succ]
theorem primesA_at (l : List Nat) (h : l.length < 50) : (primesA l)[l.length]? = some (.int .i64 0) := by
  unfold primesA
  obtain ⟨m, hm⟩ : ∃ m, 50 - l.length = m + 1 := ⟨49 - l.length, by omega⟩
  simp [hm, List.replicate_succ]
theorem primesA_get (l : List Nat) (j : Nat) (h : j < l.length) : (primesA l)[j]? = some (.int .i64 ((l[j]?.getD 0 : Nat) : Int)) := by
  unfold primesA
  simp [List.getElem?_append, h]

theorem ends_step {f p l : Nat} (h : QM.ends f p l = true) (hl : 1 < l) : ∃ g, f = g + 1 ∧ 1 ≤ QM.strip 13 p l ∧ QM.strip 13 p l % p ≠ 0 ∧ QM.ends g (p + 1) (QM.strip 13 p l) = true := by
  cases f with
  | zero => simp [QM.ends] at h; omega
  | succ g =>
    refine ⟨g, rfl, ?_⟩
    simp only [QM.ends, Bool.or_eq_true, Bool.and_eq_true, Nat.ble_eq] at h
    rcases h with h | ⟨⟨h1, h2⟩, h3⟩
    · omega
    · refine ⟨h1, ?_, h3⟩
      intro e
      rw [beq_eq e] at h2
      simp at h2
theorem ble_t {a b : Nat} (h : a ≤ b) : Nat.ble a b = true := by rw [Nat.ble_eq]; exact h
theorem ble_f {a b : Nat} (h : b < a) : Nat.ble a b = false := by rw [← Bool.not_eq_true, Nat.ble_eq]; omega
theorem divs_end {f p l : Nat} (hl : l ≤ 1) : QM.divs f p l = [] := by
  cases f with
  | zero => rfl
  | succ g => simp [QM.divs, ble_t hl]
theorem divs_hit {g p l : Nat} (hl : 1 < l) (hd : l % p = 0) : QM.divs (g + 1) p l = p :: QM.divs g (p + 1) (QM.strip 13 p l) := by
  simp [QM.divs, ble_f hl, beq_eq hd]
theorem divs_miss {g p l : Nat} (hl : 1 < l) (hd : l % p ≠ 0) : QM.divs (g + 1) p l = QM.divs g (p + 1) (QM.strip 13 p l) := by
  have e : QM.strip 13 p l = l := by simp [QM.strip, beq_ne hd]
  rw [e]
  simp [QM.divs, ble_f hl, beq_ne hd]
theorem strip_step {f p l S : Nat} (h : QM.strip f p l = S) (hS : S % p ≠ 0) (hd : l % p = 0) : ∃ g, QM.strip g p (l / p) = S := by
  cases f with
  | zero => simp only [QM.strip] at h; subst h; exact absurd hd hS
  | succ g => exact ⟨g, by simpa [QM.strip, beq_eq hd] using h⟩
theorem strip_end {f p l S : Nat} (h : QM.strip f p l = S) (hd : l % p ≠ 0) : l = S := by
  cases f with
  | zero => exact h
  | succ g => simpa [QM.strip, beq_ne hd] using h

theorem primes_under : Try.prog.underlying 100 = some (.array (Try.prog.arrayLen 100) (Try.prog.elem 100)) := by kernel_rfl
theorem primes_len : Try.prog.arrayLen 100 = 50 := by kernel_rfl
theorem primes_size (w : World) : (sizeOf (Try.prog.elem 100)).run Try.prog w = .ok 1 w := by kernel_rfl
theorem primes_cut (b n : Nat) (hn : n ≤ 50) (w : World) : (Instr.sliceAt 100 (.pointer (some ⟨b, 0, none⟩)) none (some (.int .i64 (n : Int))) (some (.int .i64 (n : Int)))).run Try.prog w =
    .ok (.slice (some ⟨b, 0, none⟩) n n) w := by
  rw [run_sliceAt_array_hm w _ _ primes_under _ _ _ _ (by omega) (by omega) (by rw [primes_len]; omega), primes_size]
  simp [slicedAt, Addr.add]

def DivPost (k : Nat) (w : World) (e : Ending) (w' : World) : Prop :=
  ∃ b, e = .returned (.slice (some ⟨b, 0, none⟩) (QM.D k).length (QM.D k).length) ∧ w.heap.size ≤ b ∧ Blk w' b 100 (primesA (QM.D k)) ∧ Below w.heap.size w w'

set_option maxRecDepth 100000 in
set_option maxHeartbeats 800000 in
theorem divisors_any (k : Nat) (hv : QM.valid k = true) (w : World) :
    Calls Try.prog 63 #[.int .i64 k] w (DivPost k w) := by
  have hg := QM.good_of k hv
  have hk1 : 40 ≤ k ∧ k ≤ 6144 := by have := (QM.valid_iff k).1 hv; omega
  obtain ⟨hk1, hk2⟩ := hk1
  simp only [QM.good, Bool.and_eq_true, Nat.ble_eq] at hg
  obtain ⟨⟨⟨⟨⟨⟨⟨⟨⟨⟨⟨⟨⟨⟨he, hlen⟩, _⟩, _⟩, _⟩, _⟩, _⟩, _⟩, _⟩, _⟩, _⟩, _⟩, _⟩, _⟩, _⟩ := hg
  have HE := Lib.hid he
  have HV := Lib.hid hv
  clear he hv
  go_enter Try.func63, Try.ntmps63
  go_wp2
  go_loopw [4, 0, 5] (fun v4 v0 v5 wr => ∃ (f p l : Nat) (acc : List Nat), p + f = 102 ∧ 2 ≤ p ∧ v5 = .int .i64 p ∧ v0 = .int .i64 l ∧ v4 = .int .i64 (acc.length : Nat) ∧ 1 ≤ l ∧ l ≤ 6144 ∧
      Hid (acc ++ QM.divs f p l = QM.D k) ∧ Hid (QM.ends f p l = true) ∧ Blk wr w.heap.size 100 (primesA acc) ∧ Below w.heap.size w wr) (fun _ _ v5 _ => (103 - intOf v5).toNat)
  case atStart => exact ⟨100, 2, k, [], rfl, by omega, rfl, rfl, rfl, by omega, by omega, rfl, HE.out, by rw [primesA_nil]; exact Blk.new _ _ _, (Below.refl _ _).alloc (Nat.le_refl _) _⟩
  case round =>
    obtain ⟨f, p, l, acc, hpf, hp2, rfl, rfl, rfl, hl1, hl2, hD, hE, hB, hW⟩ := hrel
    have hal : acc.length ≤ 12 := by
      have := congrArg List.length hD.out
      rw [List.length_append] at this
      omega
    by_cases hl : 1 < l
    · obtain ⟨g, rfl, hs1, hs2, hs3⟩ := ends_step hE.out hl
      obtain ⟨S, hS⟩ : ∃ S, S = QM.strip 13 p l := ⟨_, rfl⟩
      rw [← hS] at hs1 hs2 hs3
      have HS := Lib.hid hS
      have H2 := Lib.hid hs2
      have H3 := Lib.hid hs3
      have hpl : p ≤ 101 := by omega
      clear hS hs2 hs3
      by_cases hd : l % p = 0
      · have e0 : (((l : Int) % (p : Int)) == 0) = true := by simp; omega
        have hD' : Hid ((acc ++ [p]) ++ QM.divs g (p + 1) S = QM.D k) := by
          have := hD.out
          rw [divs_hit hl hd, ← HS.out] at this
          exact (List.append_assoc ..).trans this
        have hcell : wr.cell? ⟨w.heap.size, acc.length, none⟩ = some (.int .i64 0) := (hB.cell _).trans (primesA_at acc (by omega))
        have hfr : wr.frozen? ⟨w.heap.size, acc.length, none⟩ = false := hB.frozen _
        have hB' : Blk (wr.setCell ⟨w.heap.size, acc.length, none⟩ (.int .i64 p)) w.heap.size 100 (primesA (acc ++ [p])) := by
          rw [← primesA_set acc p (by omega)]; exact hB.set_ _ _
        have hW' : Below w.heap.size w (wr.setCell ⟨w.heap.size, acc.length, none⟩ (.int .i64 p)) := hW.setCell (Nat.le_refl _) _
        have HD0 := Lib.hid hd
        clear hd hD hB hW
        go_wp2
        go_loop [0] (fun v0 => ∃ (f l : Nat), v0 = .int .i64 l ∧ 1 ≤ l ∧ l ≤ 6144 ∧ Hid (QM.strip f p l = S)) (fun v0 => (intOf v0).toNat)
        case atStart => exact ⟨13, l, rfl, hl1, hl2, HS.out.symm⟩
        case round =>
          obtain ⟨f2, l2, rfl, hl21, hl22, h2⟩ := hrel
          by_cases hd2 : l2 % p = 0
          · have e2 : (((l2 : Int) % (p : Int)) == 0) = true := by simp; omega
            obtain ⟨g2, hg2⟩ := strip_step h2.out H2.out hd2
            have hge : p ≤ l2 := by
              rcases Nat.lt_or_ge l2 p with hlt | hge
              · rw [Nat.mod_eq_of_lt hlt] at hd2; omega
              · exact hge
            have hdiv : 1 ≤ l2 / p := Nat.div_pos hge (by omega)
            have hdl : l2 / p < l2 := Nat.div_lt_self (by omega) (by omega)
            have G2 := Lib.hid hg2
            clear hg2 hd2
            go_wp2
            go_round
            case rel => exact ⟨g2, l2 / p, by go_num, hdiv, by omega, G2.out⟩
            case measure => simp [intOf]; omega
          · have e2 : (((l2 : Int) % (p : Int)) == 0) = false := by simp; omega
            have hfin := Lib.hid (strip_end h2.out hd2)
            go_wp2
            go_roundw
            case rel => exact ⟨g, p + 1, S, acc ++ [p], by omega, by omega, by go_num, by rw [hfin.out], by simp, by omega, by have := hfin.out; omega, hD', H3, hB', hW'⟩
            case measure => simp [intOf]; omega
      · have e0 : (((l : Int) % (p : Int)) == 0) = false := by simp; omega
        have hD' : Hid (acc ++ QM.divs g (p + 1) S = QM.D k) := by
          have := hD.out
          rw [divs_miss hl hd, ← HS.out] at this
          exact this
        have HD0 := Lib.hid hd
        clear hd hD
        go_wp2
        go_loop [0] (fun v0 => ∃ (f l : Nat), v0 = .int .i64 l ∧ 1 ≤ l ∧ l ≤ 6144 ∧ Hid (QM.strip f p l = S)) (fun v0 => (intOf v0).toNat)
        case atStart => exact ⟨13, l, rfl, hl1, hl2, HS.out.symm⟩
        case round =>
          obtain ⟨f2, l2, rfl, hl21, hl22, h2⟩ := hrel
          by_cases hd2 : l2 % p = 0
          · have e2 : (((l2 : Int) % (p : Int)) == 0) = true := by simp; omega
            obtain ⟨g2, hg2⟩ := strip_step h2.out H2.out hd2
            have hge : p ≤ l2 := by
              rcases Nat.lt_or_ge l2 p with hlt | hge
              · rw [Nat.mod_eq_of_lt hlt] at hd2; omega
              · exact hge
            have hdiv : 1 ≤ l2 / p := Nat.div_pos hge (by omega)
            have hdl : l2 / p < l2 := Nat.div_lt_self (by omega) (by omega)
            have G2 := Lib.hid hg2
            clear hg2 hd2
            go_wp2
            go_round
            case rel => exact ⟨g2, l2 / p, by go_num, hdiv, by omega, G2.out⟩
            case measure => simp [intOf]; omega
          · have e2 : (((l2 : Int) % (p : Int)) == 0) = false := by simp; omega
            have hfin := Lib.hid (strip_end h2.out hd2)
            go_wp2
            go_roundw
            case rel => exact ⟨g, p + 1, S, acc, by omega, by omega, by go_num, by rw [hfin.out], rfl, by omega, by have := hfin.out; omega, hD', H3, hB, hW⟩
            case measure => simp [intOf]; omega
    · have hacc : acc = QM.D k := by
        have := hD.out
        rw [divs_end (by omega)] at this
        simpa using this
      have HA := Lib.hid hacc
      have hcut := primes_cut w.heap.size acc.length (by omega)
      clear hacc
      go_wp2
      go_ret
      have := HA.out
      subst this
      exact ⟨w.heap.size, rfl, Nat.le_refl _, hB, hW⟩
end Go.Proofs.Ytekgahigbeceeaa
